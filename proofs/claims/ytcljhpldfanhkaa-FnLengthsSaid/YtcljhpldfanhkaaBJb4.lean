/- Texts that the proof needs, put together: G60 G62 Qf Ef G4 G5 G6 G7 G14 G8 G15 Pd Pe G17 Pf G10 G11 G19 G20 Pj G66 M8 M9 M10 M11 M12 M13 M14 M15 M17 M18 M19 M20 M21 G30 G32 G31 G33 G34 G35 G40 G38 G56 G24 G71 G72 G119 G81 G83 G115 Shc G120 G121. -/
import Derived.Laws.Strings
import Derived.Laws.BytesArg
import Derived.Test.YtcljhpldfanhkaaBJb3
set_option linter.unusedVariables false
set_option linter.unusedSimpArgs false
namespace Go.Proofs.Ytcljhpldfanhkaa
open Go.RowKit
def S_IsPlanar (N : Nat) (d_0 : List Int) : Option (Bool) :=
 cnd ((d_0.length : Int) == (6 : Int)) (
  (S_l22Fine N d_0).bind fun v1 =>
  cnd v1 (
   (S_MengerOf N d_0).bind fun v2 =>
   cnd (v2 == (0 : Int)) (
    grd (0 ≤ (0 : Int) ∧ (0 : Int) < (d_0.length : Int)) <|
    grd (0 ≤ (1 : Int) ∧ (1 : Int) < (d_0.length : Int)) <|
    grd (0 ≤ (3 : Int) ∧ (3 : Int) < (d_0.length : Int)) <|
    (S_IsTriangle N (d_0.getD ((0 : Int).toNat) 0) (d_0.getD ((1 : Int).toNat) 0) (d_0.getD ((3 : Int).toNat) 0)).bind fun v3 =>
    cnd v3 (
     grd (0 ≤ (2 : Int) ∧ (2 : Int) < (d_0.length : Int)) <|
     grd (0 ≤ (4 : Int) ∧ (4 : Int) < (d_0.length : Int)) <|
     (S_IsTriangle N (d_0.getD ((0 : Int).toNat) 0) (d_0.getD ((2 : Int).toNat) 0) (d_0.getD ((4 : Int).toNat) 0)).bind fun v4 =>
     cnd v4 (
      grd (0 ≤ (5 : Int) ∧ (5 : Int) < (d_0.length : Int)) <|
      (S_IsTriangle N (d_0.getD ((1 : Int).toNat) 0) (d_0.getD ((2 : Int).toNat) 0) (d_0.getD ((5 : Int).toNat) 0)).bind fun v5 =>
      cnd v5 (
       (S_IsTriangle N (d_0.getD ((3 : Int).toNat) 0) (d_0.getD ((4 : Int).toNat) 0) (d_0.getD ((5 : Int).toNat) 0)).bind fun v6 =>
       some v6) (
       some false)) (
      some false)) (
     some false)) (
    some false)) (
   some false)) (
  some false)
set_option maxRecDepth 20000 in
set_option maxHeartbeats 1600000 in
theorem S_IsPlanar_w (N : Nat) (d_0 : List Int) (r : Bool) (h : S_IsPlanar N d_0 = some r) : PCall Try.prog 66 [.ro false (.ints d_0)] [] (.bool r) := by
 unfold S_IsPlanar at h
 refine pcall_intro (TT := TT) tt Try.func66 rfl rfl Try.ntmps66 (congrArg Array.toList Try.results66) rfl rfl fun w0 => ?_
 refine vSeq ?_
 refine vRegion ?_
 refine oVal tt rfl rfl rfl rfl rfl trivial ?_
 refine vNil ?_
 change VC _ _ _ _
 refine vSeq ?_
 refine vRegionD (by kernel_rfl) (by kernel_rfl) ?_
 iterate 4 refine cVal tt rfl (wNone rfl) rfl rfl rfl trivial ?_
 refine cSplit rfl rfl rfl (fun hb1 => ?_) (fun hb1 => ?_)
 ·replace h := cnd_t hb1 h
  refine cVal tt rfl (wSome rfl rfl rfl rfl hb1) rfl rfl rfl trivial ?_
  obtain ⟨v1, hc2, h⟩ := bind_inv h
  refine cCall (S_l22Fine_w N d_0 v1 hc2) rfl (wSome rfl rfl rfl rfl hb1) rfl rfl rfl rfl rfl rfl ⟨rfl, trivial⟩ ?_
  refine cPickT rfl (wNone rfl) rfl rfl rfl hb1 rfl ?_
  refine cVal tt rfl (wNone rfl) rfl rfl rfl trivial ?_
  refine cSplit rfl rfl rfl (fun hb3 => ?_) (fun hb3 => ?_)
  ·replace h := cnd_t hb3 h
   refine cVal tt rfl (wSome rfl rfl rfl rfl hb3) rfl rfl rfl trivial ?_
   obtain ⟨v2, hc4, h⟩ := bind_inv h
   refine cCall (S_MengerOf_w N d_0 v2 hc4) rfl (wSome rfl rfl rfl rfl hb3) rfl rfl rfl rfl rfl rfl ⟨rfl, trivial⟩ ?_
   refine cVal tt rfl (wSome rfl rfl rfl rfl hb3) rfl rfl rfl trivial ?_
   refine cPickT rfl (wNone rfl) rfl rfl rfl hb3 rfl ?_
   refine cVal tt rfl (wNone rfl) rfl rfl rfl trivial ?_
   refine cSplit rfl rfl rfl (fun hb5 => ?_) (fun hb5 => ?_)
   ·replace h := cnd_t hb5 h
    refine cVal tt rfl (wSome rfl rfl rfl rfl hb5) rfl rfl rfl trivial ?_
    obtain ⟨hg6, h⟩ := grd_inv h
    refine cVal tt rfl (wSome rfl rfl rfl rfl hb5) rfl rfl rfl hg6 ?_
    iterate 2 refine cVal tt rfl (wSome rfl rfl rfl rfl hb5) rfl rfl rfl trivial ?_
    obtain ⟨hg7, h⟩ := grd_inv h
    refine cVal tt rfl (wSome rfl rfl rfl rfl hb5) rfl rfl rfl hg7 ?_
    iterate 2 refine cVal tt rfl (wSome rfl rfl rfl rfl hb5) rfl rfl rfl trivial ?_
    obtain ⟨hg8, h⟩ := grd_inv h
    refine cVal tt rfl (wSome rfl rfl rfl rfl hb5) rfl rfl rfl hg8 ?_
    refine cVal tt rfl (wSome rfl rfl rfl rfl hb5) rfl rfl rfl trivial ?_
    obtain ⟨v3, hc9, h⟩ := bind_inv h
    refine cCall (S_IsTriangle_w N (d_0.getD ((0 : Int).toNat) 0) (d_0.getD ((1 : Int).toNat) 0) (d_0.getD ((3 : Int).toNat) 0) v3 hc9) rfl (wSome rfl rfl rfl rfl hb5) rfl rfl rfl rfl rfl rfl ⟨rfl, rfl, rfl, trivial⟩ ?_
    refine cPickT rfl (wNone rfl) rfl rfl rfl hb5 rfl ?_
    refine cVal tt rfl (wNone rfl) rfl rfl rfl trivial ?_
    refine cSplit rfl rfl rfl (fun hb10 => ?_) (fun hb10 => ?_)
    ·replace h := cnd_t hb10 h
     refine cVal tt rfl (wSome rfl rfl rfl rfl hb10) rfl rfl rfl trivial ?_
     refine cVal tt rfl (wSome rfl rfl rfl rfl hb10) rfl rfl rfl hg6 ?_
     iterate 2 refine cVal tt rfl (wSome rfl rfl rfl rfl hb10) rfl rfl rfl trivial ?_
     obtain ⟨hg11, h⟩ := grd_inv h
     refine cVal tt rfl (wSome rfl rfl rfl rfl hb10) rfl rfl rfl hg11 ?_
     iterate 2 refine cVal tt rfl (wSome rfl rfl rfl rfl hb10) rfl rfl rfl trivial ?_
     obtain ⟨hg12, h⟩ := grd_inv h
     refine cVal tt rfl (wSome rfl rfl rfl rfl hb10) rfl rfl rfl hg12 ?_
     refine cVal tt rfl (wSome rfl rfl rfl rfl hb10) rfl rfl rfl trivial ?_
     obtain ⟨v4, hc13, h⟩ := bind_inv h
     refine cCall (S_IsTriangle_w N (d_0.getD ((0 : Int).toNat) 0) (d_0.getD ((2 : Int).toNat) 0) (d_0.getD ((4 : Int).toNat) 0) v4 hc13) rfl (wSome rfl rfl rfl rfl hb10) rfl rfl rfl rfl rfl rfl ⟨rfl, rfl, rfl, trivial⟩ ?_
     refine cPickT rfl (wNone rfl) rfl rfl rfl hb10 rfl ?_
     refine cVal tt rfl (wNone rfl) rfl rfl rfl trivial ?_
     refine cSplit rfl rfl rfl (fun hb14 => ?_) (fun hb14 => ?_)
     ·replace h := cnd_t hb14 h
      refine cVal tt rfl (wSome rfl rfl rfl rfl hb14) rfl rfl rfl trivial ?_
      refine cVal tt rfl (wSome rfl rfl rfl rfl hb14) rfl rfl rfl hg7 ?_
      iterate 2 refine cVal tt rfl (wSome rfl rfl rfl rfl hb14) rfl rfl rfl trivial ?_
      refine cVal tt rfl (wSome rfl rfl rfl rfl hb14) rfl rfl rfl hg11 ?_
      iterate 2 refine cVal tt rfl (wSome rfl rfl rfl rfl hb14) rfl rfl rfl trivial ?_
      obtain ⟨hg15, h⟩ := grd_inv h
      refine cVal tt rfl (wSome rfl rfl rfl rfl hb14) rfl rfl rfl hg15 ?_
      refine cVal tt rfl (wSome rfl rfl rfl rfl hb14) rfl rfl rfl trivial ?_
      obtain ⟨v5, hc16, h⟩ := bind_inv h
      refine cCall (S_IsTriangle_w N (d_0.getD ((1 : Int).toNat) 0) (d_0.getD ((2 : Int).toNat) 0) (d_0.getD ((5 : Int).toNat) 0) v5 hc16) rfl (wSome rfl rfl rfl rfl hb14) rfl rfl rfl rfl rfl rfl ⟨rfl, rfl, rfl, trivial⟩ ?_
      refine cPickT rfl (wNone rfl) rfl rfl rfl hb14 rfl ?_
      refine cVal tt rfl (wNone rfl) rfl rfl rfl trivial ?_
      refine cSplit rfl rfl rfl (fun hb17 => ?_) (fun hb17 => ?_)
      ·replace h := cnd_t hb17 h
       refine cVal tt rfl (wSome rfl rfl rfl rfl hb17) rfl rfl rfl trivial ?_
       refine cVal tt rfl (wSome rfl rfl rfl rfl hb17) rfl rfl rfl hg8 ?_
       iterate 2 refine cVal tt rfl (wSome rfl rfl rfl rfl hb17) rfl rfl rfl trivial ?_
       refine cVal tt rfl (wSome rfl rfl rfl rfl hb17) rfl rfl rfl hg12 ?_
       iterate 2 refine cVal tt rfl (wSome rfl rfl rfl rfl hb17) rfl rfl rfl trivial ?_
       refine cVal tt rfl (wSome rfl rfl rfl rfl hb17) rfl rfl rfl hg15 ?_
       refine cVal tt rfl (wSome rfl rfl rfl rfl hb17) rfl rfl rfl trivial ?_
       obtain ⟨v6, hc18, h⟩ := bind_inv h
       refine cCall (S_IsTriangle_w N (d_0.getD ((3 : Int).toNat) 0) (d_0.getD ((4 : Int).toNat) 0) (d_0.getD ((5 : Int).toNat) 0) v6 hc18) rfl (wSome rfl rfl rfl rfl hb17) rfl rfl rfl rfl rfl rfl ⟨rfl, rfl, rfl, trivial⟩ ?_
       refine cPickT rfl (wNone rfl) rfl rfl rfl hb17 rfl ?_
       refine cVal tt rfl (wNone rfl) rfl rfl rfl trivial ?_
       refine cNil ?_
       change VC _ _ _ _
       refine vRet ?_
       change ∃ _, _
       cases h
       exact ⟨[], _, rfl, trivial, rfl, (.eq rfl), rfl⟩
      ·replace h := cnd_f hb17 h
       iterate 10 refine cNoT rfl rfl rfl rfl hb17 rfl rfl ?_
       refine cPickF rfl (wNone rfl) rfl rfl rfl hb17 rfl ?_
       refine cVal tt rfl (wNone rfl) rfl rfl rfl trivial ?_
       refine cNil ?_
       change VC _ _ _ _
       refine vRet ?_
       change ∃ _, _
       cases h
       exact ⟨[], _, rfl, trivial, rfl, (.eq rfl), rfl⟩
     ·replace h := cnd_f hb14 h
      iterate 10 refine cNoT rfl rfl rfl rfl hb14 rfl rfl ?_
      refine cPickF rfl (wNone rfl) rfl rfl rfl hb14 rfl ?_
      refine cVal tt rfl (wNone rfl) rfl rfl rfl trivial ?_
      iterate 10 refine cNoT rfl rfl rfl rfl rfl rfl rfl ?_
      refine cPickF rfl (wNone rfl) rfl rfl rfl rfl rfl ?_
      refine cVal tt rfl (wNone rfl) rfl rfl rfl trivial ?_
      refine cNil ?_
      change VC _ _ _ _
      refine vRet ?_
      change ∃ _, _
      cases h
      exact ⟨[], _, rfl, trivial, rfl, (.eq rfl), rfl⟩
    ·replace h := cnd_f hb10 h
     iterate 10 refine cNoT rfl rfl rfl rfl hb10 rfl rfl ?_
     refine cPickF rfl (wNone rfl) rfl rfl rfl hb10 rfl ?_
     refine cVal tt rfl (wNone rfl) rfl rfl rfl trivial ?_
     iterate 10 refine cNoT rfl rfl rfl rfl rfl rfl rfl ?_
     refine cPickF rfl (wNone rfl) rfl rfl rfl rfl rfl ?_
     refine cVal tt rfl (wNone rfl) rfl rfl rfl trivial ?_
     iterate 10 refine cNoT rfl rfl rfl rfl rfl rfl rfl ?_
     refine cPickF rfl (wNone rfl) rfl rfl rfl rfl rfl ?_
     refine cVal tt rfl (wNone rfl) rfl rfl rfl trivial ?_
     refine cNil ?_
     change VC _ _ _ _
     refine vRet ?_
     change ∃ _, _
     cases h
     exact ⟨[], _, rfl, trivial, rfl, (.eq rfl), rfl⟩
   ·replace h := cnd_f hb5 h
    iterate 10 refine cNoT rfl rfl rfl rfl hb5 rfl rfl ?_
    refine cPickF rfl (wNone rfl) rfl rfl rfl hb5 rfl ?_
    refine cVal tt rfl (wNone rfl) rfl rfl rfl trivial ?_
    iterate 10 refine cNoT rfl rfl rfl rfl rfl rfl rfl ?_
    refine cPickF rfl (wNone rfl) rfl rfl rfl rfl rfl ?_
    refine cVal tt rfl (wNone rfl) rfl rfl rfl trivial ?_
    iterate 10 refine cNoT rfl rfl rfl rfl rfl rfl rfl ?_
    refine cPickF rfl (wNone rfl) rfl rfl rfl rfl rfl ?_
    refine cVal tt rfl (wNone rfl) rfl rfl rfl trivial ?_
    iterate 10 refine cNoT rfl rfl rfl rfl rfl rfl rfl ?_
    refine cPickF rfl (wNone rfl) rfl rfl rfl rfl rfl ?_
    refine cVal tt rfl (wNone rfl) rfl rfl rfl trivial ?_
    refine cNil ?_
    change VC _ _ _ _
    refine vRet ?_
    change ∃ _, _
    cases h
    exact ⟨[], _, rfl, trivial, rfl, (.eq rfl), rfl⟩
  ·replace h := cnd_f hb3 h
   iterate 3 refine cNoT rfl rfl rfl rfl hb3 rfl rfl ?_
   refine cPickF rfl (wNone rfl) rfl rfl rfl hb3 rfl ?_
   refine cVal tt rfl (wNone rfl) rfl rfl rfl trivial ?_
   iterate 10 refine cNoT rfl rfl rfl rfl rfl rfl rfl ?_
   refine cPickF rfl (wNone rfl) rfl rfl rfl rfl rfl ?_
   refine cVal tt rfl (wNone rfl) rfl rfl rfl trivial ?_
   iterate 10 refine cNoT rfl rfl rfl rfl rfl rfl rfl ?_
   refine cPickF rfl (wNone rfl) rfl rfl rfl rfl rfl ?_
   refine cVal tt rfl (wNone rfl) rfl rfl rfl trivial ?_
   iterate 10 refine cNoT rfl rfl rfl rfl rfl rfl rfl ?_
   refine cPickF rfl (wNone rfl) rfl rfl rfl rfl rfl ?_
   refine cVal tt rfl (wNone rfl) rfl rfl rfl trivial ?_
   iterate 10 refine cNoT rfl rfl rfl rfl rfl rfl rfl ?_
   refine cPickF rfl (wNone rfl) rfl rfl rfl rfl rfl ?_
   refine cVal tt rfl (wNone rfl) rfl rfl rfl trivial ?_
   refine cNil ?_
   change VC _ _ _ _
   refine vRet ?_
   change ∃ _, _
   cases h
   exact ⟨[], _, rfl, trivial, rfl, (.eq rfl), rfl⟩
 ·replace h := cnd_f hb1 h
  iterate 2 refine cNoT rfl rfl rfl rfl hb1 rfl rfl ?_
  refine cPickF rfl (wNone rfl) rfl rfl rfl hb1 rfl ?_
  refine cVal tt rfl (wNone rfl) rfl rfl rfl trivial ?_
  iterate 3 refine cNoT rfl rfl rfl rfl rfl rfl rfl ?_
  refine cPickF rfl (wNone rfl) rfl rfl rfl rfl rfl ?_
  refine cVal tt rfl (wNone rfl) rfl rfl rfl trivial ?_
  iterate 10 refine cNoT rfl rfl rfl rfl rfl rfl rfl ?_
  refine cPickF rfl (wNone rfl) rfl rfl rfl rfl rfl ?_
  refine cVal tt rfl (wNone rfl) rfl rfl rfl trivial ?_
  iterate 10 refine cNoT rfl rfl rfl rfl rfl rfl rfl ?_
  refine cPickF rfl (wNone rfl) rfl rfl rfl rfl rfl ?_
  refine cVal tt rfl (wNone rfl) rfl rfl rfl trivial ?_
  iterate 10 refine cNoT rfl rfl rfl rfl rfl rfl rfl ?_
  refine cPickF rfl (wNone rfl) rfl rfl rfl rfl rfl ?_
  refine cVal tt rfl (wNone rfl) rfl rfl rfl trivial ?_
  iterate 10 refine cNoT rfl rfl rfl rfl rfl rfl rfl ?_
  refine cPickF rfl (wNone rfl) rfl rfl rfl rfl rfl ?_
  refine cVal tt rfl (wNone rfl) rfl rfl rfl trivial ?_
  refine cNil ?_
  change VC _ _ _ _
  refine vRet ?_
  change ∃ _, _
  cases h
  exact ⟨[], _, rfl, trivial, rfl, (.eq rfl), rfl⟩
def I_IsPlanar (N : Nat) (d_0 : List Int) : Option (Bool) :=
 (I_areSquares N (6 : Int) d_0).bind fun v1 =>
 cnd v1 (
  (I_MengerOf N d_0).bind fun v2 =>
  cnd (v2 == (0 : Int)) (
   grd (0 ≤ (0 : Int) ∧ (0 : Int) < (d_0.length : Int)) <|
   grd (0 ≤ (1 : Int) ∧ (1 : Int) < (d_0.length : Int)) <|
   grd (0 ≤ (3 : Int) ∧ (3 : Int) < (d_0.length : Int)) <|
   (I_IsTriangle N (d_0.getD ((0 : Int).toNat) 0) (d_0.getD ((1 : Int).toNat) 0) (d_0.getD ((3 : Int).toNat) 0)).bind fun v3 =>
   cnd v3 (
    grd (0 ≤ (2 : Int) ∧ (2 : Int) < (d_0.length : Int)) <|
    grd (0 ≤ (4 : Int) ∧ (4 : Int) < (d_0.length : Int)) <|
    (I_IsTriangle N (d_0.getD ((0 : Int).toNat) 0) (d_0.getD ((2 : Int).toNat) 0) (d_0.getD ((4 : Int).toNat) 0)).bind fun v4 =>
    cnd v4 (
     grd (0 ≤ (5 : Int) ∧ (5 : Int) < (d_0.length : Int)) <|
     (I_IsTriangle N (d_0.getD ((1 : Int).toNat) 0) (d_0.getD ((2 : Int).toNat) 0) (d_0.getD ((5 : Int).toNat) 0)).bind fun v5 =>
     cnd v5 (
      (I_IsTriangle N (d_0.getD ((3 : Int).toNat) 0) (d_0.getD ((4 : Int).toNat) 0) (d_0.getD ((5 : Int).toNat) 0)).bind fun v6 =>
      some v6) (
      some false)) (
     some false)) (
    some false)) (
   some false)) (
  some false)
set_option maxRecDepth 20000 in
set_option maxHeartbeats 1600000 in
theorem I_IsPlanar_w (N : Nat) (d_0 : List Int) (r : Bool) (h : I_IsPlanar N d_0 = some r) : PCall Try.prog 52 [.ro false (.ints d_0)] [] (.bool r) := by
 unfold I_IsPlanar at h
 refine pcall_intro (TT := TT) tt Try.func52 rfl rfl Try.ntmps52 (congrArg Array.toList Try.results52) rfl rfl fun w0 => ?_
 refine vSeq ?_
 refine vRegion ?_
 refine oVal tt rfl rfl rfl rfl rfl trivial ?_
 refine vNil ?_
 change VC _ _ _ _
 refine vSeq ?_
 refine vRegionD (by kernel_rfl) (by kernel_rfl) ?_
 refine cVal tt rfl (wNone rfl) rfl rfl rfl trivial ?_
 obtain ⟨v1, hc1, h⟩ := bind_inv h
 refine cCall (I_areSquares_w N (6 : Int) d_0 v1 hc1) rfl (wNone rfl) rfl rfl rfl rfl rfl rfl ⟨rfl, rfl, trivial⟩ ?_
 refine cVal tt rfl (wNone rfl) rfl rfl rfl trivial ?_
 refine cSplit rfl rfl rfl (fun hb2 => ?_) (fun hb2 => ?_)
 ·replace h := cnd_t hb2 h
  refine cVal tt rfl (wSome rfl rfl rfl rfl hb2) rfl rfl rfl trivial ?_
  obtain ⟨v2, hc3, h⟩ := bind_inv h
  refine cCall (I_MengerOf_w N d_0 v2 hc3) rfl (wSome rfl rfl rfl rfl hb2) rfl rfl rfl rfl rfl rfl ⟨rfl, trivial⟩ ?_
  refine cVal tt rfl (wSome rfl rfl rfl rfl hb2) rfl rfl rfl trivial ?_
  refine cPickT rfl (wNone rfl) rfl rfl rfl hb2 rfl ?_
  refine cVal tt rfl (wNone rfl) rfl rfl rfl trivial ?_
  refine cSplit rfl rfl rfl (fun hb4 => ?_) (fun hb4 => ?_)
  ·replace h := cnd_t hb4 h
   refine cVal tt rfl (wSome rfl rfl rfl rfl hb4) rfl rfl rfl trivial ?_
   obtain ⟨hg5, h⟩ := grd_inv h
   refine cVal tt rfl (wSome rfl rfl rfl rfl hb4) rfl rfl rfl hg5 ?_
   iterate 2 refine cVal tt rfl (wSome rfl rfl rfl rfl hb4) rfl rfl rfl trivial ?_
   obtain ⟨hg6, h⟩ := grd_inv h
   refine cVal tt rfl (wSome rfl rfl rfl rfl hb4) rfl rfl rfl hg6 ?_
   iterate 2 refine cVal tt rfl (wSome rfl rfl rfl rfl hb4) rfl rfl rfl trivial ?_
   obtain ⟨hg7, h⟩ := grd_inv h
   refine cVal tt rfl (wSome rfl rfl rfl rfl hb4) rfl rfl rfl hg7 ?_
   refine cVal tt rfl (wSome rfl rfl rfl rfl hb4) rfl rfl rfl trivial ?_
   obtain ⟨v3, hc8, h⟩ := bind_inv h
   refine cCall (I_IsTriangle_w N (d_0.getD ((0 : Int).toNat) 0) (d_0.getD ((1 : Int).toNat) 0) (d_0.getD ((3 : Int).toNat) 0) v3 hc8) rfl (wSome rfl rfl rfl rfl hb4) rfl rfl rfl rfl rfl rfl ⟨rfl, rfl, rfl, trivial⟩ ?_
   refine cPickT rfl (wNone rfl) rfl rfl rfl hb4 rfl ?_
   refine cVal tt rfl (wNone rfl) rfl rfl rfl trivial ?_
   refine cSplit rfl rfl rfl (fun hb9 => ?_) (fun hb9 => ?_)
   ·replace h := cnd_t hb9 h
    refine cVal tt rfl (wSome rfl rfl rfl rfl hb9) rfl rfl rfl trivial ?_
    refine cVal tt rfl (wSome rfl rfl rfl rfl hb9) rfl rfl rfl hg5 ?_
    iterate 2 refine cVal tt rfl (wSome rfl rfl rfl rfl hb9) rfl rfl rfl trivial ?_
    obtain ⟨hg10, h⟩ := grd_inv h
    refine cVal tt rfl (wSome rfl rfl rfl rfl hb9) rfl rfl rfl hg10 ?_
    iterate 2 refine cVal tt rfl (wSome rfl rfl rfl rfl hb9) rfl rfl rfl trivial ?_
    obtain ⟨hg11, h⟩ := grd_inv h
    refine cVal tt rfl (wSome rfl rfl rfl rfl hb9) rfl rfl rfl hg11 ?_
    refine cVal tt rfl (wSome rfl rfl rfl rfl hb9) rfl rfl rfl trivial ?_
    obtain ⟨v4, hc12, h⟩ := bind_inv h
    refine cCall (I_IsTriangle_w N (d_0.getD ((0 : Int).toNat) 0) (d_0.getD ((2 : Int).toNat) 0) (d_0.getD ((4 : Int).toNat) 0) v4 hc12) rfl (wSome rfl rfl rfl rfl hb9) rfl rfl rfl rfl rfl rfl ⟨rfl, rfl, rfl, trivial⟩ ?_
    refine cPickT rfl (wNone rfl) rfl rfl rfl hb9 rfl ?_
    refine cVal tt rfl (wNone rfl) rfl rfl rfl trivial ?_
    refine cSplit rfl rfl rfl (fun hb13 => ?_) (fun hb13 => ?_)
    ·replace h := cnd_t hb13 h
     refine cVal tt rfl (wSome rfl rfl rfl rfl hb13) rfl rfl rfl trivial ?_
     refine cVal tt rfl (wSome rfl rfl rfl rfl hb13) rfl rfl rfl hg6 ?_
     iterate 2 refine cVal tt rfl (wSome rfl rfl rfl rfl hb13) rfl rfl rfl trivial ?_
     refine cVal tt rfl (wSome rfl rfl rfl rfl hb13) rfl rfl rfl hg10 ?_
     iterate 2 refine cVal tt rfl (wSome rfl rfl rfl rfl hb13) rfl rfl rfl trivial ?_
     obtain ⟨hg14, h⟩ := grd_inv h
     refine cVal tt rfl (wSome rfl rfl rfl rfl hb13) rfl rfl rfl hg14 ?_
     refine cVal tt rfl (wSome rfl rfl rfl rfl hb13) rfl rfl rfl trivial ?_
     obtain ⟨v5, hc15, h⟩ := bind_inv h
     refine cCall (I_IsTriangle_w N (d_0.getD ((1 : Int).toNat) 0) (d_0.getD ((2 : Int).toNat) 0) (d_0.getD ((5 : Int).toNat) 0) v5 hc15) rfl (wSome rfl rfl rfl rfl hb13) rfl rfl rfl rfl rfl rfl ⟨rfl, rfl, rfl, trivial⟩ ?_
     refine cPickT rfl (wNone rfl) rfl rfl rfl hb13 rfl ?_
     refine cVal tt rfl (wNone rfl) rfl rfl rfl trivial ?_
     refine cSplit rfl rfl rfl (fun hb16 => ?_) (fun hb16 => ?_)
     ·replace h := cnd_t hb16 h
      refine cVal tt rfl (wSome rfl rfl rfl rfl hb16) rfl rfl rfl trivial ?_
      refine cVal tt rfl (wSome rfl rfl rfl rfl hb16) rfl rfl rfl hg7 ?_
      iterate 2 refine cVal tt rfl (wSome rfl rfl rfl rfl hb16) rfl rfl rfl trivial ?_
      refine cVal tt rfl (wSome rfl rfl rfl rfl hb16) rfl rfl rfl hg11 ?_
      iterate 2 refine cVal tt rfl (wSome rfl rfl rfl rfl hb16) rfl rfl rfl trivial ?_
      refine cVal tt rfl (wSome rfl rfl rfl rfl hb16) rfl rfl rfl hg14 ?_
      refine cVal tt rfl (wSome rfl rfl rfl rfl hb16) rfl rfl rfl trivial ?_
      obtain ⟨v6, hc17, h⟩ := bind_inv h
      refine cCall (I_IsTriangle_w N (d_0.getD ((3 : Int).toNat) 0) (d_0.getD ((4 : Int).toNat) 0) (d_0.getD ((5 : Int).toNat) 0) v6 hc17) rfl (wSome rfl rfl rfl rfl hb16) rfl rfl rfl rfl rfl rfl ⟨rfl, rfl, rfl, trivial⟩ ?_
      refine cPickT rfl (wNone rfl) rfl rfl rfl hb16 rfl ?_
      refine cVal tt rfl (wNone rfl) rfl rfl rfl trivial ?_
      refine cNil ?_
      change VC _ _ _ _
      refine vRet ?_
      change ∃ _, _
      cases h
      exact ⟨[], _, rfl, trivial, rfl, (.eq rfl), rfl⟩
     ·replace h := cnd_f hb16 h
      iterate 10 refine cNoT rfl rfl rfl rfl hb16 rfl rfl ?_
      refine cPickF rfl (wNone rfl) rfl rfl rfl hb16 rfl ?_
      refine cVal tt rfl (wNone rfl) rfl rfl rfl trivial ?_
      refine cNil ?_
      change VC _ _ _ _
      refine vRet ?_
      change ∃ _, _
      cases h
      exact ⟨[], _, rfl, trivial, rfl, (.eq rfl), rfl⟩
    ·replace h := cnd_f hb13 h
     iterate 10 refine cNoT rfl rfl rfl rfl hb13 rfl rfl ?_
     refine cPickF rfl (wNone rfl) rfl rfl rfl hb13 rfl ?_
     refine cVal tt rfl (wNone rfl) rfl rfl rfl trivial ?_
     iterate 10 refine cNoT rfl rfl rfl rfl rfl rfl rfl ?_
     refine cPickF rfl (wNone rfl) rfl rfl rfl rfl rfl ?_
     refine cVal tt rfl (wNone rfl) rfl rfl rfl trivial ?_
     refine cNil ?_
     change VC _ _ _ _
     refine vRet ?_
     change ∃ _, _
     cases h
     exact ⟨[], _, rfl, trivial, rfl, (.eq rfl), rfl⟩
   ·replace h := cnd_f hb9 h
    iterate 10 refine cNoT rfl rfl rfl rfl hb9 rfl rfl ?_
    refine cPickF rfl (wNone rfl) rfl rfl rfl hb9 rfl ?_
    refine cVal tt rfl (wNone rfl) rfl rfl rfl trivial ?_
    iterate 10 refine cNoT rfl rfl rfl rfl rfl rfl rfl ?_
    refine cPickF rfl (wNone rfl) rfl rfl rfl rfl rfl ?_
    refine cVal tt rfl (wNone rfl) rfl rfl rfl trivial ?_
    iterate 10 refine cNoT rfl rfl rfl rfl rfl rfl rfl ?_
    refine cPickF rfl (wNone rfl) rfl rfl rfl rfl rfl ?_
    refine cVal tt rfl (wNone rfl) rfl rfl rfl trivial ?_
    refine cNil ?_
    change VC _ _ _ _
    refine vRet ?_
    change ∃ _, _
    cases h
    exact ⟨[], _, rfl, trivial, rfl, (.eq rfl), rfl⟩
  ·replace h := cnd_f hb4 h
   iterate 10 refine cNoT rfl rfl rfl rfl hb4 rfl rfl ?_
   refine cPickF rfl (wNone rfl) rfl rfl rfl hb4 rfl ?_
   refine cVal tt rfl (wNone rfl) rfl rfl rfl trivial ?_
   iterate 10 refine cNoT rfl rfl rfl rfl rfl rfl rfl ?_
   refine cPickF rfl (wNone rfl) rfl rfl rfl rfl rfl ?_
   refine cVal tt rfl (wNone rfl) rfl rfl rfl trivial ?_
   iterate 10 refine cNoT rfl rfl rfl rfl rfl rfl rfl ?_
   refine cPickF rfl (wNone rfl) rfl rfl rfl rfl rfl ?_
   refine cVal tt rfl (wNone rfl) rfl rfl rfl trivial ?_
   iterate 10 refine cNoT rfl rfl rfl rfl rfl rfl rfl ?_
   refine cPickF rfl (wNone rfl) rfl rfl rfl rfl rfl ?_
   refine cVal tt rfl (wNone rfl) rfl rfl rfl trivial ?_
   refine cNil ?_
   change VC _ _ _ _
   refine vRet ?_
   change ∃ _, _
   cases h
   exact ⟨[], _, rfl, trivial, rfl, (.eq rfl), rfl⟩
 ·replace h := cnd_f hb2 h
  iterate 3 refine cNoT rfl rfl rfl rfl hb2 rfl rfl ?_
  refine cPickF rfl (wNone rfl) rfl rfl rfl hb2 rfl ?_
  refine cVal tt rfl (wNone rfl) rfl rfl rfl trivial ?_
  iterate 10 refine cNoT rfl rfl rfl rfl rfl rfl rfl ?_
  refine cPickF rfl (wNone rfl) rfl rfl rfl rfl rfl ?_
  refine cVal tt rfl (wNone rfl) rfl rfl rfl trivial ?_
  iterate 10 refine cNoT rfl rfl rfl rfl rfl rfl rfl ?_
  refine cPickF rfl (wNone rfl) rfl rfl rfl rfl rfl ?_
  refine cVal tt rfl (wNone rfl) rfl rfl rfl trivial ?_
  iterate 10 refine cNoT rfl rfl rfl rfl rfl rfl rfl ?_
  refine cPickF rfl (wNone rfl) rfl rfl rfl rfl rfl ?_
  refine cVal tt rfl (wNone rfl) rfl rfl rfl trivial ?_
  iterate 10 refine cNoT rfl rfl rfl rfl rfl rfl rfl ?_
  refine cPickF rfl (wNone rfl) rfl rfl rfl rfl rfl ?_
  refine cVal tt rfl (wNone rfl) rfl rfl rfl trivial ?_
  refine cNil ?_
  change VC _ _ _ _
  refine vRet ?_
  change ∃ _, _
  cases h
  exact ⟨[], _, rfl, trivial, rfl, (.eq rfl), rfl⟩
end Go.Proofs.Ytcljhpldfanhkaa
namespace Go.Proofs.Ytcljhpldfanhkaa
open Go.RowKit
def S_LastSquares_l1 (N : Nat) (d_0 : List Int) (k : (List Int) → Option (List Int)) : Nat → ((List Int) × Int) → Option (List Int)
 | 0, _ => none
 | n + 1, (l12, x13) =>
  cnd (decide (x13 ≤ (200 : Int))) (
   grd (0 ≤ (0 : Int) ∧ (0 : Int) < (d_0.length : Int)) <|
   grd (0 ≤ (1 : Int) ∧ (1 : Int) < (d_0.length : Int)) <|
   grd (0 ≤ (2 : Int) ∧ (2 : Int) < (d_0.length : Int)) <|
   grd (0 ≤ (3 : Int) ∧ (3 : Int) < (d_0.length : Int)) <|
   grd (0 ≤ (4 : Int) ∧ (4 : Int) < (d_0.length : Int)) <|
   (S_IsPlanar N ([(d_0.getD ((0 : Int).toNat) 0), (d_0.getD ((1 : Int).toNat) 0), (d_0.getD ((2 : Int).toNat) 0), (d_0.getD ((3 : Int).toNat) 0), (d_0.getD ((4 : Int).toNat) 0), x13] : List Int)).bind fun v15 =>
   cnd v15 (
    grd (l12.length + 1 ≤ 4294967296) <|
    grd (Rg64 (x13 + (1 : Int))) <|
    S_LastSquares_l1 N d_0 k n ((l12 ++ ([x13] : List Int)), (x13 + (1 : Int)))) (
    grd (Rg64 (x13 + (1 : Int))) <|
    S_LastSquares_l1 N d_0 k n (l12, (x13 + (1 : Int))))) (
   k l12)
def S_LastSquares (N : Nat) (d_0 : List Int) : Option (List Int) :=
 cnd ((d_0.length : Int) != (5 : Int)) (
  some ([] : List Int)) (
  (S_l22Fine N d_0).bind fun v1 =>
  cnd (!v1) (
   some ([] : List Int)) (
   S_LastSquares_l1 N d_0 (fun (l8 : List Int) =>
      some l8) N (([] : List Int), (0 : Int))))
set_option maxRecDepth 20000 in
set_option maxHeartbeats 1600000 in
theorem S_LastSquares_w (N : Nat) (d_0 : List Int) (r : List Int) (h : S_LastSquares N d_0 = some r) : PCall Try.prog 67 [.ro false (.ints d_0)] [(3, .ints r)] (.row 0 0 r.length) := by
 unfold S_LastSquares at h
 refine pcall_intro (TT := TT) tt Try.func67 rfl rfl Try.ntmps67 (congrArg Array.toList Try.results67) rfl rfl fun w0 => ?_
 refine vSeq ?_
 refine vRegion ?_
 refine oVal tt rfl rfl rfl rfl rfl trivial ?_
 refine vNil ?_
 change VC _ _ _ _
 refine vSeq ?_
 refine vRegion ?_
 refine oEmpty tt (wNone rfl) rfl rfl rfl rfl ?_
 refine oVal tt rfl rfl rfl rfl rfl trivial ?_
 refine vNil ?_
 change VC _ _ _ _
 iterate 2 refine vSeq ?_
 refine vRegion ?_
 iterate 4 refine oVal tt rfl rfl rfl rfl rfl trivial ?_
 refine oSplit rfl rfl rfl (fun hb1 => ?_) (fun hb1 => ?_)
 ·replace h := cnd_t hb1 h
  iterate 3 refine oNoF rfl rfl rfl rfl hb1 rfl rfl ?_
  refine oPick rfl rfl rfl rfl rfl hb1 rfl ?_
  refine vNil ?_
  change VC _ _ _ _
  refine vCondT rfl rfl ?_
  refine vSeq ?_
  refine vRegion ?_
  iterate 2 refine oVal tt rfl rfl rfl rfl rfl trivial ?_
  refine vNil ?_
  change VC _ _ _ _
  refine vNilT 2 9001 3 (.ints []) rfl rfl rfl rfl ?_
  refine vRet ?_
  change ∃ _, _
  cases h
  exact ⟨[9001], _, rfl, ⟨rfl, trivial⟩, rfl, (.eq rfl), rfl⟩
 ·replace h := cnd_f hb1 h
  refine oValG tt rfl rfl rfl rfl rfl hb1 rfl rfl rfl trivial ?_
  obtain ⟨v1, hc2, h⟩ := bind_inv h
  refine oCallG (S_l22Fine_w N d_0 v1 hc2) rfl rfl rfl rfl hb1 rfl rfl rfl rfl rfl rfl rfl ⟨rfl, trivial⟩ ?_
  refine oValG tt rfl rfl rfl rfl rfl hb1 rfl rfl rfl trivial ?_
  refine oPickF rfl rfl rfl rfl rfl hb1 rfl ?_
  refine vNil ?_
  change VC _ _ _ _
  refine vCond rfl (fun hb3 => ?_) (fun hb3 => ?_)
  ·replace h := cnd_t hb3 h
   refine vSeq ?_
   refine vRegion ?_
   iterate 2 refine oVal tt rfl rfl rfl rfl rfl trivial ?_
   refine vNil ?_
   change VC _ _ _ _
   refine vNilT 2 9001 3 (.ints []) rfl rfl rfl rfl ?_
   refine vRet ?_
   change ∃ _, _
   cases h
   exact ⟨[9001], _, rfl, ⟨rfl, trivial⟩, rfl, (.eq rfl), rfl⟩
  ·replace h := cnd_f hb3 h
   refine vSkip ?_
   change VC _ _ _ _
   iterate 2 refine vSeq ?_
   refine vRegion ?_
   refine oVal tt rfl rfl rfl rfl rfl trivial ?_
   refine vNil ?_
   change VC _ _ _ _
   refine vJoin (F := fun k => S_LastSquares_l1 N d_0 k) h (α := List Int) (J := fun (l8 : List Int) => (⟨[(3, .row 40 0 l8.length)], [(40, some (3, .ints l8))], []⟩ : PS)) ?_ ?_
   ·rintro l8 h
    show VC _ _ _ (⟨[(3, .row 40 0 l8.length)], [(40, some (3, .ints l8))], []⟩ : PS)
    refine vSeq ?_
    refine vRegion ?_
    iterate 2 refine oVal tt rfl rfl rfl rfl rfl trivial ?_
    refine vNil ?_
    change VC _ _ _ _
    refine vRet ?_
    change ∃ _, _
    cases h
    exact ⟨[40], _, rfl, ⟨rfl, trivial⟩, rfl, (.eq rfl), rfl⟩
   ·intro k h
    refine vBlock ?_
    refine vNilT 3 40 3 (.ints []) rfl rfl rfl rfl ?_
    refine vLoopS (α := (List Int) × Int) (fun | (l12, x13) => (⟨[(0, .ro false (.ints d_0)), (3, .row 40 0 l12.length), (4, .int x13)], [(40, some (3, .ints l12))], []⟩ : PS)) (S_LastSquares_l1 N d_0 k) h (En.of ⟨rfl, rfl, rfl, trivial⟩ ⟨rfl, trivial⟩ trivial) (fun _ => rfl) ?_
    rintro n ⟨l12, x13⟩ h
    rw [S_LastSquares_l1] at h
    show VC _ _ _ (⟨[(0, .ro false (.ints d_0)), (3, .row 40 0 l12.length), (4, .int x13)], [(40, some (3, .ints l12))], []⟩ : PS)
    iterate 2 refine vSeq ?_
    refine vRegion ?_
    iterate 2 refine oVal tt rfl rfl rfl rfl rfl trivial ?_
    refine vNil ?_
    change VC _ _ _ _
    refine vCond rfl (fun hb4 => ?_) (fun hb4 => ?_)
    ·replace h := cnd_t hb4 h
     refine vSkip ?_
     change VC _ _ _ _
     refine vSeq ?_
     refine vBlock ?_
     refine vSeq ?_
     refine vRegionN 16 [] [0, 1, 3, 0, 8, 24, 0, 64, 192, 0, 512, 1536, 0, 4096, 12288, 0, 65535, 131071] (by kernel_rfl) (by kernel_rfl) (by kernel_rfl) (by kernel_rfl) (by kernel_rfl) rfl (by rfl) ?_
     refine nVal tt rfl (wNone rfl) rfl rfl rfl rfl rfl trivial ?_
     obtain ⟨hg5, h⟩ := grd_inv h
     refine nVal tt rfl (wNone rfl) rfl rfl rfl rfl rfl hg5 ?_
     iterate 2 refine nVal tt rfl (wNone rfl) rfl rfl rfl rfl rfl trivial ?_
     obtain ⟨hg6, h⟩ := grd_inv h
     refine nVal tt rfl (wNone rfl) rfl rfl rfl rfl rfl hg6 ?_
     iterate 2 refine nVal tt rfl (wNone rfl) rfl rfl rfl rfl rfl trivial ?_
     obtain ⟨hg7, h⟩ := grd_inv h
     refine nVal tt rfl (wNone rfl) rfl rfl rfl rfl rfl hg7 ?_
     iterate 2 refine nVal tt rfl (wNone rfl) rfl rfl rfl rfl rfl trivial ?_
     obtain ⟨hg8, h⟩ := grd_inv h
     refine nVal tt rfl (wNone rfl) rfl rfl rfl rfl rfl hg8 ?_
     iterate 2 refine nVal tt rfl (wNone rfl) rfl rfl rfl rfl rfl trivial ?_
     obtain ⟨hg9, h⟩ := grd_inv h
     refine nVal tt rfl (wNone rfl) rfl rfl rfl rfl rfl hg9 ?_
     iterate 2 refine nVal tt rfl (wNone rfl) rfl rfl rfl rfl rfl trivial ?_
     refine nNil ?_
     change VO _ _ _ _ _
     refine oBuild tt rfl rfl rfl rfl rfl rfl rfl rfl rfl rfl rfl ?_
     obtain ⟨v15, hc10, h⟩ := bind_inv h
     refine oCall (S_IsPlanar_w N ([(d_0.getD ((0 : Int).toNat) 0), (d_0.getD ((1 : Int).toNat) 0), (d_0.getD ((2 : Int).toNat) 0), (d_0.getD ((3 : Int).toNat) 0), (d_0.getD ((4 : Int).toNat) 0), x13] : List Int) v15 hc10) rfl rfl rfl rfl rfl rfl rfl rfl ⟨(.inl ⟨rfl, rfl⟩), trivial⟩ ?_
     refine vNil ?_
     change VC _ _ _ _
     refine vCond rfl (fun hb11 => ?_) (fun hb11 => ?_)
     ·replace h := cnd_t hb11 h
      refine vRegion ?_
      iterate 2 refine oVal tt rfl rfl rfl rfl rfl trivial ?_
      refine oBuild tt rfl rfl rfl rfl rfl rfl rfl rfl rfl rfl rfl ?_
      obtain ⟨hg12, h⟩ := grd_inv h
      refine oAppend tt rfl rfl rfl rfl rfl rfl rfl rfl rfl rfl rfl rfl rfl rfl rfl rfl (Nat.le_of_eq (Nat.zero_add _)) hg12 ?_
      refine oVal tt rfl rfl rfl rfl rfl trivial ?_
      refine vNil ?_
      change VC _ _ _ _
      refine vRegion ?_
      refine oVal tt rfl rfl rfl rfl rfl trivial ?_
      obtain ⟨hg13, h⟩ := grd_inv h
      refine oVal tt rfl rfl rfl rfl rfl hg13 ?_
      refine oVal tt rfl rfl rfl rfl rfl trivial ?_
      refine vNil ?_
      change ∃ _, _
      exact ⟨((l12 ++ ([x13] : List Int)), (x13 + (1 : Int))), (En.of ⟨rfl, rfl, rfl, trivial⟩ ⟨rfl, trivial⟩ trivial), h⟩
     ·replace h := cnd_f hb11 h
      refine vSkip ?_
      change VC _ _ _ _
      refine vRegion ?_
      refine oVal tt rfl rfl rfl rfl rfl trivial ?_
      obtain ⟨hg14, h⟩ := grd_inv h
      refine oVal tt rfl rfl rfl rfl rfl hg14 ?_
      refine oVal tt rfl rfl rfl rfl rfl trivial ?_
      refine vNil ?_
      change ∃ _, _
      exact ⟨(l12, (x13 + (1 : Int))), (En.of ⟨rfl, rfl, rfl, trivial⟩ ⟨rfl, trivial⟩ trivial), h⟩
    ·replace h := cnd_f hb4 h
     refine vExit ?_
     change ∃ _, _
     exact ⟨l12, (En.of ⟨rfl, trivial⟩ ⟨rfl, trivial⟩ trivial), h⟩
def I_LastSquares_l1 (N : Nat) (d_0 : List Int) (k : (List Int) → Option (List Int)) : Nat → ((List Int) × Int) → Option (List Int)
 | 0, _ => none
 | n + 1, (l18, x19) =>
  cnd (decide (x19 ≤ (200 : Int))) (
   (I_copyInts N d_0).bind fun v22 =>
   grd (v22.length + 1 ≤ 4294967296) <|
   (I_IsPlanar N (v22 ++ ([x19] : List Int))).bind fun v23 =>
   cnd v23 (
    grd (l18.length + 1 ≤ 4294967296) <|
    grd (Rg64 (x19 + (1 : Int))) <|
    I_LastSquares_l1 N d_0 k n ((l18 ++ ([x19] : List Int)), (x19 + (1 : Int)))) (
    grd (Rg64 (x19 + (1 : Int))) <|
    I_LastSquares_l1 N d_0 k n (l18, (x19 + (1 : Int))))) (
   k l18)
def I_LastSquares (N : Nat) (d_0 : List Int) : Option (List Int) :=
 (I_areSquares N (5 : Int) d_0).bind fun v1 =>
 cnd (!v1) (
  some ([] : List Int)) (
  I_LastSquares_l1 N d_0 (fun (l12 : List Int) =>
     some l12) N (([] : List Int), (0 : Int)))
set_option maxRecDepth 20000 in
set_option maxHeartbeats 1600000 in
theorem I_LastSquares_w (N : Nat) (d_0 : List Int) (r : List Int) (h : I_LastSquares N d_0 = some r) : PCall Try.prog 54 [.ro false (.ints d_0)] [(3, .ints r)] (.row 0 0 r.length) := by
 unfold I_LastSquares at h
 refine pcall_intro (TT := TT) tt Try.func54 rfl rfl Try.ntmps54 (congrArg Array.toList Try.results54) rfl rfl fun w0 => ?_
 refine vSeq ?_
 refine vRegion ?_
 refine oVal tt rfl rfl rfl rfl rfl trivial ?_
 refine vNil ?_
 change VC _ _ _ _
 refine vSeq ?_
 refine vRegion ?_
 refine oEmpty tt (wNone rfl) rfl rfl rfl rfl ?_
 refine oVal tt rfl rfl rfl rfl rfl trivial ?_
 refine vNil ?_
 change VC _ _ _ _
 iterate 2 refine vSeq ?_
 refine vRegion ?_
 refine oVal tt rfl rfl rfl rfl rfl trivial ?_
 obtain ⟨v1, hc1, h⟩ := bind_inv h
 refine oCall (I_areSquares_w N (5 : Int) d_0 v1 hc1) rfl rfl rfl rfl rfl rfl rfl rfl ⟨rfl, rfl, trivial⟩ ?_
 refine oVal tt rfl rfl rfl rfl rfl trivial ?_
 refine vNil ?_
 change VC _ _ _ _
 refine vCond rfl (fun hb2 => ?_) (fun hb2 => ?_)
 ·replace h := cnd_t hb2 h
  refine vSeq ?_
  refine vRegion ?_
  iterate 2 refine oVal tt rfl rfl rfl rfl rfl trivial ?_
  refine vNil ?_
  change VC _ _ _ _
  refine vNilT 2 9001 3 (.ints []) rfl rfl rfl rfl ?_
  refine vRet ?_
  change ∃ _, _
  cases h
  exact ⟨[9001], _, rfl, ⟨rfl, trivial⟩, rfl, (.eq rfl), rfl⟩
 ·replace h := cnd_f hb2 h
  refine vSkip ?_
  change VC _ _ _ _
  iterate 2 refine vSeq ?_
  refine vRegion ?_
  refine oVal tt rfl rfl rfl rfl rfl trivial ?_
  refine vNil ?_
  change VC _ _ _ _
  refine vJoin (F := fun k => I_LastSquares_l1 N d_0 k) h (α := List Int) (J := fun (l12 : List Int) => (⟨[(3, .row 23 0 l12.length)], [(23, some (3, .ints l12))], []⟩ : PS)) ?_ ?_
  ·rintro l12 h
   show VC _ _ _ (⟨[(3, .row 23 0 l12.length)], [(23, some (3, .ints l12))], []⟩ : PS)
   refine vSeq ?_
   refine vRegion ?_
   iterate 2 refine oVal tt rfl rfl rfl rfl rfl trivial ?_
   refine vNil ?_
   change VC _ _ _ _
   refine vRet ?_
   change ∃ _, _
   cases h
   exact ⟨[23], _, rfl, ⟨rfl, trivial⟩, rfl, (.eq rfl), rfl⟩
  ·intro k h
   refine vBlock ?_
   refine vNilT 3 23 3 (.ints []) rfl rfl rfl rfl ?_
   refine vLoopS (α := (List Int) × Int) (fun | (l18, x19) => (⟨[(0, .ro false (.ints d_0)), (3, .row 23 0 l18.length), (4, .int x19)], [(23, some (3, .ints l18))], []⟩ : PS)) (I_LastSquares_l1 N d_0 k) h (En.of ⟨rfl, rfl, rfl, trivial⟩ ⟨rfl, trivial⟩ trivial) (fun _ => rfl) ?_
   rintro n ⟨l18, x19⟩ h
   rw [I_LastSquares_l1] at h
   show VC _ _ _ (⟨[(0, .ro false (.ints d_0)), (3, .row 23 0 l18.length), (4, .int x19)], [(23, some (3, .ints l18))], []⟩ : PS)
   iterate 2 refine vSeq ?_
   refine vRegion ?_
   iterate 2 refine oVal tt rfl rfl rfl rfl rfl trivial ?_
   refine vNil ?_
   change VC _ _ _ _
   refine vCond rfl (fun hb3 => ?_) (fun hb3 => ?_)
   ·replace h := cnd_t hb3 h
    refine vSkip ?_
    change VC _ _ _ _
    refine vSeq ?_
    refine vBlock ?_
    refine vSeq ?_
    refine vRegion ?_
    refine oVal tt rfl rfl rfl rfl rfl trivial ?_
    obtain ⟨v22, hc4, h⟩ := bind_inv h
    refine oCall (I_copyInts_w N d_0 v22 hc4) rfl rfl rfl rfl rfl rfl rfl rfl ⟨rfl, trivial⟩ ?_
    refine oVal tt rfl rfl rfl rfl rfl trivial ?_
    refine oBuild tt rfl rfl rfl rfl rfl rfl rfl rfl rfl rfl rfl ?_
    obtain ⟨hg5, h⟩ := grd_inv h
    refine oAppend tt rfl rfl rfl rfl rfl rfl rfl rfl rfl rfl rfl rfl rfl rfl rfl rfl (Nat.le_of_eq (Nat.zero_add _)) hg5 ?_
    obtain ⟨v23, hc6, h⟩ := bind_inv h
    refine oCall (I_IsPlanar_w N (v22 ++ ([x19] : List Int)) v23 hc6) rfl rfl rfl rfl rfl rfl rfl rfl ⟨(.inl ⟨rfl, rfl⟩), trivial⟩ ?_
    refine vNil ?_
    change VC _ _ _ _
    refine vCond rfl (fun hb7 => ?_) (fun hb7 => ?_)
    ·replace h := cnd_t hb7 h
     refine vRegion ?_
     iterate 2 refine oVal tt rfl rfl rfl rfl rfl trivial ?_
     refine oBuild tt rfl rfl rfl rfl rfl rfl rfl rfl rfl rfl rfl ?_
     obtain ⟨hg8, h⟩ := grd_inv h
     refine oAppend tt rfl rfl rfl rfl rfl rfl rfl rfl rfl rfl rfl rfl rfl rfl rfl rfl (Nat.le_of_eq (Nat.zero_add _)) hg8 ?_
     refine oVal tt rfl rfl rfl rfl rfl trivial ?_
     refine vNil ?_
     change VC _ _ _ _
     refine vRegion ?_
     refine oVal tt rfl rfl rfl rfl rfl trivial ?_
     obtain ⟨hg9, h⟩ := grd_inv h
     refine oVal tt rfl rfl rfl rfl rfl hg9 ?_
     refine oVal tt rfl rfl rfl rfl rfl trivial ?_
     refine vNil ?_
     change ∃ _, _
     exact ⟨((l18 ++ ([x19] : List Int)), (x19 + (1 : Int))), (En.of ⟨rfl, rfl, rfl, trivial⟩ ⟨rfl, trivial⟩ trivial), h⟩
    ·replace h := cnd_f hb7 h
     refine vSkip ?_
     change VC _ _ _ _
     refine vRegion ?_
     refine oVal tt rfl rfl rfl rfl rfl trivial ?_
     obtain ⟨hg10, h⟩ := grd_inv h
     refine oVal tt rfl rfl rfl rfl rfl hg10 ?_
     refine oVal tt rfl rfl rfl rfl rfl trivial ?_
     refine vNil ?_
     change ∃ _, _
     exact ⟨(l18, (x19 + (1 : Int))), (En.of ⟨rfl, rfl, rfl, trivial⟩ ⟨rfl, trivial⟩ trivial), h⟩
   ·replace h := cnd_f hb3 h
    refine vExit ?_
    change ∃ _, _
    exact ⟨l18, (En.of ⟨rfl, trivial⟩ ⟨rfl, trivial⟩ trivial), h⟩
end Go.Proofs.Ytcljhpldfanhkaa
namespace Go.Proofs.Ytcljhpldfanhkaa
variable {N : Nat}
theorem within_q (x lo hi : Int) : I_within N x lo hi = some (inB x lo hi) := by
 unfold I_within inB
 by_cases h : lo ≤ x
 ·rw [cnd_dt (by omega), decide_eq_true h, Bool.true_and]
 ·rw [cnd_df (by omega), decide_eq_false h, Bool.false_and]
theorem l1In_q (x lo hi : Int) : S_l1In N x lo hi = some (inB x lo hi) := by
 unfold S_l1In inB
 by_cases h : lo ≤ x
 ·rw [cnd_dt (by omega), decide_eq_true h, Bool.true_and]
 ·rw [cnd_df (by omega), decide_eq_false h, Bool.false_and]
def allSq (d : List Int) : Bool := (List.range d.length).all fun i => inB (d.getD i 0) 0 200
theorem fine_s (hN : 4000000 ≤ N) {d : List Int} (hd : d.length ≤ 3000000) : S_l22Fine N d = some (allSq d) := by
 unfold S_l22Fine
 refine (srch (len := d.length) (ok := fun i => inB (d.getD i 0) 0 200) (bad := some false) (fin := some true) (by omega) ?_ ?_).trans (by rw [cnd_some, cnd_bool]; rfl)
 ·intro n i hi _
  rw [S_l22Fine_l1]
  have e : ((i : Int)).toNat = i := by omega
  rw [cnd_dt (by omega), grd_pos (by omega), e, l1In_q, Option.bind_some, cnd_not, grd_R (by omega) (by omega), succ_cast]
 ·intro n _
  rw [S_l22Fine_l1, cnd_df (by omega)]
theorem areSq_s (hN : 4000000 ≤ N) {d : List Int} (hd : d.length ≤ 3000000) (n : Int) : I_areSquares N n d = some (allSq d && ((d.length : Int) == n)) := by
 unfold I_areSquares
 refine (srch (len := d.length) (ok := fun i => inB (d.getD i 0) 0 200) (bad := some false) (fin := some ((d.length : Int) == n)) (by omega) ?_ ?_).trans ?_
 ·intro m i hi _
  rw [I_areSquares_l1]
  have e : ((i : Int)).toNat = i := by omega
  rw [cnd_dt (by omega), grd_pos (by omega), e, within_q, Option.bind_some, cnd_not, grd_R (by omega) (by omega), succ_cast]
 ·intro m _
  rw [I_areSquares_l1, cnd_df (by omega)]
 ·show cnd (allSq d) _ _ = _
  cases allSq d <;> rfl
theorem sq_bdq {a b : Int} (ha : 0 ≤ a) (ha' : a ≤ 200) (hb : 0 ≤ b) (hb' : b ≤ 200) : 0 ≤ a * b ∧ a * b ≤ 40000 := by
 have h1 : 0 ≤ a * b := Int.mul_nonneg ha hb
 have h2 : a * b ≤ 200 * 200 := Int.mul_le_mul ha' hb' hb (by omega)
 exact ⟨h1, by omega⟩
theorem all3 {a b c : Int} : allSq [a, b, c] = (inB a 0 200 && (inB b 0 200 && inB c 0 200)) := by
 unfold allSq
 have : (List.range ([a, b, c] : List Int).length) = [0, 1, 2] := rfl
 rw [this]
 simp [List.all_cons]
theorem heron_x (hN : 4000000 ≤ N) (a b c : Int) : ∃ v : Int, S_HeronOf N a b c = some v ∧ I_HeronOf N a b c = some v := by
 unfold S_HeronOf I_HeronOf
 rw [fine_s hN (by simp), areSq_s hN (by simp), Option.bind_some, Option.bind_some]
 have e3 : ((([a, b, c] : List Int).length : Int) == 3) = true := rfl
 rw [e3, Bool.and_true]
 cases h : allSq [a, b, c] with
 | false => exact ⟨0, rfl, rfl⟩
 | true =>
  rw [all3, Bool.and_eq_true, Bool.and_eq_true] at h
  obtain ⟨ha, hb, hc⟩ := h
  have ha := inB_true.1 ha
  have hb := inB_true.1 hb
  have hc := inB_true.1 hc
  have p1 := sq_bdq ha.1 ha.2 hb.1 hb.2
  have p2 := sq_bdq hb.1 hb.2 hc.1 hc.2
  have p3 := sq_bdq hc.1 hc.2 ha.1 ha.2
  have p4 := sq_bdq ha.1 ha.2 ha.1 ha.2
  have p5 := sq_bdq hb.1 hb.2 hb.1 hb.2
  have p6 := sq_bdq hc.1 hc.2 hc.1 hc.2
  generalize a * b = q1 at *
  generalize b * c = q2 at *
  generalize c * a = q3 at *
  generalize a * a = q4 at *
  generalize b * b = q5 at *
  generalize c * c = q6 at *
  rw [Bool.not_true, cnd_false]
  simp (disch := omega) only [grd_R]
  exact ⟨_, rfl, rfl⟩
theorem triangle_x (hN : 4000000 ≤ N) (a b c : Int) : ∃ v : Bool, S_IsTriangle N a b c = some v ∧ I_IsTriangle N a b c = some v := by
 unfold S_IsTriangle I_IsTriangle
 rw [fine_s hN (by simp), areSq_s hN (by simp), Option.bind_some, Option.bind_some]
 have e3 : ((([a, b, c] : List Int).length : Int) == 3) = true := rfl
 rw [e3, Bool.and_true]
 obtain ⟨v, h1, h2⟩ := heron_x (N := N) hN a b c
 rw [h1, h2]
 cases allSq [a, b, c]
 ·exact ⟨false, rfl, rfl⟩
 ·exact ⟨_, rfl, rfl⟩
theorem det_s : ∀ (n d : Nat) (m : List (List Int)), 100 ≤ N → n ≤ 5 → n < d → Smt n m → ∃ v : Int, I_determinant_r N d m = some v ∧ S_l22Det_r N d m = some v ∧ -dBd n ≤ v ∧ v ≤ dBd n := by
 intro n
 induction n with
 | zero =>
  intro d m hN hn hd h
  obtain ⟨d', rfl⟩ : ∃ d', d = d' + 1 := ⟨d - 1, by omega⟩
  have hl := h.len
  rw [I_determinant_r, S_l22Det_r]
  unfold I_determinant_b S_l22Det_b
  rw [cnd_eqt (by omega), cnd_eqt (by omega)]
  exact ⟨1, rfl, rfl, by decide, by decide⟩
 | succ n ih =>
  intro d m hN hn hd h
  obtain ⟨d', rfl⟩ : ∃ d', d = d' + 1 := ⟨d - 1, by omega⟩
  have hl := h.len
  rw [I_determinant_r, S_l22Det_r]
  unfold I_determinant_b S_l22Det_b
  rw [cnd_eqf (by omega), cnd_eqf (by omega), grd_pos (by omega)]
  have hB : dBd n ≤ 40000000000 := by
   have : n = 0 ∨ n = 1 ∨ n = 2 ∨ n = 3 ∨ n = 4 := by omega
   rcases this with rfl | rfl | rfl | rfl | rfl <;> decide
  obtain ⟨v, v1, v2, v3, v4⟩ := det1_s (N := N) h hN (by omega) (dBd_pos n) hB (rI := I_determinant_r N d') (rS := S_l22Det_r N d') (fun m' hm' => ih d' m' hN (by omega) (by omega) hm') N 0 0 (by omega) (by omega) (by simp) (by simp)
  exact ⟨v, v1, v2, v3, v4⟩
theorem allSq_at {d : List Int} (h : allSq d = true) {i : Nat} (hi : i < d.length) : 0 ≤ d.getD i 0 ∧ d.getD i 0 ≤ 200 := by
 unfold allSq at h
 rw [List.all_eq_true] at h
 exact inB_true.1 (h i (List.mem_range.2 hi))
theorem menger_x (hN : 4000000 ≤ N) {d : List Int} (hd : d.length ≤ 3000000) : ∃ v : Int, S_MengerOf N d = some v ∧ I_MengerOf N d = some v := by
 unfold S_MengerOf I_MengerOf
 rw [areSq_s hN hd, Option.bind_some]
 by_cases h6 : (d.length : Int) = 6
 ·rw [cnd_nef h6, fine_s hN hd, Option.bind_some]
  have e6 : ((d.length : Int) == 6) = true := by simpa using h6
  rw [e6, Bool.and_true]
  cases hq : allSq d with
  | false => exact ⟨0, rfl, rfl⟩
  | true =>
   rw [Bool.not_true, cnd_false, cnd_false]
   have b0 := allSq_at hq (i := 0) (by omega)
   have b1 := allSq_at hq (i := 1) (by omega)
   have b2 := allSq_at hq (i := 2) (by omega)
   have b3 := allSq_at hq (i := 3) (by omega)
   have b4 := allSq_at hq (i := 4) (by omega)
   have b5 := allSq_at hq (i := 5) (by omega)
   have z0 : ((0 : Int)).toNat = 0 := rfl
   have z1 : ((1 : Int)).toNat = 1 := rfl
   have z2 : ((2 : Int)).toNat = 2 := rfl
   have z3 : ((3 : Int)).toNat = 3 := rfl
   have z4 : ((4 : Int)).toNat = 4 := rfl
   have z5 : ((5 : Int)).toNat = 5 := rfl
   rw [z0, z1, z2, z3, z4, z5]
   generalize d.getD 0 0 = x0 at *
   generalize d.getD 1 0 = x1 at *
   generalize d.getD 2 0 = x2 at *
   generalize d.getD 3 0 = x3 at *
   generalize d.getD 4 0 = x4 at *
   generalize d.getD 5 0 = x5 at *
   obtain ⟨v, v1, v2, _⟩ := det_s (N := N) 5 N [[0, 1, 1, 1, 1], [1, 0, x0, x1, x2], [1, x0, 0, x3, x4], [1, x1, x3, 0, x5], [1, x2, x4, x5, 0]] (by omega) (by omega) (by omega) ⟨rfl, fun r hr => by
    simp only [List.mem_cons, List.mem_nil_iff, or_false] at hr
    rcases hr with rfl | rfl | rfl | rfl | rfl <;> refine ⟨rfl, fun x hx => ?_⟩ <;> simp only [List.mem_cons, List.mem_nil_iff, or_false] at hx <;> rcases hx with rfl | rfl | rfl | rfl | rfl <;> omega⟩
   have v1' : I_determinant N [[0, 1, 1, 1, 1], [1, 0, x0, x1, x2], [1, x0, 0, x3, x4], [1, x1, x3, 0, x5], [1, x2, x4, x5, 0]] = some v := v1
   have v2' : S_l22Det N [[0, 1, 1, 1, 1], [1, 0, x0, x1, x2], [1, x0, 0, x3, x4], [1, x1, x3, 0, x5], [1, x2, x4, x5, 0]] = some v := v2
   refine ⟨v, ?_, ?_⟩
   ·simp (disch := omega) only [grd_pos]
    rw [v2']; rfl
   ·simp (disch := omega) only [grd_pos]
    rw [v1']; rfl
 ·have e6 : ((d.length : Int) == 6) = false := by simpa using h6
  rw [cnd_net h6, e6, Bool.and_false]
  exact ⟨0, rfl, rfl⟩
theorem planar_x (hN : 4000000 ≤ N) {d : List Int} (hd : d.length ≤ 3000000) : ∃ v : Bool, S_IsPlanar N d = some v ∧ I_IsPlanar N d = some v := by
 unfold S_IsPlanar I_IsPlanar
 rw [areSq_s hN hd, Option.bind_some]
 obtain ⟨m, m1, m2⟩ := menger_x (N := N) hN hd
 by_cases h6 : (d.length : Int) = 6
 ·rw [cnd_eqt h6, fine_s hN hd, Option.bind_some, m1, m2]
  have e6 : ((d.length : Int) == 6) = true := by simpa using h6
  rw [e6, Bool.and_true]
  cases hq : allSq d with
  | false => exact ⟨false, rfl, rfl⟩
  | true =>
   rw [cnd_true, cnd_true, Option.bind_some, Option.bind_some]
   obtain ⟨t1, a1, b1⟩ := triangle_x (N := N) hN (d.getD ((0 : Int)).toNat 0) (d.getD ((1 : Int)).toNat 0) (d.getD ((3 : Int)).toNat 0)
   obtain ⟨t2, a2, b2⟩ := triangle_x (N := N) hN (d.getD ((0 : Int)).toNat 0) (d.getD ((2 : Int)).toNat 0) (d.getD ((4 : Int)).toNat 0)
   obtain ⟨t3, a3, b3⟩ := triangle_x (N := N) hN (d.getD ((1 : Int)).toNat 0) (d.getD ((2 : Int)).toNat 0) (d.getD ((5 : Int)).toNat 0)
   obtain ⟨t4, a4, b4⟩ := triangle_x (N := N) hN (d.getD ((3 : Int)).toNat 0) (d.getD ((4 : Int)).toNat 0) (d.getD ((5 : Int)).toNat 0)
   have g0 : 0 ≤ (0 : Int) ∧ (0 : Int) < (d.length : Int) := by omega
   have g1 : 0 ≤ (1 : Int) ∧ (1 : Int) < (d.length : Int) := by omega
   have g2 : 0 ≤ (2 : Int) ∧ (2 : Int) < (d.length : Int) := by omega
   have g3 : 0 ≤ (3 : Int) ∧ (3 : Int) < (d.length : Int) := by omega
   have g4 : 0 ≤ (4 : Int) ∧ (4 : Int) < (d.length : Int) := by omega
   have g5 : 0 ≤ (5 : Int) ∧ (5 : Int) < (d.length : Int) := by omega
   simp only [grd_pos g0, grd_pos g1, grd_pos g2, grd_pos g3, grd_pos g4, grd_pos g5, a1, a2, a3, a4, b1, b2, b3, b4, Option.bind_some]
   cases (m == 0) <;> cases t1 <;> cases t2 <;> cases t3 <;> exact ⟨_, rfl, rfl⟩
 ·have e6 : ((d.length : Int) == 6) = false := by simpa using h6
  rw [cnd_eqf h6, e6, Bool.and_false]
  exact ⟨false, rfl, rfl⟩
theorem five {d : List Int} (h : d.length = 5) (x : Int) : [d.getD 0 0, d.getD 1 0, d.getD 2 0, d.getD 3 0, d.getD 4 0, x] = d ++ [x] := by
 match d, h with
 | [a, b, c, e, f], _ => rfl
theorem last1_s (hN : 4000000 ≤ N) {d : List Int} (h5 : d.length = 5) : ∀ (fuel i : Nat) (l : List Int), i ≤ 201 → 201 < fuel + i → l.length ≤ i →
  ∃ l' : List Int, l'.length ≤ 201 ∧ S_LastSquares_l1 N d (fun x => some x) fuel (l, (i : Int)) = some l' ∧ I_LastSquares_l1 N d (fun x => some x) fuel (l, (i : Int)) = some l' := by
 intro fuel
 induction fuel with
 | zero => intro i l h1 h2; omega
 | succ fuel ih =>
  intro i l h1 h2 h3
  rw [S_LastSquares_l1, I_LastSquares_l1]
  by_cases hi : i ≤ 200
  ·have z0 : ((0 : Int)).toNat = 0 := rfl
   have z1 : ((1 : Int)).toNat = 1 := rfl
   have z2 : ((2 : Int)).toNat = 2 := rfl
   have z3 : ((3 : Int)).toNat = 3 := rfl
   have z4 : ((4 : Int)).toNat = 4 := rfl
   have g0 : 0 ≤ (0 : Int) ∧ (0 : Int) < (d.length : Int) := by omega
   have g1 : 0 ≤ (1 : Int) ∧ (1 : Int) < (d.length : Int) := by omega
   have g2 : 0 ≤ (2 : Int) ∧ (2 : Int) < (d.length : Int) := by omega
   have g3 : 0 ≤ (3 : Int) ∧ (3 : Int) < (d.length : Int) := by omega
   have g4 : 0 ≤ (4 : Int) ∧ (4 : Int) < (d.length : Int) := by omega
   obtain ⟨b, a1, a2⟩ := planar_x (N := N) hN (d := d ++ [(i : Int)]) (by simp; omega)
   have gd : d.length + 1 ≤ 4294967296 := by omega
   rw [cnd_dt (by omega), cnd_dt (by omega), grd_pos g0, grd_pos g1, grd_pos g2, grd_pos g3, grd_pos g4, z0, z1, z2, z3, z4, five h5, a1, copyI_s (by omega), Option.bind_some, Option.bind_some, grd_pos gd, a2, Option.bind_some]
   cases b with
   | true =>
    have gl : l.length + 1 ≤ 4294967296 := by omega
    rw [cnd_true, cnd_true, grd_pos gl, grd_R (x := (i : Int) + 1) (by omega) (by omega), grd_pos gl, grd_R (x := (i : Int) + 1) (by omega) (by omega), succ_cast]
    exact ih (i + 1) _ (by omega) (by omega) (by simp; omega)
   | false =>
    rw [cnd_false, cnd_false, grd_R (x := (i : Int) + 1) (by omega) (by omega), grd_R (x := (i : Int) + 1) (by omega) (by omega), succ_cast]
    exact ih (i + 1) _ (by omega) (by omega) (by omega)
  ·rw [cnd_df (by omega), cnd_df (by omega)]
   exact ⟨l, by omega, rfl, rfl⟩
theorem last_x (hN : 4000000 ≤ N) {d : List Int} (hd : d.length ≤ 3000000) : ∃ l : List Int, l.length ≤ 201 ∧ S_LastSquares N d = some l ∧ I_LastSquares N d = some l := by
 unfold S_LastSquares I_LastSquares
 rw [areSq_s hN hd, Option.bind_some]
 by_cases h5 : (d.length : Int) = 5
 ·rw [cnd_nef h5, fine_s hN hd, Option.bind_some]
  have e5 : ((d.length : Int) == 5) = true := by simpa using h5
  rw [e5, Bool.and_true]
  cases allSq d with
  | false => exact ⟨[], by simp, rfl, rfl⟩
  | true =>
   rw [Bool.not_true, cnd_false, cnd_false]
   exact last1_s hN (by omega) N 0 [] (by omega) (by omega) (by simp)
 ·have e5 : ((d.length : Int) == 5) = false := by simpa using h5
  rw [cnd_net h5, e5, Bool.and_false]
  exact ⟨[], by simp, rfl, rfl⟩
end Go.Proofs.Ytcljhpldfanhkaa
namespace Go.Proofs.Ytcljhpldfanhkaa
variable {N : Nat}
def sgn (i : Nat) (x : Int) : Int := match Int.tmod (i : Int) 2 == 1 with | true => -x | false => x
def lapl (m : List (List Int)) (D : List (List Int) → Int) : Nat → Nat → Int
 | 0, _ => 0
 | k + 1, i => sgn i ((m.getD 0 []).getD i 0 * D (minor m i)) + lapl m D k (i + 1)
def detL : Nat → List (List Int) → Int
 | 0, _ => 1
 | n + 1, m => lapl m (detL n) (n + 1) 0
theorem detV1_s {n : Nat} {m : List (List Int)} (h : Smt (n + 1) m) (hN : 100 ≤ N) (hn : n ≤ 4) {B : Int} (hB0 : 0 ≤ B) (hB : B ≤ 40000000000) {rI : List (List Int) → Option Int} {D : List (List Int) → Int}
  (hrec : ∀ m', Smt n m' → rI m' = some (D m') ∧ -B ≤ D m' ∧ D m' ≤ B) :
  ∀ (fuel i : Nat) (d : Int), i ≤ n + 1 → n + 1 < fuel + i → -((i : Nat) * (200 * B)) ≤ d → d ≤ (i : Nat) * (200 * B) →
  I_determinant_l1 N m rI (fun d => some d) fuel (d, (i : Int)) = some (d + lapl m D (n + 1 - i) i) ∧ -(((n + 1 : Nat)) * (200 * B)) ≤ d + lapl m D (n + 1 - i) i ∧ d + lapl m D (n + 1 - i) i ≤ ((n + 1 : Nat)) * (200 * B) := by
 have hlen := h.len
 obtain ⟨r1, r2⟩ := h.at (i := 0) (by omega)
 have z : ((0 : Int)).toNat = 0 := rfl
 intro fuel
 induction fuel with
 | zero => intro i d h1 h2; omega
 | succ fuel ih =>
  intro i d h1 h2 b1 b2
  rw [I_determinant_l1, z]
  have hi5 : (i : Int) ≤ 5 := by omega
  have hP : (0 : Int) ≤ 200 * B := by omega
  have hiP : (i : Nat) * (200 * B) ≤ 5 * (200 * B) := Int.mul_le_mul_of_nonneg_right hi5 hP
  by_cases hi : i < n + 1
  ·have e1 : ((i : Int)).toNat = i := by omega
   obtain ⟨x1, x2⟩ := r2 i hi
   have hsucc : (((i + 1 : Nat)) : Int) * (200 * B) = (i : Nat) * (200 * B) + 200 * B := by
    have : (((i + 1 : Nat)) : Int) = (i : Int) + 1 := by omega
    rw [this, Int.add_mul, Int.one_mul]
   have gI : 0 ≤ (i : Int) ∧ (i : Int) < ((m.getD 0 []).length : Int) := by omega
   rw [cnd_dt (by omega), grd_pos gI, e1, show n + 1 - i = (n + 1 - (i + 1)) + 1 by omega, lapl]
   obtain ⟨v1, v3, v4⟩ := hrec _ (h.minor hi)
   by_cases hx : (m.getD 0 []).getD i 0 = 0
   ·rw [cnd_eqt hx, grd_R (by omega) (by omega), succ_cast, hx, Int.zero_mul]
    have e0 : sgn i 0 = 0 := by unfold sgn; split <;> rfl
    rw [e0, Int.zero_add]
    exact ih (i + 1) d (by omega) (by omega) (by omega) (by omega)
   ·rw [cnd_eqf hx, grd_pos (by omega)]
    have hmb := mul_bd2 x1 x2 v3 v4
    have hneg : (-((m.getD 0 []).getD i 0)) * D (minor m i) = -(((m.getD 0 []).getD i 0) * D (minor m i)) := by rw [Int.neg_mul]
    have htake : (minor m i).take 0 = [] := rfl
    have hI := detI2_s (N := N) h (by omega) hi (k := (fun (l93 : List (List Int)) =>
       grd ((2 : Int) ≠ 0) <|
       cnd ((Int.tmod (i : Int) (2 : Int)) == (1 : Int)) (
        grd (Rg64 (-((m.getD 0 []).getD i 0))) <|
        (rI l93).bind fun v94 =>
        grd (Rg64 ((-((m.getD 0 []).getD i 0)) * v94)) <|
        grd (Rg64 (d + ((-((m.getD 0 []).getD i 0)) * v94))) <|
        grd (Rg64 ((i : Int) + (1 : Int))) <|
        I_determinant_l1 N m rI (fun d => some d) fuel ((d + ((-((m.getD 0 []).getD i 0)) * v94)), ((i : Int) + (1 : Int)))) (
        (rI l93).bind fun v95 =>
        grd (Rg64 (((m.getD 0 []).getD i 0) * v95)) <|
        grd (Rg64 (d + (((m.getD 0 []).getD i 0) * v95))) <|
        grd (Rg64 ((i : Int) + (1 : Int))) <|
        I_determinant_l1 N m rI (fun d => some d) fuel ((d + (((m.getD 0 []).getD i 0) * v95)), ((i : Int) + (1 : Int)))))) N 0 (by omega) (by omega)
    rw [htake] at hI
    obtain ⟨y, hy⟩ : ∃ y, ((m.getD 0 []).getD i 0) * D (minor m i) = y := ⟨_, rfl⟩
    rw [hy] at hmb hneg
    rw [grd_pos (by decide)] at hI
    rw [hy]
    unfold sgn
    cases hodd : ((Int.tmod (i : Int) (2 : Int)) == (1 : Int)) with
    | true =>
     rw [hodd, cnd_true, grd_R (by omega) (by omega), v1, Option.bind_some, hneg, grd_R (by omega) (by omega), grd_R (by omega) (by omega), grd_R (by omega) (by omega), succ_cast] at hI
     have u := ih (i + 1) (d + -y) (by omega) (by omega) (by omega) (by omega)
     rw [Int.add_assoc] at u
     exact ⟨hI.trans u.1, u.2⟩
    | false =>
     rw [hodd, cnd_false, v1, Option.bind_some, hy, grd_R (by omega) (by omega), grd_R (by omega) (by omega), grd_R (by omega) (by omega), succ_cast] at hI
     have u := ih (i + 1) (d + y) (by omega) (by omega) (by omega) (by omega)
     rw [Int.add_assoc] at u
     exact ⟨hI.trans u.1, u.2⟩
  ·obtain rfl : i = n + 1 := by omega
   rw [cnd_df (by omega), show n + 1 - (n + 1) = 0 by omega, lapl, Int.add_zero]
   exact ⟨rfl, b1, b2⟩
theorem detV_s : ∀ (n d : Nat) (m : List (List Int)), 100 ≤ N → n ≤ 5 → n < d → Smt n m → I_determinant_r N d m = some (detL n m) ∧ -dBd n ≤ detL n m ∧ detL n m ≤ dBd n := by
 intro n
 induction n with
 | zero =>
  intro d m hN hn hd h
  obtain ⟨d', rfl⟩ : ∃ d', d = d' + 1 := ⟨d - 1, by omega⟩
  have hl := h.len
  rw [I_determinant_r]
  unfold I_determinant_b
  rw [cnd_eqt (by omega)]
  exact ⟨rfl, by simp [detL, dBd], by simp [detL, dBd]⟩
 | succ n ih =>
  intro d m hN hn hd h
  obtain ⟨d', rfl⟩ : ∃ d', d = d' + 1 := ⟨d - 1, by omega⟩
  have hl := h.len
  rw [I_determinant_r]
  unfold I_determinant_b
  rw [cnd_eqf (by omega), grd_pos (by omega)]
  have hB : dBd n ≤ 40000000000 := by
   have : n = 0 ∨ n = 1 ∨ n = 2 ∨ n = 3 ∨ n = 4 := by omega
   rcases this with rfl | rfl | rfl | rfl | rfl <;> decide
  have := detV1_s (N := N) h hN (by omega) (dBd_pos n) hB (rI := I_determinant_r N d') (D := detL n) (fun m' hm' => ih d' m' hN (by omega) (by omega) hm') N 0 0 (by omega) (by omega) (by simp) (by simp)
  rw [Int.zero_add] at this
  exact this
def menP (x0 x1 x2 x3 x4 x5 : Int) : Int := detL 5 [[0, 1, 1, 1, 1], [1, 0, x0, x1, x2], [1, x0, 0, x3, x4], [1, x1, x3, 0, x5], [1, x2, x4, x5, 0]]
theorem menP_gram (uu vv ww uv uw vw : Int) : menP uu vv ww (uu + vv - 2 * uv) (uu + ww - 2 * uw) (vv + ww - 2 * vw) = 8 * (uu * (vv * ww - vw * vw) - uv * (uv * ww - vw * uw) + uw * (uv * vw - vv * uw)) := by
 simp [menP, detL, lapl, minor, cutL, sgn]
 grind
theorem gram0 (a b c d e f : Int) : (a * a + b * b) * ((c * c + d * d) * (e * e + f * f) - (c * e + d * f) * (c * e + d * f)) - (a * c + b * d) * ((a * c + b * d) * (e * e + f * f) - (c * e + d * f) * (a * e + b * f)) + (a * e + b * f) * ((a * c + b * d) * (c * e + d * f) - (c * c + d * d) * (a * e + b * f)) = 0 := by
 grind
end Go.Proofs.Ytcljhpldfanhkaa
namespace Go.Proofs.Ytcljhpldfanhkaa
open Go.RowKit
def S_l2After (N : Nat) (a_0 : Int × Int) (b_1 : Int × Int) : Option (Bool) :=
 cnd (decide (a_0.1 < b_1.1)) (
  some true) (
  cnd (a_0.1 == b_1.1) (
   some (decide (a_0.2 ≤ b_1.2))) (
   some false))
set_option maxRecDepth 20000 in
set_option maxHeartbeats 1600000 in
theorem S_l2After_w (N : Nat) (a_0 : Int × Int) (b_1 : Int × Int) (r : Bool) (h : S_l2After N a_0 b_1 = some r) : PCall Try.prog 198 [.agg [.int a_0.1, .int a_0.2], .agg [.int b_1.1, .int b_1.2]] [] (.bool r) := by
 unfold S_l2After at h
 refine pcall_intro (TT := TT) tt Try.func198 rfl rfl Try.ntmps198 (congrArg Array.toList Try.results198) rfl rfl fun w0 => ?_
 refine vSeq ?_
 refine vRegion ?_
 iterate 2 refine oBox rfl rfl rfl rfl rfl rfl rfl rfl rfl ?_
 refine oVal tt rfl rfl rfl rfl rfl trivial ?_
 refine vNil ?_
 change VC _ _ _ _
 refine vSeq ?_
 refine vRegion ?_
 iterate 6 refine oVal tt rfl rfl rfl rfl rfl trivial ?_
 refine oSplit rfl rfl rfl (fun hb1 => ?_) (fun hb1 => ?_)
 ·replace h := cnd_t hb1 h
  iterate 6 refine oNoF rfl rfl rfl rfl hb1 rfl rfl ?_
  iterate 5 refine oNoU rfl rfl rfl rfl rfl ?_
  refine oNoF rfl rfl rfl rfl hb1 rfl rfl ?_
  refine oPick rfl rfl rfl rfl rfl hb1 rfl ?_
  refine oVal tt rfl rfl rfl rfl rfl trivial ?_
  refine vNil ?_
  change VC _ _ _ _
  refine vRet ?_
  change ∃ _, _
  cases h
  exact ⟨[], _, rfl, trivial, rfl, (.eq rfl), rfl⟩
 ·replace h := cnd_f hb1 h
  iterate 6 refine oValG tt rfl rfl rfl rfl rfl hb1 rfl rfl rfl trivial ?_
  refine oSplit rfl rfl rfl (fun hb2 => ?_) (fun hb2 => ?_)
  ·replace h := cnd_t hb2 h
   iterate 5 refine oValG tt rfl rfl rfl rfl rfl hb2 rfl rfl rfl trivial ?_
   refine oPickGT rfl rfl rfl rfl hb1 rfl rfl rfl rfl hb2 rfl ?_
   refine oPickF rfl rfl rfl rfl rfl hb1 rfl ?_
   refine oVal tt rfl rfl rfl rfl rfl trivial ?_
   refine vNil ?_
   change VC _ _ _ _
   refine vRet ?_
   change ∃ _, _
   cases h
   exact ⟨[], _, rfl, trivial, rfl, (.eq rfl), rfl⟩
  ·replace h := cnd_f hb2 h
   iterate 5 refine oNoT rfl rfl rfl rfl hb2 rfl rfl ?_
   refine oPickGF rfl rfl rfl rfl hb1 rfl rfl rfl rfl hb2 rfl ?_
   refine oPickF rfl rfl rfl rfl rfl hb1 rfl ?_
   refine oVal tt rfl rfl rfl rfl rfl trivial ?_
   refine vNil ?_
   change VC _ _ _ _
   refine vRet ?_
   change ∃ _, _
   cases h
   exact ⟨[], _, rfl, trivial, rfl, (.eq rfl), rfl⟩
def S_IsGraph_l1 (N : Nat) (g_0 : Grf) (k : Unit → Option (Bool)) : Nat → Int → Option (Bool)
 | 0, _ => none
 | n + 1, i8 =>
  cnd (decide (i8 < (g_0.bars.length : Int))) (
   grd (0 ≤ i8 ∧ i8 < (g_0.bars.length : Int)) <|
   cnd (decide (((g_0.bars.getD ((i8).toNat) (0, 0)).1) < (0 : Int))) (
    some false) (
    cnd (decide (((g_0.bars.getD ((i8).toNat) (0, 0)).1) ≥ ((g_0.bars.getD ((i8).toNat) (0, 0)).2))) (
     some false) (
     cnd (decide (((g_0.bars.getD ((i8).toNat) (0, 0)).2) ≥ g_0.n)) (
      some false) (
      cnd (decide (i8 > (0 : Int))) (
       grd (Rg64 (i8 - (1 : Int))) <|
       grd (0 ≤ (i8 - (1 : Int)) ∧ (i8 - (1 : Int)) < (g_0.bars.length : Int)) <|
       (S_l2After N (g_0.bars.getD (((i8 - (1 : Int))).toNat) (0, 0)) (g_0.bars.getD ((i8).toNat) (0, 0))).bind fun v10 =>
       cnd (!v10) (
        some false) (
        grd (Rg64 (i8 + (1 : Int))) <|
        S_IsGraph_l1 N g_0 k n (i8 + (1 : Int)))) (
       grd (Rg64 (i8 + (1 : Int))) <|
       S_IsGraph_l1 N g_0 k n (i8 + (1 : Int))))))) (
   k ())
def S_IsGraph (N : Nat) (g_0 : Grf) : Option (Bool) :=
 (S_l1In N g_0.n (1 : Int) (8 : Int)).bind fun v1 =>
 cnd (!v1) (
  some false) (
  cnd (decide ((g_0.bars.length : Int) > (24 : Int))) (
   some false) (
   S_IsGraph_l1 N g_0 (fun (_ : Unit) =>
      some true) N (0 : Int)))
set_option maxRecDepth 20000 in
set_option maxHeartbeats 1600000 in
theorem S_IsGraph_w (N : Nat) (g_0 : Grf) (r : Bool) (h : S_IsGraph N g_0 = some r) : PCall Try.prog 178 [gD g_0] [] (.bool r) := by
 unfold S_IsGraph at h
 refine pcall_intro (TT := TT) tt Try.func178 rfl rfl Try.ntmps178 (congrArg Array.toList Try.results178) rfl rfl fun w0 => ?_
 refine vSeq ?_
 refine vRegion ?_
 refine oBox rfl rfl rfl rfl rfl rfl rfl rfl rfl ?_
 refine oVal tt rfl rfl rfl rfl rfl trivial ?_
 refine vNil ?_
 change VC _ _ _ _
 iterate 2 refine vSeq ?_
 refine vRegion ?_
 iterate 2 refine oVal tt rfl rfl rfl rfl rfl trivial ?_
 obtain ⟨v1, hc1, h⟩ := bind_inv h
 refine oCall (S_l1In_w N g_0.n (1 : Int) (8 : Int) v1 hc1) rfl rfl rfl rfl rfl rfl rfl rfl ⟨rfl, rfl, rfl, trivial⟩ ?_
 iterate 2 refine oVal tt rfl rfl rfl rfl rfl trivial ?_
 refine oSplit rfl rfl rfl (fun hb2 => ?_) (fun hb2 => ?_)
 ·replace h := cnd_t hb2 h
  iterate 4 refine oNoF rfl rfl rfl rfl hb2 rfl rfl ?_
  refine oPick rfl rfl rfl rfl rfl hb2 rfl ?_
  refine vNil ?_
  change VC _ _ _ _
  refine vCondT rfl rfl ?_
  refine vSeq ?_
  refine vRegion ?_
  refine oVal tt rfl rfl rfl rfl rfl trivial ?_
  refine vNil ?_
  change VC _ _ _ _
  refine vRet ?_
  change ∃ _, _
  cases h
  exact ⟨[], _, rfl, trivial, rfl, (.eq rfl), rfl⟩
 ·replace h := cnd_f hb2 h
  iterate 4 refine oValG tt rfl rfl rfl rfl rfl hb2 rfl rfl rfl trivial ?_
  refine oPickF rfl rfl rfl rfl rfl hb2 rfl ?_
  refine vNil ?_
  change VC _ _ _ _
  refine vCond rfl (fun hb3 => ?_) (fun hb3 => ?_)
  ·replace h := cnd_t hb3 h
   refine vSeq ?_
   refine vRegion ?_
   refine oVal tt rfl rfl rfl rfl rfl trivial ?_
   refine vNil ?_
   change VC _ _ _ _
   refine vRet ?_
   change ∃ _, _
   cases h
   exact ⟨[], _, rfl, trivial, rfl, (.eq rfl), rfl⟩
  ·replace h := cnd_f hb3 h
   refine vSkip ?_
   change VC _ _ _ _
   iterate 2 refine vSeq ?_
   refine vRegion ?_
   refine oVal tt rfl rfl rfl rfl rfl trivial ?_
   refine vNil ?_
   change VC _ _ _ _
   refine vJoin (F := fun k => S_IsGraph_l1 N g_0 k) h (α := Unit) (J := fun (_ : Unit) => (⟨[], [], []⟩ : PS)) ?_ ?_
   ·rintro ⟨⟩ h
    show VC _ _ _ (⟨[], [], []⟩ : PS)
    refine vSeq ?_
    refine vRegion ?_
    refine oVal tt rfl rfl rfl rfl rfl trivial ?_
    refine vNil ?_
    change VC _ _ _ _
    refine vRet ?_
    change ∃ _, _
    cases h
    exact ⟨[], _, rfl, trivial, rfl, (.eq rfl), rfl⟩
   ·intro k h
    refine vBlock ?_
    refine vLoopS (α := Int) (fun (i8 : Int) => (⟨[(1, .ptr 1 0), (3, .int i8)], [], [(1, some [.int g_0.n, .ro false (.pairs g_0.bars)])]⟩ : PS)) (S_IsGraph_l1 N g_0 k) h (En.of ⟨rfl, rfl, trivial⟩ trivial ⟨rfl, trivial⟩) (fun _ => rfl) ?_
    rintro n i8 h
    rw [S_IsGraph_l1] at h
    show VC _ _ _ (⟨[(1, .ptr 1 0), (3, .int i8)], [], [(1, some [.int g_0.n, .ro false (.pairs g_0.bars)])]⟩ : PS)
    iterate 2 refine vSeq ?_
    refine vRegion ?_
    iterate 5 refine oVal tt rfl rfl rfl rfl rfl trivial ?_
    refine vNil ?_
    change VC _ _ _ _
    refine vCond rfl (fun hb4 => ?_) (fun hb4 => ?_)
    ·replace h := cnd_t hb4 h
     refine vSkip ?_
     change VC _ _ _ _
     refine vSeq ?_
     refine vBlock ?_
     refine vSeq ?_
     refine vRegion ?_
     iterate 3 refine oVal tt rfl rfl rfl rfl rfl trivial ?_
     obtain ⟨hg5, h⟩ := grd_inv h
     refine oVal tt rfl rfl rfl rfl rfl hg5 ?_
     refine oVal tt rfl rfl rfl rfl rfl trivial ?_
     refine oAlloc tt rfl rfl rfl rfl rfl rfl rfl rfl rfl ?_
     refine oStore tt rfl rfl rfl rfl rfl rfl rfl rfl rfl rfl rfl ⟨trivial, trivial, trivial⟩ ?_
     refine vNil ?_
     change VC _ _ _ _
     refine vSeq ?_
     refine vRegionD (by kernel_rfl) (by kernel_rfl) ?_
     iterate 4 refine cVal tt rfl (wNone rfl) rfl rfl rfl trivial ?_
     refine cSplit rfl rfl rfl (fun hb6 => ?_) (fun hb6 => ?_)
     ·replace h := cnd_t hb6 h
      iterate 5 refine cNoF rfl rfl rfl rfl hb6 rfl rfl ?_
      refine cPickT rfl (wNone rfl) rfl rfl rfl hb6 rfl ?_
      refine cVal tt rfl (wNone rfl) rfl rfl rfl trivial ?_
      iterate 5 refine cNoF rfl rfl rfl rfl rfl rfl rfl ?_
      refine cPickT rfl (wNone rfl) rfl rfl rfl rfl rfl ?_
      refine cVal tt rfl (wNone rfl) rfl rfl rfl trivial ?_
      iterate 3 refine cNoF rfl rfl rfl rfl rfl rfl rfl ?_
      iterate 9 refine cNoU rfl rfl rfl rfl rfl ?_
      refine cNoF rfl rfl rfl rfl rfl rfl rfl ?_
      refine cPickT rfl (wNone rfl) rfl rfl rfl rfl rfl ?_
      refine cNil ?_
      change VC _ _ _ _
      refine vCondT rfl rfl ?_
      refine vSeq ?_
      refine vRegion ?_
      refine oVal tt rfl rfl rfl rfl rfl trivial ?_
      refine vNil ?_
      change VC _ _ _ _
      refine vRet ?_
      change ∃ _, _
      cases h
      exact ⟨[], _, rfl, trivial, rfl, (.eq rfl), rfl⟩
     ·replace h := cnd_f hb6 h
      iterate 5 refine cVal tt rfl (wSome rfl rfl rfl rfl hb6) rfl rfl rfl trivial ?_
      refine cPickF rfl (wNone rfl) rfl rfl rfl hb6 rfl ?_
      refine cVal tt rfl (wNone rfl) rfl rfl rfl trivial ?_
      refine cSplit rfl rfl rfl (fun hb7 => ?_) (fun hb7 => ?_)
      ·replace h := cnd_t hb7 h
       iterate 5 refine cNoF rfl rfl rfl rfl hb7 rfl rfl ?_
       refine cPickT rfl (wNone rfl) rfl rfl rfl hb7 rfl ?_
       refine cVal tt rfl (wNone rfl) rfl rfl rfl trivial ?_
       iterate 3 refine cNoF rfl rfl rfl rfl rfl rfl rfl ?_
       iterate 9 refine cNoU rfl rfl rfl rfl rfl ?_
       refine cNoF rfl rfl rfl rfl rfl rfl rfl ?_
       refine cPickT rfl (wNone rfl) rfl rfl rfl rfl rfl ?_
       refine cNil ?_
       change VC _ _ _ _
       refine vCondT rfl rfl ?_
       refine vSeq ?_
       refine vRegion ?_
       refine oVal tt rfl rfl rfl rfl rfl trivial ?_
       refine vNil ?_
       change VC _ _ _ _
       refine vRet ?_
       change ∃ _, _
       cases h
       exact ⟨[], _, rfl, trivial, rfl, (.eq rfl), rfl⟩
      ·replace h := cnd_f hb7 h
       iterate 5 refine cVal tt rfl (wSome rfl rfl rfl rfl hb7) rfl rfl rfl trivial ?_
       refine cPickF rfl (wNone rfl) rfl rfl rfl hb7 rfl ?_
       refine cVal tt rfl (wNone rfl) rfl rfl rfl trivial ?_
       refine cSplit rfl rfl rfl (fun hb8 => ?_) (fun hb8 => ?_)
       ·replace h := cnd_t hb8 h
        iterate 3 refine cNoF rfl rfl rfl rfl hb8 rfl rfl ?_
        iterate 9 refine cNoU rfl rfl rfl rfl rfl ?_
        refine cNoF rfl rfl rfl rfl hb8 rfl rfl ?_
        refine cPickT rfl (wNone rfl) rfl rfl rfl hb8 rfl ?_
        refine cNil ?_
        change VC _ _ _ _
        refine vCondT rfl rfl ?_
        refine vSeq ?_
        refine vRegion ?_
        refine oVal tt rfl rfl rfl rfl rfl trivial ?_
        refine vNil ?_
        change VC _ _ _ _
        refine vRet ?_
        change ∃ _, _
        cases h
        exact ⟨[], _, rfl, trivial, rfl, (.eq rfl), rfl⟩
       ·replace h := cnd_f hb8 h
        iterate 3 refine cVal tt rfl (wSome rfl rfl rfl rfl hb8) rfl rfl rfl trivial ?_
        refine cSplit rfl rfl rfl (fun hb9 => ?_) (fun hb9 => ?_)
        ·replace h := cnd_t hb9 h
         iterate 3 refine cVal tt rfl (wSome rfl rfl rfl rfl hb9) rfl rfl rfl trivial ?_
         obtain ⟨hg10, h⟩ := grd_inv h
         refine cVal tt rfl (wSome rfl rfl rfl rfl hb9) rfl rfl rfl hg10 ?_
         obtain ⟨hg11, h⟩ := grd_inv h
         refine cVal tt rfl (wSome rfl rfl rfl rfl hb9) rfl rfl rfl hg11 ?_
         iterate 2 refine cVal tt rfl (wSome rfl rfl rfl rfl hb9) rfl rfl rfl trivial ?_
         obtain ⟨v10, hc12, h⟩ := bind_inv h
         refine cCall (S_l2After_w N (g_0.bars.getD (((i8 - (1 : Int))).toNat) (0, 0)) (g_0.bars.getD ((i8).toNat) (0, 0)) v10 hc12) rfl (wSome rfl rfl rfl rfl hb9) rfl rfl rfl rfl rfl rfl ⟨⟨rfl, rfl, trivial⟩, ⟨rfl, rfl, trivial⟩, trivial⟩ ?_
         refine cVal tt rfl (wSome rfl rfl rfl rfl hb9) rfl rfl rfl trivial ?_
         refine cPickT rfl (wSome rfl rfl rfl rfl hb8) rfl rfl rfl hb9 rfl ?_
         refine cPickF rfl (wNone rfl) rfl rfl rfl hb8 rfl ?_
         refine cNil ?_
         change VC _ _ _ _
         refine vCond rfl (fun hb13 => ?_) (fun hb13 => ?_)
         ·replace h := cnd_t hb13 h
          refine vSeq ?_
          refine vRegion ?_
          refine oVal tt rfl rfl rfl rfl rfl trivial ?_
          refine vNil ?_
          change VC _ _ _ _
          refine vRet ?_
          change ∃ _, _
          cases h
          exact ⟨[], _, rfl, trivial, rfl, (.eq rfl), rfl⟩
         ·replace h := cnd_f hb13 h
          refine vSkip ?_
          change VC _ _ _ _
          refine vRegion ?_
          refine oVal tt rfl rfl rfl rfl rfl trivial ?_
          obtain ⟨hg14, h⟩ := grd_inv h
          refine oVal tt rfl rfl rfl rfl rfl hg14 ?_
          refine oVal tt rfl rfl rfl rfl rfl trivial ?_
          refine vNil ?_
          change ∃ _, _
          exact ⟨(i8 + (1 : Int)), (En.of ⟨rfl, rfl, trivial⟩ trivial ⟨rfl, trivial⟩), h⟩
        ·replace h := cnd_f hb9 h
         iterate 9 refine cNoT rfl rfl rfl rfl hb9 rfl rfl ?_
         refine cPickF rfl (wSome rfl rfl rfl rfl hb8) rfl rfl rfl hb9 rfl ?_
         refine cPickF rfl (wNone rfl) rfl rfl rfl hb8 rfl ?_
         refine cNil ?_
         change VC _ _ _ _
         refine vCondF rfl rfl ?_
         refine vSkip ?_
         change VC _ _ _ _
         refine vRegion ?_
         refine oVal tt rfl rfl rfl rfl rfl trivial ?_
         obtain ⟨hg15, h⟩ := grd_inv h
         refine oVal tt rfl rfl rfl rfl rfl hg15 ?_
         refine oVal tt rfl rfl rfl rfl rfl trivial ?_
         refine vNil ?_
         change ∃ _, _
         exact ⟨(i8 + (1 : Int)), (En.of ⟨rfl, rfl, trivial⟩ trivial ⟨rfl, trivial⟩), h⟩
    ·replace h := cnd_f hb4 h
     refine vExit ?_
     change ∃ _, _
     exact ⟨(), (En.of trivial trivial trivial), h⟩
end Go.Proofs.Ytcljhpldfanhkaa
namespace Go.Proofs.Ytcljhpldfanhkaa
open Go.RowKit
end Go.Proofs.Ytcljhpldfanhkaa
namespace Go.Proofs.Ytcljhpldfanhkaa
open Go.RowKit
end Go.Proofs.Ytcljhpldfanhkaa
namespace Go.Proofs.Ytcljhpldfanhkaa
open Go.RowKit
end Go.Proofs.Ytcljhpldfanhkaa
namespace Go.Proofs.Ytcljhpldfanhkaa
open Go.RowKit
end Go.Proofs.Ytcljhpldfanhkaa
namespace Go.Proofs.Ytcljhpldfanhkaa
open Go.RowKit
end Go.Proofs.Ytcljhpldfanhkaa
namespace Go.Proofs.Ytcljhpldfanhkaa
open Go.RowKit
end Go.Proofs.Ytcljhpldfanhkaa
namespace Go.Proofs.Ytcljhpldfanhkaa
variable (N : Nat)
theorem l1In_s (x lo hi : Int) : S_l1In N x lo hi = some (inB x lo hi) := by
 unfold S_l1In inB
 rw [cnd_some]
 show some (cnd (decide (lo ≤ x)) _ _) = _
 cases decide (lo ≤ x) <;> rfl
theorem within_s (x lo hi : Int) : I_within N x lo hi = some (inB x lo hi) := by
 unfold I_within inB
 rw [cnd_some]
 show some (cnd (decide (lo ≤ x)) _ _) = _
 cases decide (lo ≤ x) <;> rfl
theorem l2After_s (a b : Int × Int) : S_l2After N a b = some (barLeB a b) := by
 unfold S_l2After barLeB
 simp only [cnd_some]
 cases decide (a.1 < b.1) <;> cases a.1 == b.1 <;> rfl
theorem isGraphS_s (hN : 4000000 ≤ N) {g : Grf} : S_IsGraph N g = some (isGraph g) := by
 unfold S_IsGraph isGraph
 rw [l1In_s, Option.bind_some, cnd_not]
 cases h1 : inB g.n 1 8 with
 | false => rfl
 | true =>
  by_cases h2 : g.bars.length ≤ 24
  ·simp (disch := omega) only [Int.toNat_natCast, tk0, List.length_cons, List.length_nil, grd_pos, grd_T, grd_R, cnd_dt, cnd_df, cnd_true, cnd_false, Option.bind_some]
   refine (srch (len := g.bars.length) (ok := barAt g.n g.bars) (bad := some false) (fin := some true) (by omega) ?_ ?_).trans ?_
   ·intro n i hi _
    rw [S_IsGraph_l1]
    by_cases h0 : i = 0
    ·subst h0
     simp (disch := omega) only [Int.toNat_natCast, tk0, List.length_cons, List.length_nil, grd_pos, grd_T, grd_R, cnd_dt, cnd_df, cnd_true, cnd_false, Option.bind_some, l2After_s, cnd_or, cnd_and, succ_cast]
     refine cnd_congr' ?_ _ _
     simp only [barAt, barOkB]
     rw [Bool.eq_iff_iff]; simp; omega
    ·simp (disch := omega) only [Int.toNat_natCast, tk0, List.length_cons, List.length_nil, grd_pos, grd_T, grd_R, cnd_dt, cnd_df, cnd_true, cnd_false, Option.bind_some, l2After_s, cnd_or, cnd_and, succ_cast, show ((i : Int) - 1).toNat = i - 1 from by omega]
     refine cnd_congr' ?_ _ _
     simp only [barAt, barOkB, decide_eq_false h0, Bool.false_or]
     cases barLeB (g.bars.getD (i - 1) (0, 0)) (g.bars.getD i (0, 0)) <;> (rw [Bool.eq_iff_iff]; simp; try omega)
   ·intro n _
    rw [S_IsGraph_l1]
    simp (disch := omega) only [Int.toNat_natCast, tk0, List.length_cons, List.length_nil, grd_pos, grd_T, grd_R, cnd_dt, cnd_df, cnd_true, cnd_false, Option.bind_some]
   ·rw [cnd_some, cnd_bool]; simp [h2]
  ·simp (disch := omega) only [Int.toNat_natCast, tk0, List.length_cons, List.length_nil, grd_pos, grd_T, grd_R, cnd_dt, cnd_df, cnd_true, cnd_false, Option.bind_some]
   simp [h2]
end Go.Proofs.Ytcljhpldfanhkaa
namespace Go.Proofs.Ytcljhpldfanhkaa
variable (N : Nat)
end Go.Proofs.Ytcljhpldfanhkaa
namespace Go.Proofs.Ytcljhpldfanhkaa
open Go.RowKit
end Go.Proofs.Ytcljhpldfanhkaa
namespace Go.Proofs.Ytcljhpldfanhkaa
variable (N : Nat)
end Go.Proofs.Ytcljhpldfanhkaa
namespace Go.Proofs.Ytcljhpldfanhkaa
open Go.RowKit
end Go.Proofs.Ytcljhpldfanhkaa
namespace Go.Proofs.Ytcljhpldfanhkaa
open Go.RowKit
def I_isPlace (N : Nat) (p_0 : Int × Int) : Option (Bool) :=
 (I_within N p_0.1 (0 : Int) (4 : Int)).bind fun v1 =>
 cnd v1 (
  (I_within N p_0.2 (0 : Int) (4 : Int)).bind fun v2 =>
  some v2) (
  some false)
set_option maxRecDepth 20000 in
set_option maxHeartbeats 1600000 in
theorem I_isPlace_w (N : Nat) (p_0 : Int × Int) (r : Bool) (h : I_isPlace N p_0 = some r) : PCall Try.prog 132 [.agg [.int p_0.1, .int p_0.2]] [] (.bool r) := by
 unfold I_isPlace at h
 refine pcall_intro (TT := TT) tt Try.func132 rfl rfl Try.ntmps132 (congrArg Array.toList Try.results132) rfl rfl fun w0 => ?_
 refine vSeq ?_
 refine vRegion ?_
 refine oBox rfl rfl rfl rfl rfl rfl rfl rfl rfl ?_
 refine oVal tt rfl rfl rfl rfl rfl trivial ?_
 refine vNil ?_
 change VC _ _ _ _
 refine vSeq ?_
 refine vRegion ?_
 iterate 2 refine oVal tt rfl rfl rfl rfl rfl trivial ?_
 obtain ⟨v1, hc1, h⟩ := bind_inv h
 refine oCall (I_within_w N p_0.1 (0 : Int) (4 : Int) v1 hc1) rfl rfl rfl rfl rfl rfl rfl rfl ⟨rfl, rfl, rfl, trivial⟩ ?_
 refine oVal tt rfl rfl rfl rfl rfl trivial ?_
 refine oSplit rfl rfl rfl (fun hb2 => ?_) (fun hb2 => ?_)
 ·replace h := cnd_t hb2 h
  iterate 2 refine oValG tt rfl rfl rfl rfl rfl hb2 rfl rfl rfl trivial ?_
  obtain ⟨v2, hc3, h⟩ := bind_inv h
  refine oCallG (I_within_w N p_0.2 (0 : Int) (4 : Int) v2 hc3) rfl rfl rfl rfl hb2 rfl rfl rfl rfl rfl rfl rfl ⟨rfl, rfl, rfl, trivial⟩ ?_
  refine oPick rfl rfl rfl rfl rfl hb2 rfl ?_
  refine oVal tt rfl rfl rfl rfl rfl trivial ?_
  refine vNil ?_
  change VC _ _ _ _
  refine vRet ?_
  change ∃ _, _
  cases h
  exact ⟨[], _, rfl, trivial, rfl, (.eq rfl), rfl⟩
 ·replace h := cnd_f hb2 h
  iterate 3 refine oNoT rfl rfl rfl rfl hb2 rfl rfl ?_
  refine oPickF rfl rfl rfl rfl rfl hb2 rfl ?_
  refine oVal tt rfl rfl rfl rfl rfl trivial ?_
  refine vNil ?_
  change VC _ _ _ _
  refine vRet ?_
  change ∃ _, _
  cases h
  exact ⟨[], _, rfl, trivial, rfl, (.eq rfl), rfl⟩
end Go.Proofs.Ytcljhpldfanhkaa
namespace Go.Proofs.Ytcljhpldfanhkaa
open Go.RowKit
end Go.Proofs.Ytcljhpldfanhkaa
namespace Go.Proofs.Ytcljhpldfanhkaa
open Go.RowKit
def M_Framework_square (N : Nat) (f_0 : Frm) (a_1 : Int) (b_2 : Int) : Option (Int) :=
 grd (0 ≤ a_1 ∧ a_1 < (f_0.places.length : Int)) <|
 grd (0 ≤ b_2 ∧ b_2 < (f_0.places.length : Int)) <|
 grd (Rg64 (((f_0.places.getD ((a_1).toNat) (0, 0)).1) - ((f_0.places.getD ((b_2).toNat) (0, 0)).1))) <|
 grd (Rg64 (((f_0.places.getD ((a_1).toNat) (0, 0)).2) - ((f_0.places.getD ((b_2).toNat) (0, 0)).2))) <|
 grd (Rg64 ((((f_0.places.getD ((a_1).toNat) (0, 0)).1) - ((f_0.places.getD ((b_2).toNat) (0, 0)).1)) * (((f_0.places.getD ((a_1).toNat) (0, 0)).1) - ((f_0.places.getD ((b_2).toNat) (0, 0)).1)))) <|
 grd (Rg64 ((((f_0.places.getD ((a_1).toNat) (0, 0)).2) - ((f_0.places.getD ((b_2).toNat) (0, 0)).2)) * (((f_0.places.getD ((a_1).toNat) (0, 0)).2) - ((f_0.places.getD ((b_2).toNat) (0, 0)).2)))) <|
 grd (Rg64 (((((f_0.places.getD ((a_1).toNat) (0, 0)).1) - ((f_0.places.getD ((b_2).toNat) (0, 0)).1)) * (((f_0.places.getD ((a_1).toNat) (0, 0)).1) - ((f_0.places.getD ((b_2).toNat) (0, 0)).1))) + ((((f_0.places.getD ((a_1).toNat) (0, 0)).2) - ((f_0.places.getD ((b_2).toNat) (0, 0)).2)) * (((f_0.places.getD ((a_1).toNat) (0, 0)).2) - ((f_0.places.getD ((b_2).toNat) (0, 0)).2))))) <|
 some (((((f_0.places.getD ((a_1).toNat) (0, 0)).1) - ((f_0.places.getD ((b_2).toNat) (0, 0)).1)) * (((f_0.places.getD ((a_1).toNat) (0, 0)).1) - ((f_0.places.getD ((b_2).toNat) (0, 0)).1))) + ((((f_0.places.getD ((a_1).toNat) (0, 0)).2) - ((f_0.places.getD ((b_2).toNat) (0, 0)).2)) * (((f_0.places.getD ((a_1).toNat) (0, 0)).2) - ((f_0.places.getD ((b_2).toNat) (0, 0)).2))))
set_option maxRecDepth 20000 in
set_option maxHeartbeats 1600000 in
theorem M_Framework_square_w (N : Nat) (f_0 : Frm) (a_1 : Int) (b_2 : Int) (r : Int) (h : M_Framework_square N f_0 a_1 b_2 = some r) : PCall Try.prog 133 [fD f_0, .int a_1, .int b_2] [] (.int r) := by
 unfold M_Framework_square at h
 refine pcall_intro (TT := TT) tt Try.func133 rfl rfl Try.ntmps133 (congrArg Array.toList Try.results133) rfl rfl fun w0 => ?_
 refine vSeq ?_
 refine vRegion ?_
 refine oBox rfl rfl rfl rfl rfl rfl rfl rfl rfl ?_
 refine oVal tt rfl rfl rfl rfl rfl trivial ?_
 refine vNil ?_
 change VC _ _ _ _
 refine vSeq ?_
 refine vRegionD (by kernel_rfl) (by kernel_rfl) ?_
 iterate 3 refine cVal tt rfl (wNone rfl) rfl rfl rfl trivial ?_
 obtain ⟨hg1, h⟩ := grd_inv h
 refine cVal tt rfl (wNone rfl) rfl rfl rfl hg1 ?_
 iterate 5 refine cVal tt rfl (wNone rfl) rfl rfl rfl trivial ?_
 obtain ⟨hg2, h⟩ := grd_inv h
 refine cVal tt rfl (wNone rfl) rfl rfl rfl hg2 ?_
 iterate 2 refine cVal tt rfl (wNone rfl) rfl rfl rfl trivial ?_
 obtain ⟨hg3, h⟩ := grd_inv h
 refine cVal tt rfl (wNone rfl) rfl rfl rfl hg3 ?_
 iterate 3 refine cVal tt rfl (wNone rfl) rfl rfl rfl trivial ?_
 refine cVal tt rfl (wNone rfl) rfl rfl rfl hg1 ?_
 iterate 5 refine cVal tt rfl (wNone rfl) rfl rfl rfl trivial ?_
 refine cVal tt rfl (wNone rfl) rfl rfl rfl hg2 ?_
 iterate 2 refine cVal tt rfl (wNone rfl) rfl rfl rfl trivial ?_
 obtain ⟨hg4, h⟩ := grd_inv h
 refine cVal tt rfl (wNone rfl) rfl rfl rfl hg4 ?_
 iterate 2 refine cVal tt rfl (wNone rfl) rfl rfl rfl trivial ?_
 refine cNil ?_
 change VC _ _ _ _
 refine vSeq ?_
 refine vRegion ?_
 iterate 2 refine oVal tt rfl rfl rfl rfl rfl trivial ?_
 obtain ⟨hg5, h⟩ := grd_inv h
 refine oVal tt rfl rfl rfl rfl rfl hg5 ?_
 iterate 2 refine oVal tt rfl rfl rfl rfl rfl trivial ?_
 obtain ⟨hg6, h⟩ := grd_inv h
 refine oVal tt rfl rfl rfl rfl rfl hg6 ?_
 obtain ⟨hg7, h⟩ := grd_inv h
 refine oVal tt rfl rfl rfl rfl rfl hg7 ?_
 refine oVal tt rfl rfl rfl rfl rfl trivial ?_
 refine vNil ?_
 change VC _ _ _ _
 refine vRet ?_
 change ∃ _, _
 cases h
 exact ⟨[], _, rfl, trivial, rfl, (.eq rfl), rfl⟩
end Go.Proofs.Ytcljhpldfanhkaa
namespace Go.Proofs.Ytcljhpldfanhkaa
variable (N : Nat)
def onGrid (p : Int × Int) : Bool := inB p.1 0 4 && inB p.2 0 4
theorem onGrid_bd {p : Int × Int} (h : onGrid p = true) : 0 ≤ p.1 ∧ p.1 ≤ 4 ∧ 0 ≤ p.2 ∧ p.2 ≤ 4 := by
 rw [onGrid, Bool.and_eq_true] at h
 have h1 := inB_true.1 h.1
 have h2 := inB_true.1 h.2
 omega
theorem isPlace_s (p : Int × Int) : I_isPlace N p = some (onGrid p) := by
 unfold I_isPlace onGrid
 simp only [within_s, Option.bind_some, cnd_some]
 cases inB p.1 0 4 <;> rfl
end Go.Proofs.Ytcljhpldfanhkaa
namespace Go.Proofs.Ytcljhpldfanhkaa
open Go.RowKit
def S_l10On (N : Nat) (p_0 : Int × Int) : Option (Bool) :=
 (S_l1In N p_0.1 (0 : Int) (4 : Int)).bind fun v1 =>
 cnd v1 (
  (S_l1In N p_0.2 (0 : Int) (4 : Int)).bind fun v2 =>
  some v2) (
  some false)
set_option maxRecDepth 20000 in
set_option maxHeartbeats 1600000 in
theorem S_l10On_w (N : Nat) (p_0 : Int × Int) (r : Bool) (h : S_l10On N p_0 = some r) : PCall Try.prog 134 [.agg [.int p_0.1, .int p_0.2]] [] (.bool r) := by
 unfold S_l10On at h
 refine pcall_intro (TT := TT) tt Try.func134 rfl rfl Try.ntmps134 (congrArg Array.toList Try.results134) rfl rfl fun w0 => ?_
 refine vSeq ?_
 refine vRegion ?_
 refine oBox rfl rfl rfl rfl rfl rfl rfl rfl rfl ?_
 refine oVal tt rfl rfl rfl rfl rfl trivial ?_
 refine vNil ?_
 change VC _ _ _ _
 refine vSeq ?_
 refine vRegion ?_
 iterate 2 refine oVal tt rfl rfl rfl rfl rfl trivial ?_
 obtain ⟨v1, hc1, h⟩ := bind_inv h
 refine oCall (S_l1In_w N p_0.1 (0 : Int) (4 : Int) v1 hc1) rfl rfl rfl rfl rfl rfl rfl rfl ⟨rfl, rfl, rfl, trivial⟩ ?_
 refine oVal tt rfl rfl rfl rfl rfl trivial ?_
 refine oSplit rfl rfl rfl (fun hb2 => ?_) (fun hb2 => ?_)
 ·replace h := cnd_t hb2 h
  iterate 2 refine oValG tt rfl rfl rfl rfl rfl hb2 rfl rfl rfl trivial ?_
  obtain ⟨v2, hc3, h⟩ := bind_inv h
  refine oCallG (S_l1In_w N p_0.2 (0 : Int) (4 : Int) v2 hc3) rfl rfl rfl rfl hb2 rfl rfl rfl rfl rfl rfl rfl ⟨rfl, rfl, rfl, trivial⟩ ?_
  refine oPick rfl rfl rfl rfl rfl hb2 rfl ?_
  refine oVal tt rfl rfl rfl rfl rfl trivial ?_
  refine vNil ?_
  change VC _ _ _ _
  refine vRet ?_
  change ∃ _, _
  cases h
  exact ⟨[], _, rfl, trivial, rfl, (.eq rfl), rfl⟩
 ·replace h := cnd_f hb2 h
  iterate 3 refine oNoT rfl rfl rfl rfl hb2 rfl rfl ?_
  refine oPickF rfl rfl rfl rfl rfl hb2 rfl ?_
  refine oVal tt rfl rfl rfl rfl rfl trivial ?_
  refine vNil ?_
  change VC _ _ _ _
  refine vRet ?_
  change ∃ _, _
  cases h
  exact ⟨[], _, rfl, trivial, rfl, (.eq rfl), rfl⟩
end Go.Proofs.Ytcljhpldfanhkaa
namespace Go.Proofs.Ytcljhpldfanhkaa
open Go.RowKit Go.Deep
section
variable {M M' : Mp} {A A' : Bool → Nat → Prop} {w w' : World} {r : Nat} {s : PS}
end
def lone (s : PS) (R F : Nat) : Bool := s.row.all fun p => Nat.beq p.1 R || (match s.r p.1 with | some (_, q) => (match q.refF with | some G => !Nat.beq G F && Nat.blt G 4294967296 | none => true) | none => true)
section
variable {w0 : World} {O0 : Hd} {n : Nat} {M : Mp} {s : PS} {a : Act} {w : World}
end
end Go.Proofs.Ytcljhpldfanhkaa
namespace Go.Proofs.Ytcljhpldfanhkaa
open Go.RowKit Go.Deep
section
variable {w0 : World} {O0 : Hd} {n : Nat} {M : Mp} {s : PS} {a : Act} {w : World}
end
end Go.Proofs.Ytcljhpldfanhkaa
namespace Go.Proofs.Ytcljhpldfanhkaa
open Go.RowKit Go.Deep
section
variable {C : Cx} {tm : List (Nat × D)} {rw' : List (Nat × Option (TypeId × Sq))} {bx : List (Nat × Option (List D))} {s' : PS}
end
end Go.Proofs.Ytcljhpldfanhkaa
namespace Go.Proofs.Ytcljhpldfanhkaa
open Go.RowKit Go.Deep
section
variable {C : Cx} {tm : List (Nat × D)} {rw' : List (Nat × Option (TypeId × Sq))} {bx : List (Nat × Option (List D))} {s' : PS}
end
end Go.Proofs.Ytcljhpldfanhkaa
namespace Go.Proofs.Ytcljhpldfanhkaa
open Go.RowKit Go.Deep
section
variable {w0 : World} {O0 : Hd} {n : Nat} {M : Mp} {s : PS} {a : Act} {w : World}
end
section
variable {C : Cx} {ops : Array Oper} {K : PS → Prop} {o : Oper} {rest : List Oper} {s : PS} {TT : List (Nat × Ty)} {tm : List (Nat × D)} {rw' : List (Nat × Option (TypeId × Sq))} {bx : List (Nat × Option (List D))}
end
end Go.Proofs.Ytcljhpldfanhkaa
namespace Go.Proofs.Ytcljhpldfanhkaa
open Go.RowKit Go.Deep
section
variable {P : Program} {w0 : World} {O0 : Hd} {n : Nat} {M : Mp} {s : PS} {a : Act} {w w' : World}
end
section
variable {C : Cx} {ops : Array Oper} {K : PS → Prop} {o : Oper} {rest : List Oper} {s : PS} {TT : List (Nat × Ty)} {tm : List (Nat × D)} {rw' : List (Nat × Option (TypeId × Sq))} {bx : List (Nat × Option (List D))} {cr B : List Nat} {j : Nat}
end
end Go.Proofs.Ytcljhpldfanhkaa
namespace Go.Proofs.Ytcljhpldfanhkaa
open Go.RowKit Go.Deep
section
variable {C : Cx} {ops : Array Oper} {K : PS → Prop} {o : Oper} {rest : List Oper} {s : PS} {TT : List (Nat × Ty)} {tm : List (Nat × D)} {rw' : List (Nat × Option (TypeId × Sq))} {bx : List (Nat × Option (List D))}
end
end Go.Proofs.Ytcljhpldfanhkaa
namespace Go.Proofs.Ytcljhpldfanhkaa
open Go.RowKit Go.Deep
section
variable {C : Cx} {ops : Array Oper} {K : PS → Prop} {o : Oper} {rest : List Oper} {s s' : PS} {TT : List (Nat × Ty)} {tm : List (Nat × D)} {rw' : List (Nat × Option (TypeId × Sq))} {bx : List (Nat × Option (List D))}
end
end Go.Proofs.Ytcljhpldfanhkaa
namespace Go.Proofs.Ytcljhpldfanhkaa
open Go.RowKit Go.Deep
end Go.Proofs.Ytcljhpldfanhkaa
namespace Go.Proofs.Ytcljhpldfanhkaa
open Go.RowKit Go.Deep
section
variable {C : Cx} {ops : Array Oper} {K : PS → Prop} {o : Oper} {rest : List Oper} {s : PS} {TT : List (Nat × Ty)} {tm : List (Nat × D)} {rw' : List (Nat × Option (TypeId × Sq))} {bx : List (Nat × Option (List D))} {cr B : List Nat} {j : Nat}
end
end Go.Proofs.Ytcljhpldfanhkaa
namespace Go.Proofs.Ytcljhpldfanhkaa
open Go.RowKit Go.Deep
section
variable {C : Cx} {tm : List (Nat × D)} {rw' : List (Nat × Option (TypeId × Sq))} {bx : List (Nat × Option (List D))} {s' : PS}
end
section
variable {C : Cx} {ops : Array Oper} {K : PS → Prop} {o : Oper} {rest : List Oper} {s : PS} {TT : List (Nat × Ty)} {tm : List (Nat × D)} {rw' : List (Nat × Option (TypeId × Sq))} {bx : List (Nat × Option (List D))}
end
end Go.Proofs.Ytcljhpldfanhkaa
namespace Go.Proofs.Ytcljhpldfanhkaa
open Go.RowKit Go.Deep
section
variable {C : Cx} {ops : Array Oper} {K : PS → Prop} {o : Oper} {rest : List Oper} {TT : List (Nat × Ty)} {tm : List (Nat × D)} {rw' : List (Nat × Option (TypeId × Sq))} {bx : List (Nat × Option (List D))} {cr B : List Nat} {j : Nat}
end
end Go.Proofs.Ytcljhpldfanhkaa
namespace Go.Proofs.Ytcljhpldfanhkaa
open Go.RowKit Go.Deep
section
variable {C : Cx} {ops : Array Oper} {Q : Exit → PS → Prop} {s : PS} {fuel : Nat} {listed : Array Bool}
end
section
variable {C : Cx} {tm : List (Nat × D)} {rw' : List (Nat × Option (TypeId × Sq))} {bx : List (Nat × Option (List D))} {s' : PS}
end
end Go.Proofs.Ytcljhpldfanhkaa
namespace Go.Proofs.Ytcljhpldfanhkaa
open Go.RowKit Go.Deep
section
variable {C : Cx} {o : Oper} {s : PS}
end
end Go.Proofs.Ytcljhpldfanhkaa
namespace Go.Proofs.Ytcljhpldfanhkaa
open Go.RowKit Go.Deep
section
variable {C : Cx} {ops : Array Oper} {K : PS → Prop} {o : Oper} {rest : List Oper} {s : PS} {TT : List (Nat × Ty)} {tm : List (Nat × D)} {rw' : List (Nat × Option (TypeId × Sq))} {bx : List (Nat × Option (List D))} {cr B : List Nat} {j : Nat}
theorem pConvI {src dst : TypeId} {x : Operand} {n : Int} {dsrc : TypeDesc} (hs : C.P.underlying src = some dsrc) (hd : C.P.underlying dst = some (.int .i64)) (hop : o.op = .convert src dst x) (hx : s.ev x = .val (.int .u8 n)) (hn : 0 ≤ n ∧ n < 256) : Pur C o s (.int n) :=
 ⟨fun s1 hs1 M ac w hr' => by
  have h1 := hr'.ev x
  rw [hs1 x (by rw [hop]; simp [Op.operands]), hx] at h1
  have e1 : ac.eval x = .int .u8 n := by generalize ac.eval x = v at h1; cases h1; rfl
  have hw : IntKind.i64.wrap n = n := by
   have h2 : (2 : Int) ^ IntKind.i64.bits = 18446744073709551616 := by decide
   have h3 : (2 : Int) ^ (IntKind.i64.bits - 1) = 9223372036854775808 := by decide
   simp only [IntKind.wrap, h2, h3]
   have h4 : n % 18446744073709551616 = n := by omega
   rw [h4, if_neg]
   simp; intro; omega
  refine ⟨.int .i64 n, ?_, .int _⟩
  have hrun : (convert src dst (ac.eval x)).run C.P w = .ok (.int .i64 n) w := by
   rw [e1]
   cases dsrc <;> simp [convert, Go.run_underlying hs, Go.run_underlying hd, Conv.intToInt, go_sem, hw]
  unfold execOp
  rw [hop]
  show ((do pure (Next.value (← convert src dst (ac.eval x))) : Sem Next)).run C.P w = _
  rw [Sem.run_bind, hrun]; rfl⟩
end
end Go.Proofs.Ytcljhpldfanhkaa
namespace Go.Proofs.Ytcljhpldfanhkaa
open Go.RowKit Go.Deep
section
variable {C : Cx} {ops : Array Oper} {K : PS → Prop} {o : Oper} {rest : List Oper} {s s' : PS} {TT : List (Nat × Ty)} {tm : List (Nat × D)} {rw' : List (Nat × Option (TypeId × Sq))} {bx : List (Nat × Option (List D))} {cr B : List Nat} {j : Nat}
end
end Go.Proofs.Ytcljhpldfanhkaa
namespace Go.Proofs.Ytcljhpldfanhkaa
open Go.RowKit Go.Deep
structure PCallB (P : Program) (f : FuncId) (ds cs : List D) : Prop where
 enter : ∀ args w, (callFunc f args).run P w = .ok (.enter f args) w
 noc : (cs.all fun d => !mentS (fun _ => true) (fun _ => true) d) = true
 run : ∀ w args (A : Bool → Nat → Prop), (∀ k, A true k → A false k) → ArgsM A M0 w ds args → Calls P f args w fun e w' => ∃ k cur et, e = .returned (.pointer (some ⟨k, 0, none⟩)) ∧ w.heap.size ≤ k ∧ w'.heap[k]? = some (.cells cur et (0, 0)) ∧ cs.length = cur.size ∧
  (∀ j d, cs[j]? = some d → VR M0 (fun f b => (A f b ∨ w.heap.size ≤ b) ∧ b ≠ k) w' d (cur.getD j undef)) ∧ w'.os = w.os ∧ w'.tape = w.tape ∧ w'.output = w.output ∧ w.heap.size ≤ w'.heap.size ∧ ∀ i, i < w.heap.size → w'.heap[i]? = w.heap[i]?
section
variable {w0 : World} {O0 : Hd} {n : Nat} {M : Mp} {s : PS} {a : Act} {w w' : World}
theorem Rel.newBoxAt (h : Rel w0 O0 n M s a w) {b k0 : Nat} {cs : List D} {cur : Array Value} {e : TypeId} (hsz : w.heap.size ≤ w'.heap.size) (hblk : ∀ k, k < w.heap.size → w'.heap[k]? = w.heap[k]?) (hos : w'.os = w.os) (htp : w'.tape = w.tape) (hout : w'.output = w.output) (hk0 : w.heap.size ≤ k0) (hcell : w'.heap[k0]? = some (.cells cur e (0, 0)))
  (hf : Fresh s (fun x => Nat.beq x b) (fun _ => false)) (hl : cs.length = cur.size) (hc : ∀ j d, cs[j]? = some d → VR M0 (fun f k => (Ow (Fs w0 O0) M f k ∨ w.heap.size ≤ k) ∧ k ≠ k0) w' d (cur.getD j undef)) (hm : ∀ d ∈ cs, mentS (fun _ => true) (fun _ => true) d = false) (hlo : b < 1000000) :
  ∃ M', Rel w0 O0 n M' (s.addBox b cs) a w' ∧ M'.β b = some k0 := by
 let M' : Mp := ⟨fun x => if x = b then some k0 else M.β x, M.γ⟩
 have hown : ∀ k, M'.owned k → M.owned k ∨ k = k0 := by
  rintro k (⟨x, hx⟩ | ⟨r, c, z, hr⟩)
  ·simp only [M'] at hx
   split at hx
   ·cases hx; exact .inr rfl
   ·exact .inl (.inl ⟨x, hx⟩)
  ·exact .inl (.inr ⟨r, c, z, hr⟩)
 have hA : ∀ f k, k < w.heap.size → Ow (Fs w0 O0) M f k → Ow (Fs w0 O0) M' f k ∧ k < w'.heap.size ∧ w'.heap[k]? = w.heap[k]? := fun f k h1 h2 =>
  ⟨⟨fun h3 => by rcases hown k h3 with h4 | h4; exact h2.1 h4; omega, h2.2⟩, by omega, hblk k h1⟩
 have hA1 : ∀ f k, k < w'.heap.size → ((Ow (Fs w0 O0) M f k ∨ w.heap.size ≤ k) ∧ k ≠ k0) → Ow (Fs w0 O0) M' f k ∧ k < w'.heap.size ∧ w'.heap[k]? = w'.heap[k]? := fun f k h1 ⟨h2, h5⟩ => by
  refine ⟨⟨fun h3 => ?_, ?_⟩, h1, rfl⟩
  ·rcases hown k h3 with h4 | h4
   ·rcases h2 with h2 | h2
    ·exact h2.1 h4
    ·have := h.lt k h4; omega
   ·exact h5 h4
  ·rcases h2 with h2 | h2
   ·exact h2.2
   ·exact .inl (Nat.le_trans h.fr.size h2)
 have hβ : ∀ x k, Nat.beq x b = false → M'.β x = some k → M.β x = some k := fun x k h1 h2 => by
  simp only [M'] at h2
  rw [if_neg] at h2
  ·exact h2
  ·intro e; subst e; rw [Nat.beq_refl] at h1; cases h1
 have hγ : ∀ x y, (fun _ => false) x = false → M'.γ x = some y → M.γ x = some y := fun x y _ h => h
 refine ⟨M', ⟨?_, h.dfr, h.sz, fun t => ?_, fun x ds hx => ?_, fun x hx => ?_, fun r e q hr => ?_, fun r hr => h.rown r hr, fun k hk => ?_, fun x x' k h1 h2 => ?_, h.inj2, fun x r k c z h1 h2 => ?_, h.nle, fun x k k' h1 h2 => ?_, h.fxr⟩, by simp [M']⟩
 ·exact h.fr.step hos htp hout hsz fun k h1 _ => hblk k (Nat.lt_of_lt_of_le h1 h.fr.size)
 ·exact VR.new hA hγ hβ (hf.t t) (h.tmp t)
 ·by_cases hxb : b = x
  ·subst hxb
   simp [PS.addBox, PS.b, look_cons_self] at hx
   subst hx
   exact ⟨k0, cur, e, by simp [M'], hcell, hl, fun j d hd => VR.newS (b := fun _ => true) (r := fun _ => true) hA1 (fun x y hx => by cases hx) (fun x y hx => by cases hx) (hm d (List.mem_of_getElem? hd)) (hc j d hd)⟩
  ·have hx' : s.b x = some ds := by simpa [PS.addBox, PS.b, look_cons_ne hxb] using hx
   obtain ⟨k, cur', e', h1, h2, h3, h4⟩ := h.box x ds hx'
   have hlt := (Array.getElem?_eq_some_iff.1 h2).1
   exact ⟨k, cur', e', by simp [M', Ne.symm hxb, h1], (hblk k hlt).trans h2, h3, fun j d hd => VR.newS hA hγ hβ (hf.b _ _ hx' d (List.mem_of_getElem? hd)) (h4 j d hd)⟩
 ·by_cases hxb : b = x
  ·subst hxb; simp [PS.addBox, PS.b, look_cons_self] at hx
  ·have hx' : s.b x = none := by simpa [PS.addBox, PS.b, look_cons_ne hxb] using hx
   simp [M', Ne.symm hxb, h.boxn x hx']
 ·rcases h.row r e q hr with ⟨h1, h2⟩ | ⟨g, cap, cur', h1, h2, h3, h4, h5, h6⟩
  ·exact .inl ⟨h1, h2⟩
  ·have hlt := (Array.getElem?_eq_some_iff.1 h2).1
   exact .inr ⟨g, cap, cur', h1, (hblk g hlt).trans h2, h3, h4, h5, fun i j d hi hd => (h6 i j d hi hd).relem_any hd hA⟩
 ·rcases hown k hk with h1 | rfl
  ·exact h.low k h1
  ·exact .inl (Nat.le_trans h.fr.size hk0)
 ·have hno : ∀ y, M.β y ≠ some k0 := fun y hy => by have := h.lt _ (.inl ⟨y, hy⟩); omega
  simp only [M'] at h1 h2
  split at h1 <;> split at h2
  ·simp_all
  ·cases h1; exact absurd h2 (hno _)
  ·cases h2; exact absurd h1 (hno _)
  ·exact h.inj1 _ _ _ h1 h2
 ·simp only [M'] at h1
  split at h1
  ·cases h1; have := h.lt _ (.inr ⟨r, c, z, h2⟩); omega
  ·exact h.inj3 _ _ _ _ _ h1 h2
 ·have h3 := O0.lob x k h1
  simp only [M'] at h2
  rw [if_neg (by omega)] at h2
  exact h.fxb x k k' h1 h2
end
section
variable {C : Cx} {ops : Array Oper} {K : PS → Prop} {o : Oper} {rest : List Oper} {s s' : PS} {TT : List (Nat × Ty)} {tm : List (Nat × D)} {rw' : List (Nat × Option (TypeId × Sq))} {bx : List (Nat × Option (List D))}
def fitsB (s : PS) : List Operand → List D → Prop
 | [], [] => True
 | x :: xs, d :: ds => s.ev x = d ∧ noIds d = true ∧ fitsB s xs ds
 | _, _ => False
theorem fitsB_get {s : PS} : ∀ {xs : List Operand} {ds : List D}, fitsB s xs ds → xs.length = ds.length ∧ ∀ (i : Nat) (d : D), ds[i]? = some d → ∃ x : Operand, xs[i]? = some x ∧ s.ev x = d ∧ noIds d = true
 | [], [], _ => ⟨rfl, fun i d h => by simp at h⟩
 | x :: xs, d :: ds, h => by
  obtain ⟨h1, h2, h3⟩ := h
  obtain ⟨h4, h5⟩ := fitsB_get h3
  refine ⟨by simp [h4], fun i e hi => ?_⟩
  cases i with
  | zero => simp at hi; subst hi; exact ⟨x, rfl, h1, h2⟩
  | succ i => simp at hi ⊢; exact h5 i e hi
theorem oCallB {f : FuncId} {args : Array Operand} {ts : Array TypeId} {ds cs : List D} (hp : PCallB C.P f ds cs) (hg : o.guard = none) (hop : o.op = .call { callee := .value (.func f), args := args, argTypes := ts }) {b : Nat} (hd : o.dst = some b) (hn : Nat.blt b C.n = true) (hfr : frB ⟨tm, rw', bx⟩ (fun y => Nat.beq y b) noB = true)
  (hfit : fitsB ⟨tm, rw', bx⟩ args.toList ds) (h : VO C ops K rest ⟨(b, .ptr b 0) :: tm, rw', (b, some cs) :: bx⟩) : VO C ops K (o :: rest) ⟨tm, rw', bx⟩ := by
 refine vOp hg ⟨fun M a w Q K' hr hk => ?_⟩
 have hrun : (execOp a.eval o).run C.P w = .ok (.enter f (args.map a.eval)) w := by
  have := hp.enter (args.map a.eval) w
  unfold execOp
  rw [hop]
  show ((do let d ← resolve a.eval _ o.type; invoke d.target d.args : Sem Next)).run C.P w = _
  simp only [resolve]
  show ((callFunc f ((#[] ++ args.map a.eval) ++ #[])) : Sem Next).run C.P w = _
  rw [show (#[] ++ args.map a.eval) ++ #[] = args.map a.eval by simp]
  exact this
 obtain ⟨g1, g2⟩ := fitsB_get hfit
 have hargs : ArgsM (Ow (Fs C.w0 C.O0) M) M0 w ds (args.map a.eval) := by
  refine ⟨by simpa using g1, fun i d hi => ?_⟩
  obtain ⟨x, hx, hev, hno⟩ := g2 i d hi
  have h1 := hr.ev x
  rw [hev] at h1
  have h2 : (args.map a.eval).getD i undef = a.eval x := by
   have : args[i]? = some x := by simpa using hx
   simp [this]
  rw [h2]
  refine VR.new (b := fun _ => true) (r := fun _ => true) (fun f k h1 h2 => ⟨h2, h1, rfl⟩) (fun x y hx => by cases hx) (fun x y hx => by cases hx) ?_ h1
  simpa [noIds] using hno
 unfold Oper.wp
 rw [hrun]
 refine (hp.run w _ (Ow (Fs C.w0 C.O0) M) (fun k hk => ⟨hk.1, hk.2.imp_right (C.O0.mon k)⟩) hargs).mono ?_
 rintro e w' ⟨k, cur, et, rfl, k1, k2, k3, k4, k5, k6, k7, k8, k9⟩
 have hlo : b < 1000000 := by have h1000 := hr.nle; rw [Nat.blt_eq] at hn; omega
 obtain ⟨M', h2, h3⟩ := hr.newBoxAt (b := b) (k0 := k) (cs := cs) k8 k9 k5 k6 k7 k1 k2 (frB_ok hfr) k3 (fun j d hj => k4 j d hj) (fun d hd => by have := (List.all_eq_true.1 hp.noc) d hd; simpa using this) hlo
 refine hk M' _ _ _ h ?_
 rw [hd]
 exact h2.put (o := some b) hn (.ptr _ _ _ rfl fun k hk => by rw [h3] at hk; cases hk; rfl)
end
def RetB (TT : List (Nat × Ty)) (res : List ResultVar) (cs : List D) : Exit → PS → Prop := fun e s => match e with
 | .normal | .ret => ∃ b, retD TT s res = some (.ptr b 0) ∧ s.b b = some cs ∧ Nat.blt b 1000000 = true
 | _ => False
theorem pcallB_intro {P : Program} {f : FuncId} {fn : Func} {c : Code} {TT : List (Nat × Ty)} {ds cs : List D} {n : Nat} {res : List ResultVar} (hT : TTOK P TT) (hf : P.funcs[f]? = some fn) (hb : fn.body = some c)
  (hname : (fn.name == "runtime.NumGoroutine") = false) (hn : fn.ntmps = n) (hres : fn.results.toList = res) (hds : Nat.ble ds.length n = true) (hno : (ds.all noIds) = true) (hnoc : (cs.all fun d => !mentS (fun _ => true) (fun _ => true) d) = true)
  (h : ∀ w0 O0, VC ⟨P, w0, O0, n⟩ c (RetB TT res cs) ⟨entL 0 ds, [], []⟩) (hn1000 : Nat.ble n 1000 = true := by rfl) : PCallB P f ds cs := by
 subst hn hres
 refine ⟨callFunc_of hf hname (by simp [hb]), hnoc, fun w0 args A hmon ⟨hsz, hargs⟩ => ?_⟩
 have hle := Nat.le_of_ble_eq_true hds
 let O0 : Hd := ⟨fun _ => False, fun f k => A f k, fun _ _ h => h.elim, hmon, fun _ => none, fun _ => none, fun _ _ h => (by cases h), fun _ _ h => (by cases h)⟩
 have hM0 : ∀ k, ¬ M0.owned k := by rintro k (⟨x, hx⟩ | ⟨x, c, z, hx⟩) <;> simp at hx
 have hent : Rel w0 O0 fn.ntmps M0 ⟨entL 0 ds, [], []⟩ { tmps := args ++ Array.replicate (fn.ntmps - args.size) undef, defers := [] } w0 := by
  refine ⟨⟨rfl, rfl, rfl, Nat.le_refl _, fun _ _ _ => rfl⟩, rfl, by simp; omega, fun t => ?_, fun b cs hb => by simp [PS.b, look] at hb, fun _ _ => rfl, fun r e q hr => (by rw [r_ent] at hr; cases hr), fun _ _ => rfl, fun k hk => absurd hk (hM0 k), by simp, by simp, by simp, Nat.le_of_ble_eq_true hn1000, fun b k k' h => by simp [O0] at h, fun b k k' h => by simp [O0] at h⟩
  simp only [PS.t, look_entL, Nat.zero_le, if_true, Nat.sub_zero]
  cases hd : ds[t]? with
  | none => exact .dead _
  | some d0 =>
   have hlt : t < args.size := by rw [hsz]; exact (List.getElem?_eq_some_iff.1 hd).1
   have h1 := hargs t d0 hd
   have h2 : (args ++ Array.replicate (fn.ntmps - args.size) undef).getD t undef = args.getD t undef := by
    simp [Array.getElem?_append_left hlt]
   rw [h2]
   exact h1.mono (fun f b h1 h2 => ⟨⟨hM0 b, .inr h2⟩, h1, rfl⟩) (fun _ _ h => h) (fun _ _ h => h)
 refine calls_of_wp hf hb (Code.wp_mono ?_ ((h w0 O0).out M0 _ w0 hent))
 rintro e a' w' ⟨s', M', hq, hr⟩
 have fin : ∀ (hq : ∃ b, retD TT s' fn.results.toList = some (.ptr b 0) ∧ s'.b b = some cs ∧ Nat.blt b 1000000 = true),
   a'.defers = [] ∧ ∃ v, (results fn a'.tmps).run P w' = .ok v w' ∧ ∃ k cur et, Ending.returned v = .returned (.pointer (some ⟨k, 0, none⟩)) ∧ w0.heap.size ≤ k ∧ w'.heap[k]? = some (.cells cur et (0, 0)) ∧ cs.length = cur.size ∧
    (∀ j d, cs[j]? = some d → VR M0 (fun f b => (A f b ∨ w0.heap.size ≤ b) ∧ b ≠ k) w' d (cur.getD j undef)) ∧ w'.os = w0.os ∧ w'.tape = w0.tape ∧ w'.output = w0.output ∧ w0.heap.size ≤ w'.heap.size ∧ ∀ i, i < w0.heap.size → w'.heap[i]? = w0.heap[i]? := by
  rintro ⟨b, h1, h2, h3⟩
  obtain ⟨v, h6, h7⟩ := ret_ok hT hr h1
  obtain ⟨k, cur, et, g1, g2, g3, g4⟩ := hr.box b cs h2
  have hv : v = .pointer (some ⟨k, 0, none⟩) := by
   cases h7 with
   | ptr _ _ _ _ h8 => exact h8 k g1
  refine ⟨hr.dfr, v, h6, k, cur, et, by rw [hv], (hr.low k (.inl ⟨b, g1⟩)).resolve_right (fun h => h), g2, g3, fun j d hj => ?_, hr.fr.os, hr.fr.tape, hr.fr.output, hr.fr.size, fun i hi => hr.fr.block i hi (fun h => h)⟩
  have hmm := (List.all_eq_true.1 hnoc) d (List.mem_of_getElem? hj)
  refine VR.newS (b := fun _ => true) (r := fun _ => true) (fun f i h1 h2 => ⟨⟨?_, fun e => h2.1 (by rw [e]; exact .inl ⟨b, g1⟩)⟩, h1, rfl⟩) (fun x y hx => by cases hx) (fun x y hx => by cases hx) (by simpa using hmm) (g4 j d hj)
  rcases h2.2 with h3 | h3
  ·exact .inr h3
  ·exact .inl h3
 cases e <;> first | exact fin hq | exact hq.elim
end Go.Proofs.Ytcljhpldfanhkaa
namespace Go.Proofs.Ytcljhpldfanhkaa
open Go.RowKit Go.Deep
structure Cur where
 b : List Int
 i : Int
 h : Int
def xorI (a b : Int) : Int := IntKind.i64.wrap ((BitVec.ofInt 64 a ^^^ BitVec.ofInt 64 b).toNat : Int)
section
variable {C : Cx} {ops : Array Oper} {K : PS → Prop} {o : Oper} {rest : List Oper} {s : PS} {tm : List (Nat × D)} {rw' : List (Nat × Option (TypeId × Sq))} {bx : List (Nat × Option (List D))}
theorem pXor {t u : TypeId} {x y : Operand} {a b : Int} (hop : o.op = .binOp .xor t x y u) (hx : s.ev x = .int a) (hy : s.ev y = .int b) : Pur C o s (.int (xorI a b)) :=
 ⟨fun s1 hs M ac w hr' => by
  have h1 := hr'.ev x
  have h2 := hr'.ev y
  rw [hs x (by rw [hop]; simp [Op.operands]), hx] at h1
  rw [hs y (by rw [hop]; simp [Op.operands]), hy] at h2
  have e1 := h1.int_inv
  have e2 := h2.int_inv
  refine ⟨.int .i64 (xorI a b), ?_, .int _⟩
  simp only [execOp, hop, e1, e2]
  simp [eqGuard, binOp, Op.intBits, go_sem, IntKind.bits]
  rfl⟩
theorem pShrU {t u : TypeId} {x y : Operand} {a n : Int} (hop : o.op = .binOp .shr t x y u) (hx : s.ev x = .int a) (hy : s.ev y = .val (.int .u64 n)) (hn : 0 ≤ n) : Pur C o s (.int (shrI a n)) :=
 ⟨fun s1 hs M ac w hr' => by
  have h1 := hr'.ev x
  have h2 := hr'.ev y
  rw [hs x (by rw [hop]; simp [Op.operands]), hx] at h1
  rw [hs y (by rw [hop]; simp [Op.operands]), hy] at h2
  have e1 := h1.int_inv
  have e2 : ac.eval y = .int .u64 n := by generalize ac.eval y = v at h2; cases h2; rfl
  have h4 : ¬ n < 0 := by omega
  refine ⟨.int .i64 (shrI a n), ?_, .int _⟩
  simp only [execOp, hop, e1, e2]
  simp [eqGuard, binOp, Op.shift, go_sem, h4, IntKind.bits]
  rfl⟩
theorem En.zero (r : Nat) (e : TypeId) (q : Sq) (hq : q.len = 0) (hf : frB ⟨tm, rw', bx⟩ noB (isR r) = true) (hr : Nat.blt r 1000000 = true := by rfl) : En C ⟨tm, rw', bx⟩ ⟨tm, (r, some (e, q)) :: rw', bx⟩ := ⟨fun M a w h => by
 rw [Nat.blt_eq] at hr
 obtain ⟨M', h1, _⟩ := h.nilRow (r := r) (e := e) (q := q) hq (frB_ok hf) hr
 exact ⟨M', h1⟩⟩
end
end Go.Proofs.Ytcljhpldfanhkaa
namespace Go.Proofs.Ytcljhpldfanhkaa
open Go.RowKit
def S_l2Put_l1 (N : Nat) (g_0 : Grf) (x_1 : Int × Int) (k : ((List (Int × Int)) × Bool) → Option (Grf)) : Nat → ((List (Int × Int)) × Bool × Int) → Option (Grf)
 | 0, _ => none
 | n + 1, (l17, placed18, i19) =>
  cnd (decide (i19 < (g_0.bars.length : Int))) (
   cnd (!placed18) (
    grd (0 ≤ i19 ∧ i19 < (g_0.bars.length : Int)) <|
    (S_l2After N (g_0.bars.getD ((i19).toNat) (0, 0)) x_1).bind fun v21 =>
    cnd (!v21) (
     grd (l17.length + 1 ≤ 4294967296) <|
     grd ((l17 ++ ([(x_1.1, x_1.2)] : List (Int × Int))).length + 1 ≤ 4294967296) <|
     grd (Rg64 (i19 + (1 : Int))) <|
     S_l2Put_l1 N g_0 x_1 k n (((l17 ++ ([(x_1.1, x_1.2)] : List (Int × Int))) ++ ([((g_0.bars.getD ((i19).toNat) (0, 0)).1, (g_0.bars.getD ((i19).toNat) (0, 0)).2)] : List (Int × Int))), true, (i19 + (1 : Int)))) (
     grd (l17.length + 1 ≤ 4294967296) <|
     grd (Rg64 (i19 + (1 : Int))) <|
     S_l2Put_l1 N g_0 x_1 k n ((l17 ++ ([((g_0.bars.getD ((i19).toNat) (0, 0)).1, (g_0.bars.getD ((i19).toNat) (0, 0)).2)] : List (Int × Int))), placed18, (i19 + (1 : Int))))) (
    grd (0 ≤ i19 ∧ i19 < (g_0.bars.length : Int)) <|
    grd (l17.length + 1 ≤ 4294967296) <|
    grd (Rg64 (i19 + (1 : Int))) <|
    S_l2Put_l1 N g_0 x_1 k n ((l17 ++ ([((g_0.bars.getD ((i19).toNat) (0, 0)).1, (g_0.bars.getD ((i19).toNat) (0, 0)).2)] : List (Int × Int))), placed18, (i19 + (1 : Int))))) (
   k (l17, placed18))
def S_l2Put (N : Nat) (g_0 : Grf) (x_1 : Int × Int) : Option (Grf) :=
 S_l2Put_l1 N g_0 x_1 (fun (x : (List (Int × Int)) × Bool) =>
   match x with
   | (l10, placed11) =>
    cnd (!placed11) (
     grd (l10.length + 1 ≤ 4294967296) <|
     some (⟨g_0.n, (l10 ++ ([(x_1.1, x_1.2)] : List (Int × Int)))⟩ : Grf)) (
     some (⟨g_0.n, l10⟩ : Grf))) N (([] : List (Int × Int)), false, (0 : Int))
set_option maxRecDepth 20000 in
set_option maxHeartbeats 1600000 in
theorem S_l2Put_w (N : Nat) (g_0 : Grf) (x_1 : Int × Int) (r : Grf) (h : S_l2Put N g_0 x_1 = some r) : PCall Try.prog 177 [gD g_0, .agg [.int x_1.1, .int x_1.2]] [(111, .pairs r.bars)] (.agg [.int r.n, .row 0 0 r.bars.length]) := by
 unfold S_l2Put at h
 refine pcall_intro (TT := TT) tt Try.func177 rfl rfl Try.ntmps177 (congrArg Array.toList Try.results177) rfl rfl fun w0 => ?_
 refine vSeq ?_
 refine vRegion ?_
 iterate 2 refine oBox rfl rfl rfl rfl rfl rfl rfl rfl rfl ?_
 refine oAlloc tt rfl rfl rfl rfl rfl rfl rfl rfl rfl ?_
 refine vNil ?_
 change VC _ _ _ _
 refine vSeq ?_
 refine vRegion ?_
 iterate 2 refine oVal tt rfl rfl rfl rfl rfl trivial ?_
 refine oEmpty tt (wNone rfl) rfl rfl rfl rfl ?_
 refine oPure (wNone rfl) (pBuild bld_impl_Graph rfl rfl) rfl rfl ?_
 refine oAlloc tt rfl rfl rfl rfl rfl rfl rfl rfl rfl ?_
 refine oStore tt rfl rfl rfl rfl rfl rfl rfl rfl rfl rfl rfl ⟨trivial, trivial, trivial⟩ ?_
 refine vNil ?_
 change VC _ _ _ _
 refine vSeq ?_
 refine vRegion ?_
 refine oVal tt rfl rfl rfl rfl rfl trivial ?_
 refine vNil ?_
 change VC _ _ _ _
 iterate 2 refine vSeq ?_
 refine vRegion ?_
 refine oVal tt rfl rfl rfl rfl rfl trivial ?_
 refine vNil ?_
 change VC _ _ _ _
 refine vJoin (F := fun k => S_l2Put_l1 N g_0 x_1 k) h (α := (List (Int × Int)) × Bool) (J := fun | (l10, placed11) => (⟨[(3, .ptr 3 0), (4, .ptr 4 0), (5, .ptr 5 0), (6, .bool placed11)], [(35, some (111, .pairs l10))], [(3, some [.int x_1.1, .int x_1.2]), (4, some [.int (0 : Int), .nil]), (5, some [.int g_0.n, .row 35 0 l10.length])]⟩ : PS)) ?_ ?_
 ·rintro ⟨l10, placed11⟩ h
  show VC _ _ _ (⟨[(3, .ptr 3 0), (4, .ptr 4 0), (5, .ptr 5 0), (6, .bool placed11)], [(35, some (111, .pairs l10))], [(3, some [.int x_1.1, .int x_1.2]), (4, some [.int (0 : Int), .nil]), (5, some [.int g_0.n, .row 35 0 l10.length])]⟩ : PS)
  iterate 2 refine vSeq ?_
  refine vRegion ?_
  iterate 2 refine oVal tt rfl rfl rfl rfl rfl trivial ?_
  refine vNil ?_
  change VC _ _ _ _
  refine vCond rfl (fun hb1 => ?_) (fun hb1 => ?_)
  ·replace h := cnd_t hb1 h
   refine vRegion ?_
   iterate 3 refine oVal tt rfl rfl rfl rfl rfl trivial ?_
   refine oBuild tt rfl rfl rfl rfl rfl rfl rfl rfl rfl rfl rfl ?_
   obtain ⟨hg2, h⟩ := grd_inv h
   refine oAppend tt rfl rfl rfl rfl rfl rfl rfl rfl rfl rfl rfl rfl rfl rfl rfl rfl (Nat.le_of_eq (Nat.zero_add _)) hg2 ?_
   refine oVal tt rfl rfl rfl rfl rfl trivial ?_
   refine oStore tt rfl rfl rfl rfl rfl rfl rfl rfl rfl rfl rfl ⟨trivial, trivial⟩ ?_
   refine vNil ?_
   change VC _ _ _ _
   refine vSeq ?_
   refine vRegion ?_
   refine oVal tt rfl rfl rfl rfl rfl trivial ?_
   refine oStore tt rfl rfl rfl rfl rfl rfl rfl rfl rfl rfl rfl ⟨trivial, trivial, trivial⟩ ?_
   refine vNil ?_
   change VC _ _ _ _
   refine vRet ?_
   change ∃ _, _
   cases h
   exact ⟨[35], _, rfl, ⟨rfl, trivial⟩, rfl, (.eq rfl), rfl⟩
  ·replace h := cnd_f hb1 h
   refine vSkip ?_
   change VC _ _ _ _
   refine vSeq ?_
   refine vRegion ?_
   refine oVal tt rfl rfl rfl rfl rfl trivial ?_
   refine oStore tt rfl rfl rfl rfl rfl rfl rfl rfl rfl rfl rfl ⟨trivial, trivial, trivial⟩ ?_
   refine vNil ?_
   change VC _ _ _ _
   refine vRet ?_
   change ∃ _, _
   cases h
   exact ⟨[35], _, rfl, ⟨rfl, trivial⟩, rfl, (.eq rfl), rfl⟩
 ·intro k h
  refine vBlock ?_
  refine vNilB 5 1 35 111 (.pairs []) rfl rfl rfl rfl rfl ?_
  refine vLoopS (α := (List (Int × Int)) × Bool × Int) (fun | (l17, placed18, i19) => (⟨[(2, .ptr 2 0), (3, .ptr 3 0), (4, .ptr 4 0), (5, .ptr 5 0), (6, .bool placed18), (7, .int i19)], [(35, some (111, .pairs l17))], [(2, some [.int g_0.n, .ro false (.pairs g_0.bars)]), (3, some [.int x_1.1, .int x_1.2]), (4, some [.int (0 : Int), .nil]), (5, some [.int g_0.n, .row 35 0 l17.length])]⟩ : PS)) (S_l2Put_l1 N g_0 x_1 k) h (En.of ⟨rfl, rfl, rfl, rfl, rfl, rfl, trivial⟩ ⟨rfl, trivial⟩ ⟨rfl, rfl, rfl, rfl, trivial⟩) (fun _ => rfl) ?_
  rintro n ⟨l17, placed18, i19⟩ h
  rw [S_l2Put_l1] at h
  show VC _ _ _ (⟨[(2, .ptr 2 0), (3, .ptr 3 0), (4, .ptr 4 0), (5, .ptr 5 0), (6, .bool placed18), (7, .int i19)], [(35, some (111, .pairs l17))], [(2, some [.int g_0.n, .ro false (.pairs g_0.bars)]), (3, some [.int x_1.1, .int x_1.2]), (4, some [.int (0 : Int), .nil]), (5, some [.int g_0.n, .row 35 0 l17.length])]⟩ : PS)
  iterate 2 refine vSeq ?_
  refine vRegion ?_
  iterate 5 refine oVal tt rfl rfl rfl rfl rfl trivial ?_
  refine vNil ?_
  change VC _ _ _ _
  refine vCond rfl (fun hb3 => ?_) (fun hb3 => ?_)
  ·replace h := cnd_t hb3 h
   refine vSkip ?_
   change VC _ _ _ _
   refine vSeq ?_
   refine vBlock ?_
   iterate 2 refine vSeq ?_
   refine vRegionD (by kernel_rfl) (by kernel_rfl) ?_
   iterate 3 refine cVal tt rfl (wNone rfl) rfl rfl rfl trivial ?_
   refine cSplit rfl rfl rfl (fun hb4 => ?_) (fun hb4 => ?_)
   ·replace h := cnd_t hb4 h
    iterate 3 refine cVal tt rfl (wSome rfl rfl rfl rfl hb4) rfl rfl rfl trivial ?_
    obtain ⟨hg5, h⟩ := grd_inv h
    refine cVal tt rfl (wSome rfl rfl rfl rfl hb4) rfl rfl rfl hg5 ?_
    iterate 2 refine cVal tt rfl (wSome rfl rfl rfl rfl hb4) rfl rfl rfl trivial ?_
    obtain ⟨v21, hc6, h⟩ := bind_inv h
    refine cCall (S_l2After_w N (g_0.bars.getD ((i19).toNat) (0, 0)) x_1 v21 hc6) rfl (wSome rfl rfl rfl rfl hb4) rfl rfl rfl rfl rfl rfl ⟨⟨rfl, rfl, trivial⟩, ⟨rfl, rfl, trivial⟩, trivial⟩ ?_
    refine cVal tt rfl (wSome rfl rfl rfl rfl hb4) rfl rfl rfl trivial ?_
    refine cPickT rfl (wNone rfl) rfl rfl rfl hb4 rfl ?_
    refine cNil ?_
    change VC _ _ _ _
    refine vCond rfl (fun hb7 => ?_) (fun hb7 => ?_)
    ·replace h := cnd_t hb7 h
     refine vSeq ?_
     refine vRegion ?_
     iterate 3 refine oVal tt rfl rfl rfl rfl rfl trivial ?_
     refine oBuild tt rfl rfl rfl rfl rfl rfl rfl rfl rfl rfl rfl ?_
     obtain ⟨hg8, h⟩ := grd_inv h
     refine oAppend tt rfl rfl rfl rfl rfl rfl rfl rfl rfl rfl rfl rfl rfl rfl rfl rfl (Nat.le_of_eq (Nat.zero_add _)) hg8 ?_
     refine oVal tt rfl rfl rfl rfl rfl trivial ?_
     refine oStore tt rfl rfl rfl rfl rfl rfl rfl rfl rfl rfl rfl ⟨trivial, trivial⟩ ?_
     refine vNil ?_
     change VC _ _ _ _
     refine vRegion ?_
     refine oVal tt rfl rfl rfl rfl rfl trivial ?_
     refine vNil ?_
     change VC _ _ _ _
     refine vRegionN 8 [7] [0, 1, 0, 4, 0, 28, 60, 124, 255, 511, 1023] (by kernel_rfl) (by kernel_rfl) (by kernel_rfl) (by kernel_rfl) (by kernel_rfl) rfl (by rfl) ?_
     iterate 5 refine nVal tt rfl (wNone rfl) rfl rfl rfl rfl rfl trivial ?_
     refine nVal tt rfl (wNone rfl) rfl rfl rfl rfl rfl hg5 ?_
     refine nVal tt rfl (wNone rfl) rfl rfl rfl rfl rfl trivial ?_
     refine nBuild tt (wNone rfl) rfl rfl rfl rfl rfl rfl rfl rfl rfl rfl rfl rfl ?_
     refine nNil ?_
     change VO _ _ _ _ _
     obtain ⟨hg9, h⟩ := grd_inv h
     refine oAppend tt rfl rfl rfl rfl rfl rfl rfl rfl rfl rfl rfl rfl rfl rfl rfl rfl (Nat.le_of_eq (Nat.zero_add _)) hg9 ?_
     refine oVal tt rfl rfl rfl rfl rfl trivial ?_
     refine oStore tt rfl rfl rfl rfl rfl rfl rfl rfl rfl rfl rfl ⟨trivial, trivial⟩ ?_
     refine vNil ?_
     change VC _ _ _ _
     refine vRegion ?_
     refine oVal tt rfl rfl rfl rfl rfl trivial ?_
     obtain ⟨hg10, h⟩ := grd_inv h
     refine oVal tt rfl rfl rfl rfl rfl hg10 ?_
     refine oVal tt rfl rfl rfl rfl rfl trivial ?_
     refine vNil ?_
     change ∃ _, _
     exact ⟨(((l17 ++ ([(x_1.1, x_1.2)] : List (Int × Int))) ++ ([((g_0.bars.getD ((i19).toNat) (0, 0)).1, (g_0.bars.getD ((i19).toNat) (0, 0)).2)] : List (Int × Int))), true, (i19 + (1 : Int))), (En.of ⟨rfl, rfl, rfl, rfl, rfl, rfl, trivial⟩ ⟨rfl, trivial⟩ ⟨rfl, rfl, rfl, rfl, trivial⟩), h⟩
    ·replace h := cnd_f hb7 h
     refine vSkip ?_
     change VC _ _ _ _
     refine vRegionN 8 [7] [0, 1, 0, 4, 0, 28, 60, 124, 255, 511, 1023] (by kernel_rfl) (by kernel_rfl) (by kernel_rfl) (by kernel_rfl) (by kernel_rfl) rfl (by rfl) ?_
     iterate 5 refine nVal tt rfl (wNone rfl) rfl rfl rfl rfl rfl trivial ?_
     refine nVal tt rfl (wNone rfl) rfl rfl rfl rfl rfl hg5 ?_
     refine nVal tt rfl (wNone rfl) rfl rfl rfl rfl rfl trivial ?_
     refine nBuild tt (wNone rfl) rfl rfl rfl rfl rfl rfl rfl rfl rfl rfl rfl rfl ?_
     refine nNil ?_
     change VO _ _ _ _ _
     obtain ⟨hg11, h⟩ := grd_inv h
     refine oAppend tt rfl rfl rfl rfl rfl rfl rfl rfl rfl rfl rfl rfl rfl rfl rfl rfl (Nat.le_of_eq (Nat.zero_add _)) hg11 ?_
     refine oVal tt rfl rfl rfl rfl rfl trivial ?_
     refine oStore tt rfl rfl rfl rfl rfl rfl rfl rfl rfl rfl rfl ⟨trivial, trivial⟩ ?_
     refine vNil ?_
     change VC _ _ _ _
     refine vRegion ?_
     refine oVal tt rfl rfl rfl rfl rfl trivial ?_
     obtain ⟨hg12, h⟩ := grd_inv h
     refine oVal tt rfl rfl rfl rfl rfl hg12 ?_
     refine oVal tt rfl rfl rfl rfl rfl trivial ?_
     refine vNil ?_
     change ∃ _, _
     exact ⟨((l17 ++ ([((g_0.bars.getD ((i19).toNat) (0, 0)).1, (g_0.bars.getD ((i19).toNat) (0, 0)).2)] : List (Int × Int))), placed18, (i19 + (1 : Int))), (En.of ⟨rfl, rfl, rfl, rfl, rfl, rfl, trivial⟩ ⟨rfl, trivial⟩ ⟨rfl, rfl, rfl, rfl, trivial⟩), h⟩
   ·replace h := cnd_f hb4 h
    iterate 8 refine cNoT rfl rfl rfl rfl hb4 rfl rfl ?_
    refine cPickF rfl (wNone rfl) rfl rfl rfl hb4 rfl ?_
    refine cNil ?_
    change VC _ _ _ _
    refine vCondF rfl rfl ?_
    refine vSkip ?_
    change VC _ _ _ _
    refine vRegionN 8 [7] [0, 1, 0, 4, 0, 28, 60, 124, 255, 511, 1023] (by kernel_rfl) (by kernel_rfl) (by kernel_rfl) (by kernel_rfl) (by kernel_rfl) rfl (by rfl) ?_
    iterate 5 refine nVal tt rfl (wNone rfl) rfl rfl rfl rfl rfl trivial ?_
    obtain ⟨hg13, h⟩ := grd_inv h
    refine nVal tt rfl (wNone rfl) rfl rfl rfl rfl rfl hg13 ?_
    refine nVal tt rfl (wNone rfl) rfl rfl rfl rfl rfl trivial ?_
    refine nBuild tt (wNone rfl) rfl rfl rfl rfl rfl rfl rfl rfl rfl rfl rfl rfl ?_
    refine nNil ?_
    change VO _ _ _ _ _
    obtain ⟨hg14, h⟩ := grd_inv h
    refine oAppend tt rfl rfl rfl rfl rfl rfl rfl rfl rfl rfl rfl rfl rfl rfl rfl rfl (Nat.le_of_eq (Nat.zero_add _)) hg14 ?_
    refine oVal tt rfl rfl rfl rfl rfl trivial ?_
    refine oStore tt rfl rfl rfl rfl rfl rfl rfl rfl rfl rfl rfl ⟨trivial, trivial⟩ ?_
    refine vNil ?_
    change VC _ _ _ _
    refine vRegion ?_
    refine oVal tt rfl rfl rfl rfl rfl trivial ?_
    obtain ⟨hg15, h⟩ := grd_inv h
    refine oVal tt rfl rfl rfl rfl rfl hg15 ?_
    refine oVal tt rfl rfl rfl rfl rfl trivial ?_
    refine vNil ?_
    change ∃ _, _
    exact ⟨((l17 ++ ([((g_0.bars.getD ((i19).toNat) (0, 0)).1, (g_0.bars.getD ((i19).toNat) (0, 0)).2)] : List (Int × Int))), placed18, (i19 + (1 : Int))), (En.of ⟨rfl, rfl, rfl, rfl, rfl, rfl, trivial⟩ ⟨rfl, trivial⟩ ⟨rfl, rfl, rfl, rfl, trivial⟩), h⟩
  ·replace h := cnd_f hb3 h
   refine vExit ?_
   change ∃ _, _
   exact ⟨(l17, placed18), (En.of ⟨rfl, rfl, rfl, rfl, trivial⟩ ⟨rfl, trivial⟩ ⟨rfl, rfl, rfl, trivial⟩), h⟩
end Go.Proofs.Ytcljhpldfanhkaa
namespace Go.Proofs.Ytcljhpldfanhkaa
open Go.RowKit
def S_l2Copy (N : Nat) (g_0 : Grf) : Option (Grf) :=
 grd (g_0.bars.length ≤ 4294967296) <|
 some (⟨g_0.n, (([] : List (Int × Int)) ++ g_0.bars)⟩ : Grf)
set_option maxRecDepth 20000 in
set_option maxHeartbeats 1600000 in
theorem S_l2Copy_w (N : Nat) (g_0 : Grf) (r : Grf) (h : S_l2Copy N g_0 = some r) : PCall Try.prog 167 [gD g_0] [(111, .pairs r.bars)] (.agg [.int r.n, .row 0 0 r.bars.length]) := by
 unfold S_l2Copy at h
 refine pcall_intro (TT := TT) tt Try.func167 rfl rfl Try.ntmps167 (congrArg Array.toList Try.results167) rfl rfl fun w0 => ?_
 refine vSeq ?_
 refine vRegion ?_
 refine oBox rfl rfl rfl rfl rfl rfl rfl rfl rfl ?_
 refine oAlloc tt rfl rfl rfl rfl rfl rfl rfl rfl rfl ?_
 refine vNil ?_
 change VC _ _ _ _
 refine vSeq ?_
 refine vRegionN 6 [5] [0, 1, 0, 0, 8, 28, 63, 127] (by kernel_rfl) (by kernel_rfl) (by kernel_rfl) (by kernel_rfl) (by kernel_rfl) rfl (by rfl) ?_
 iterate 2 refine nVal tt rfl (wNone rfl) rfl rfl rfl rfl rfl trivial ?_
 refine nEmpty tt (wNone rfl) rfl rfl rfl rfl rfl ?_
 iterate 2 refine nVal tt rfl (wNone rfl) rfl rfl rfl rfl rfl trivial ?_
 obtain ⟨hg1, h⟩ := grd_inv h
 refine nAppNil tt (wNone rfl) rfl rfl rfl rfl rfl rfl rfl rfl (fun _ => rfl) rfl rfl rfl rfl rfl rfl hg1 ?_
 refine nNil ?_
 change VO _ _ _ _ _
 refine oPure (wNone rfl) (pBuild bld_impl_Graph rfl rfl) rfl rfl ?_
 refine oStore tt rfl rfl rfl rfl rfl rfl rfl rfl rfl rfl rfl ⟨trivial, trivial, trivial⟩ ?_
 refine vNil ?_
 change VC _ _ _ _
 refine vRet ?_
 change ∃ _, _
 cases h
 exact ⟨[8], _, rfl, ⟨rfl, trivial⟩, rfl, (.eq rfl), rfl⟩
end Go.Proofs.Ytcljhpldfanhkaa
namespace Go.Proofs.Ytcljhpldfanhkaa
open Go.RowKit
end Go.Proofs.Ytcljhpldfanhkaa
namespace Go.Proofs.Ytcljhpldfanhkaa
open Go.RowKit
end Go.Proofs.Ytcljhpldfanhkaa
namespace Go.Proofs.Ytcljhpldfanhkaa
open Go.RowKit
end Go.Proofs.Ytcljhpldfanhkaa
namespace Go.Proofs.Ytcljhpldfanhkaa
open Go.RowKit
end Go.Proofs.Ytcljhpldfanhkaa
namespace Go.Proofs.Ytcljhpldfanhkaa
open Go.RowKit
def S_RemoveBar (N : Nat) (g_0 : Grf) (k_1 : Int) : Option (Grf × Bool) :=
 (S_IsGraph N g_0).bind fun v1 =>
 cnd (!v1) (
  (S_l2Copy N g_0).bind fun v2 =>
  some ((⟨v2.n, v2.bars⟩ : Grf), false)) (
  cnd (decide (k_1 < (0 : Int))) (
   (S_l2Copy N g_0).bind fun v3 =>
   some ((⟨v3.n, v3.bars⟩ : Grf), false)) (
   cnd (decide (k_1 ≥ (g_0.bars.length : Int))) (
    (S_l2Copy N g_0).bind fun v4 =>
    some ((⟨v4.n, v4.bars⟩ : Grf), false)) (
    grd (0 ≤ k_1 ∧ k_1 ≤ (g_0.bars.length : Int)) <|
    grd (((g_0.bars.take ((k_1).toNat)).drop 0).length ≤ 4294967296) <|
    grd (Rg64 (k_1 + (1 : Int))) <|
    grd (0 ≤ (k_1 + (1 : Int)) ∧ (k_1 + (1 : Int)) ≤ (g_0.bars.length : Int)) <|
    grd ((([] : List (Int × Int)) ++ ((g_0.bars.take ((k_1).toNat)).drop 0)).length + ((g_0.bars.take g_0.bars.length).drop (((k_1 + (1 : Int))).toNat)).length ≤ 4294967296) <|
    some ((⟨g_0.n, ((([] : List (Int × Int)) ++ ((g_0.bars.take ((k_1).toNat)).drop 0)) ++ ((g_0.bars.take g_0.bars.length).drop (((k_1 + (1 : Int))).toNat)))⟩ : Grf), true))))
set_option maxRecDepth 20000 in
set_option maxHeartbeats 1600000 in
theorem S_RemoveBar_w (N : Nat) (g_0 : Grf) (k_1 : Int) (r : Grf × Bool) (h : S_RemoveBar N g_0 k_1 = some r) : PCall Try.prog 172 [gD g_0, .int k_1] [(111, .pairs r.1.bars)] (.tup [.agg [.int r.1.n, .row 0 0 r.1.bars.length], .bool r.2]) := by
 unfold S_RemoveBar at h
 refine pcall_intro (TT := TT) tt Try.func172 rfl rfl Try.ntmps172 (congrArg Array.toList Try.results172) rfl rfl fun w0 => ?_
 refine vSeq ?_
 refine vRegion ?_
 refine oBox rfl rfl rfl rfl rfl rfl rfl rfl rfl ?_
 refine oAlloc tt rfl rfl rfl rfl rfl rfl rfl rfl rfl ?_
 refine oVal tt rfl rfl rfl rfl rfl trivial ?_
 refine vNil ?_
 change VC _ _ _ _
 iterate 2 refine vSeq ?_
 refine vRegion ?_
 refine oVal tt rfl rfl rfl rfl rfl trivial ?_
 obtain ⟨v1, hc1, h⟩ := bind_inv h
 refine oCall (S_IsGraph_w N g_0 v1 hc1) rfl rfl rfl rfl rfl rfl rfl rfl ⟨⟨rfl, rfl, trivial⟩, trivial⟩ ?_
 iterate 2 refine oVal tt rfl rfl rfl rfl rfl trivial ?_
 refine oSplit rfl rfl rfl (fun hb2 => ?_) (fun hb2 => ?_)
 ·replace h := cnd_t hb2 h
  iterate 2 refine oNoF rfl rfl rfl rfl hb2 rfl rfl ?_
  refine oPick rfl rfl rfl rfl rfl hb2 rfl ?_
  refine oVal tt rfl rfl rfl rfl rfl trivial ?_
  iterate 5 refine oNoF rfl rfl rfl rfl rfl rfl rfl ?_
  refine oPick rfl rfl rfl rfl rfl rfl rfl ?_
  refine vNil ?_
  change VC _ _ _ _
  refine vCondT rfl rfl ?_
  refine vSeq ?_
  refine vRegion ?_
  refine oVal tt rfl rfl rfl rfl rfl trivial ?_
  obtain ⟨v2, hc3, h⟩ := bind_inv h
  refine oCall (S_l2Copy_w N g_0 v2 hc3) rfl rfl rfl rfl rfl rfl rfl rfl ⟨⟨rfl, rfl, trivial⟩, trivial⟩ ?_
  refine oStore tt rfl rfl rfl rfl rfl rfl rfl rfl rfl rfl rfl ⟨trivial, trivial, trivial⟩ ?_
  refine oVal tt rfl rfl rfl rfl rfl trivial ?_
  refine vNil ?_
  change VC _ _ _ _
  refine vRet ?_
  change ∃ _, _
  cases h
  exact ⟨[1210], _, rfl, ⟨rfl, trivial⟩, rfl, (.eq rfl), rfl⟩
 ·replace h := cnd_f hb2 h
  iterate 2 refine oValG tt rfl rfl rfl rfl rfl hb2 rfl rfl rfl trivial ?_
  refine oPickF rfl rfl rfl rfl rfl hb2 rfl ?_
  refine oVal tt rfl rfl rfl rfl rfl trivial ?_
  refine oSplit rfl rfl rfl (fun hb4 => ?_) (fun hb4 => ?_)
  ·replace h := cnd_t hb4 h
   iterate 5 refine oNoF rfl rfl rfl rfl hb4 rfl rfl ?_
   refine oPick rfl rfl rfl rfl rfl hb4 rfl ?_
   refine vNil ?_
   change VC _ _ _ _
   refine vCondT rfl rfl ?_
   refine vSeq ?_
   refine vRegion ?_
   refine oVal tt rfl rfl rfl rfl rfl trivial ?_
   obtain ⟨v3, hc5, h⟩ := bind_inv h
   refine oCall (S_l2Copy_w N g_0 v3 hc5) rfl rfl rfl rfl rfl rfl rfl rfl ⟨⟨rfl, rfl, trivial⟩, trivial⟩ ?_
   refine oStore tt rfl rfl rfl rfl rfl rfl rfl rfl rfl rfl rfl ⟨trivial, trivial, trivial⟩ ?_
   refine oVal tt rfl rfl rfl rfl rfl trivial ?_
   refine vNil ?_
   change VC _ _ _ _
   refine vRet ?_
   change ∃ _, _
   cases h
   exact ⟨[1210], _, rfl, ⟨rfl, trivial⟩, rfl, (.eq rfl), rfl⟩
  ·replace h := cnd_f hb4 h
   iterate 5 refine oValG tt rfl rfl rfl rfl rfl hb4 rfl rfl rfl trivial ?_
   refine oPickF rfl rfl rfl rfl rfl hb4 rfl ?_
   refine vNil ?_
   change VC _ _ _ _
   refine vCond rfl (fun hb6 => ?_) (fun hb6 => ?_)
   ·replace h := cnd_t hb6 h
    refine vSeq ?_
    refine vRegion ?_
    refine oVal tt rfl rfl rfl rfl rfl trivial ?_
    obtain ⟨v4, hc7, h⟩ := bind_inv h
    refine oCall (S_l2Copy_w N g_0 v4 hc7) rfl rfl rfl rfl rfl rfl rfl rfl ⟨⟨rfl, rfl, trivial⟩, trivial⟩ ?_
    refine oStore tt rfl rfl rfl rfl rfl rfl rfl rfl rfl rfl rfl ⟨trivial, trivial, trivial⟩ ?_
    refine oVal tt rfl rfl rfl rfl rfl trivial ?_
    refine vNil ?_
    change VC _ _ _ _
    refine vRet ?_
    change ∃ _, _
    cases h
    exact ⟨[1210], _, rfl, ⟨rfl, trivial⟩, rfl, (.eq rfl), rfl⟩
   ·replace h := cnd_f hb6 h
    refine vSkip ?_
    change VC _ _ _ _
    refine vSeq ?_
    refine vRegionN 14 [7, 13, 1130000029] [0, 1, 0, 0, 8, 0, 56, 124, 0, 256, 0, 1024, 3840, 8188, 16383, 32767, 65535] (by kernel_rfl) (by kernel_rfl) (by kernel_rfl) (by kernel_rfl) (by kernel_rfl) rfl (by rfl) ?_
    iterate 2 refine nVal tt rfl (wNone rfl) rfl rfl rfl rfl rfl trivial ?_
    refine nEmpty tt (wNone rfl) rfl rfl rfl rfl rfl ?_
    iterate 3 refine nVal tt rfl (wNone rfl) rfl rfl rfl rfl rfl trivial ?_
    obtain ⟨hg8, h⟩ := grd_inv h
    refine nVal tt rfl (wNone rfl) rfl rfl rfl rfl rfl hg8 ?_
    obtain ⟨hg9, h⟩ := grd_inv h
    refine nAppNil tt (wNone rfl) rfl rfl rfl rfl rfl rfl rfl rfl (fun _ => rfl) rfl rfl rfl rfl rfl rfl hg9 ?_
    iterate 3 refine nVal tt rfl (wNone rfl) rfl rfl rfl rfl rfl trivial ?_
    obtain ⟨hg10, h⟩ := grd_inv h
    refine nVal tt rfl (wNone rfl) rfl rfl rfl rfl rfl hg10 ?_
    obtain ⟨hg11, h⟩ := grd_inv h
    refine nVal tt rfl (wNone rfl) rfl rfl rfl rfl rfl hg11 ?_
    obtain ⟨hg12, h⟩ := grd_inv h
    refine nAppMove tt (wNone rfl) rfl rfl rfl rfl rfl rfl rfl rfl rfl rfl rfl rfl rfl rfl rfl rfl rfl rfl rfl rfl trivial hg12 ?_
    refine nNil ?_
    change VO _ _ _ _ _
    refine oPure (wNone rfl) (pBuild bld_impl_Graph rfl rfl) rfl rfl ?_
    refine oStore tt rfl rfl rfl rfl rfl rfl rfl rfl rfl rfl rfl ⟨trivial, trivial, trivial⟩ ?_
    refine oVal tt rfl rfl rfl rfl rfl trivial ?_
    refine vNil ?_
    change VC _ _ _ _
    refine vRet ?_
    change ∃ _, _
    cases h
    exact ⟨[35], _, rfl, ⟨rfl, trivial⟩, rfl, (.eq rfl), rfl⟩
end Go.Proofs.Ytcljhpldfanhkaa
namespace Go.Proofs.Ytcljhpldfanhkaa
open Go.RowKit
end Go.Proofs.Ytcljhpldfanhkaa
namespace Go.Proofs.Ytcljhpldfanhkaa
open Go.RowKit
end Go.Proofs.Ytcljhpldfanhkaa
namespace Go.Proofs.Ytcljhpldfanhkaa
open Go.RowKit
end Go.Proofs.Ytcljhpldfanhkaa
namespace Go.Proofs.Ytcljhpldfanhkaa
open Go.RowKit Go.Deep
end Go.Proofs.Ytcljhpldfanhkaa
namespace Go.Proofs.Ytcljhpldfanhkaa
open Go.RowKit
end Go.Proofs.Ytcljhpldfanhkaa
namespace Go.Proofs.Ytcljhpldfanhkaa
open Go.RowKit
def L_big (N : Nat) (code_0 : List Int) : Option (Bool) :=
 some (decide ((code_0.length : Int) > (1048576 : Int)))
set_option maxRecDepth 20000 in
set_option maxHeartbeats 1600000 in
theorem L_big_w (N : Nat) (code_0 : List Int) (r : Bool) (h : L_big N code_0 = some r) : PCall Try.prog 9 [.ro false (.bytes code_0)] [] (.bool r) := by
 unfold L_big at h
 refine pcall_intro (TT := TT) tt Try.func9 rfl rfl Try.ntmps9 (congrArg Array.toList Try.results9) rfl rfl fun w0 => ?_
 refine vSeq ?_
 refine vRegion ?_
 refine oVal tt rfl rfl rfl rfl rfl trivial ?_
 refine vNil ?_
 change VC _ _ _ _
 refine vSeq ?_
 refine vRegion ?_
 iterate 4 refine oVal tt rfl rfl rfl rfl rfl trivial ?_
 refine vNil ?_
 change VC _ _ _ _
 refine vRet ?_
 change ∃ _, _
 cases h
 exact ⟨[], _, rfl, trivial, rfl, (.eq rfl), rfl⟩
def S_l1Byte (N : Nat) (c_0 : Cur) : Option (Int × Int × Int) :=
 cnd (decide (c_0.i < (c_0.b.length : Int))) (
  grd (0 ≤ c_0.i ∧ c_0.i < (c_0.b.length : Int)) <|
  grd (0 ≤ (c_0.b.getD ((c_0.i).toNat) 0) ∧ (c_0.b.getD ((c_0.i).toNat) 0) < 256) <|
  some ((andI (w64 ((andI (xorI (shrI (w64 ((w64 (c_0.h * (6364136223846793005 : Int))) + (1442695040888963407 : Int))) 33) (shrI (w64 ((w64 (c_0.h * (6364136223846793005 : Int))) + (1442695040888963407 : Int))) 45)) (255 : Int)) + (c_0.b.getD ((c_0.i).toNat) 0))) (255 : Int)), (w64 (c_0.i + (1 : Int))), (w64 ((w64 (c_0.h * (6364136223846793005 : Int))) + (1442695040888963407 : Int))))) (
  some ((andI (xorI (shrI (w64 ((w64 (c_0.h * (6364136223846793005 : Int))) + (1442695040888963407 : Int))) 33) (shrI (w64 ((w64 (c_0.h * (6364136223846793005 : Int))) + (1442695040888963407 : Int))) 45)) (255 : Int)), c_0.i, (w64 ((w64 (c_0.h * (6364136223846793005 : Int))) + (1442695040888963407 : Int)))))
set_option maxRecDepth 20000 in
set_option maxHeartbeats 1600000 in
theorem S_l1Byte_w (N : Nat) (c_0 : Cur) (r : Int × Int × Int) (h : S_l1Byte N c_0 = some r) : MCall Try.prog 179 [.ptr 1000000 0] [] [1000000] [] [] [[.ro false (.bytes c_0.b), .int c_0.i, .int c_0.h]] [[.ro false (.bytes c_0.b), .int r.2.1, .int r.2.2]] (.int r.1) := by
 unfold S_l1Byte at h
 refine mcall_intro (TT := TT) tt Try.func179 rfl rfl Try.ntmps179 (congrArg Array.toList Try.results179) rfl rfl rfl rfl rfl fun w0 O0 => ?_
 refine vSeq ?_
 refine vRegion ?_
 refine oVal tt rfl rfl rfl rfl rfl trivial ?_
 refine vNil ?_
 change VC _ _ _ _
 refine vSeq ?_
 refine vRegion ?_
 iterate 5 refine oVal tt rfl rfl rfl rfl rfl trivial ?_
 refine oPure (wNone rfl) (pMulW rfl rfl rfl) rfl rfl ?_
 refine oPure (wNone rfl) (pAddW rfl rfl rfl) rfl rfl ?_
 iterate 2 refine oVal tt rfl rfl rfl rfl rfl trivial ?_
 refine oStore tt rfl rfl rfl rfl rfl rfl rfl rfl rfl rfl rfl ⟨trivial, trivial⟩ ?_
 refine vNil ?_
 change VC _ _ _ _
 refine vSeq ?_
 refine vRegionD (by kernel_rfl) (by kernel_rfl) ?_
 iterate 4 refine cVal tt rfl (wNone rfl) rfl rfl rfl trivial ?_
 refine cPure (wNone rfl) (pShrU rfl rfl rfl (by decide)) rfl rfl ?_
 iterate 4 refine cVal tt rfl (wNone rfl) rfl rfl rfl trivial ?_
 refine cPure (wNone rfl) (pShrU rfl rfl rfl (by decide)) rfl rfl ?_
 refine cPure (wNone rfl) (pXor rfl rfl rfl) rfl rfl ?_
 iterate 2 refine cVal tt rfl (wNone rfl) rfl rfl rfl trivial ?_
 refine cNil ?_
 change VC _ _ _ _
 iterate 2 refine vSeq ?_
 refine vRegionD (by kernel_rfl) (by kernel_rfl) ?_
 iterate 10 refine cVal tt rfl (wNone rfl) rfl rfl rfl trivial ?_
 refine cNil ?_
 change VC _ _ _ _
 refine vCond rfl (fun hb1 => ?_) (fun hb1 => ?_)
 ·replace h := cnd_t hb1 h
  refine vSeq ?_
  refine vRegionD (by kernel_rfl) (by kernel_rfl) ?_
  iterate 9 refine cVal tt rfl (wNone rfl) rfl rfl rfl trivial ?_
  obtain ⟨hg2, h⟩ := grd_inv h
  refine cVal tt rfl (wNone rfl) rfl rfl rfl hg2 ?_
  refine cVal tt rfl (wNone rfl) rfl rfl rfl trivial ?_
  obtain ⟨hg3, h⟩ := grd_inv h
  refine cPure (wNone rfl) (pConvI Try.underlying5 Try.underlying3 rfl rfl hg3) rfl rfl ?_
  refine cPure (wNone rfl) (pAddW rfl rfl rfl) rfl rfl ?_
  iterate 2 refine cVal tt rfl (wNone rfl) rfl rfl rfl trivial ?_
  refine cNil ?_
  change VC _ _ _ _
  refine vRegion ?_
  iterate 5 refine oVal tt rfl rfl rfl rfl rfl trivial ?_
  refine oPure (wNone rfl) (pAddW rfl rfl rfl) rfl rfl ?_
  iterate 2 refine oVal tt rfl rfl rfl rfl rfl trivial ?_
  refine oStore tt rfl rfl rfl rfl rfl rfl rfl rfl rfl rfl rfl ⟨trivial, trivial⟩ ?_
  refine vNil ?_
  change VC _ _ _ _
  refine vSeq ?_
  refine vRegion ?_
  iterate 2 refine oVal tt rfl rfl rfl rfl rfl trivial ?_
  refine vNil ?_
  change VC _ _ _ _
  refine vRet ?_
  change ∃ _, _
  cases h
  exact ⟨[], rfl, trivial, ⟨rfl, trivial⟩, rfl⟩
 ·replace h := cnd_f hb1 h
  refine vSkip ?_
  change VC _ _ _ _
  refine vSeq ?_
  refine vRegion ?_
  iterate 2 refine oVal tt rfl rfl rfl rfl rfl trivial ?_
  refine vNil ?_
  change VC _ _ _ _
  refine vRet ?_
  change ∃ _, _
  cases h
  exact ⟨[], rfl, trivial, ⟨rfl, trivial⟩, rfl⟩
def S_l1Below (N : Nat) (c_0 : Cur) (n_1 : Int) : Option (Int × Int × Int) :=
 cnd (decide (n_1 ≤ (0 : Int))) (
  some ((0 : Int), c_0.i, c_0.h)) (
  cnd (decide (n_1 ≤ (256 : Int))) (
   (S_l1Byte N c_0).bind fun v1 =>
   grd (n_1 ≠ 0) <|
   some ((Int.tmod v1.1 n_1), v1.2.1, v1.2.2)) (
   (S_l1Byte N c_0).bind fun v2 =>
   (S_l1Byte N (⟨c_0.b, v2.2.1, v2.2.2⟩ : Cur)).bind fun v3 =>
   (S_l1Byte N (⟨c_0.b, v3.2.1, v3.2.2⟩ : Cur)).bind fun v4 =>
   (S_l1Byte N (⟨c_0.b, v4.2.1, v4.2.2⟩ : Cur)).bind fun v5 =>
   grd (Rg64 (v2.1 * (16777216 : Int))) <|
   grd (Rg64 (v3.1 * (65536 : Int))) <|
   grd (Rg64 ((v2.1 * (16777216 : Int)) + (v3.1 * (65536 : Int)))) <|
   grd (Rg64 (v4.1 * (256 : Int))) <|
   grd (Rg64 (((v2.1 * (16777216 : Int)) + (v3.1 * (65536 : Int))) + (v4.1 * (256 : Int)))) <|
   grd (Rg64 ((((v2.1 * (16777216 : Int)) + (v3.1 * (65536 : Int))) + (v4.1 * (256 : Int))) + v5.1)) <|
   grd (n_1 ≠ 0) <|
   some ((Int.tmod ((((v2.1 * (16777216 : Int)) + (v3.1 * (65536 : Int))) + (v4.1 * (256 : Int))) + v5.1) n_1), v5.2.1, v5.2.2)))
set_option maxRecDepth 20000 in
set_option maxHeartbeats 1600000 in
theorem S_l1Below_w (N : Nat) (c_0 : Cur) (n_1 : Int) (r : Int × Int × Int) (h : S_l1Below N c_0 n_1 = some r) : MCall Try.prog 123 [.ptr 1000000 0, .int n_1] [] [1000000] [] [] [[.ro false (.bytes c_0.b), .int c_0.i, .int c_0.h]] [[.ro false (.bytes c_0.b), .int r.2.1, .int r.2.2]] (.int r.1) := by
 unfold S_l1Below at h
 refine mcall_intro (TT := TT) tt Try.func123 rfl rfl Try.ntmps123 (congrArg Array.toList Try.results123) rfl rfl rfl rfl rfl fun w0 O0 => ?_
 refine vSeq ?_
 refine vRegion ?_
 refine oVal tt rfl rfl rfl rfl rfl trivial ?_
 refine vNil ?_
 change VC _ _ _ _
 iterate 2 refine vSeq ?_
 refine vRegion ?_
 iterate 2 refine oVal tt rfl rfl rfl rfl rfl trivial ?_
 refine vNil ?_
 change VC _ _ _ _
 refine vCond rfl (fun hb1 => ?_) (fun hb1 => ?_)
 ·replace h := cnd_t hb1 h
  refine vSeq ?_
  refine vRegion ?_
  refine oVal tt rfl rfl rfl rfl rfl trivial ?_
  refine vNil ?_
  change VC _ _ _ _
  refine vRet ?_
  change ∃ _, _
  cases h
  exact ⟨[], rfl, trivial, ⟨rfl, trivial⟩, rfl⟩
 ·replace h := cnd_f hb1 h
  refine vSkip ?_
  change VC _ _ _ _
  iterate 2 refine vSeq ?_
  refine vRegion ?_
  iterate 2 refine oVal tt rfl rfl rfl rfl rfl trivial ?_
  refine vNil ?_
  change VC _ _ _ _
  refine vCond rfl (fun hb2 => ?_) (fun hb2 => ?_)
  ·replace h := cnd_t hb2 h
   refine vSeq ?_
   refine vRegion ?_
   refine oVal tt rfl rfl rfl rfl rfl trivial ?_
   obtain ⟨v1, hc3, h⟩ := bind_inv h
   refine oMCall (S_l1Byte_w N c_0 v1 hc3) [] [1000000] [] rfl rfl rfl rfl rfl rfl trivial ⟨rfl, trivial⟩ ⟨⟨rfl, rfl⟩, trivial⟩ ?_
   refine oVal tt rfl rfl rfl rfl rfl trivial ?_
   obtain ⟨hg4, h⟩ := grd_inv h
   refine oVal tt rfl rfl rfl rfl rfl hg4 ?_
   refine oVal tt rfl rfl rfl rfl rfl trivial ?_
   refine vNil ?_
   change VC _ _ _ _
   refine vRet ?_
   change ∃ _, _
   cases h
   exact ⟨[], rfl, trivial, ⟨rfl, trivial⟩, rfl⟩
  ·replace h := cnd_f hb2 h
   refine vSkip ?_
   change VC _ _ _ _
   refine vSeq ?_
   refine vRegion ?_
   refine oVal tt rfl rfl rfl rfl rfl trivial ?_
   obtain ⟨v2, hc5, h⟩ := bind_inv h
   refine oMCall (S_l1Byte_w N c_0 v2 hc5) [] [1000000] [] rfl rfl rfl rfl rfl rfl trivial ⟨rfl, trivial⟩ ⟨⟨rfl, rfl⟩, trivial⟩ ?_
   refine oVal tt rfl rfl rfl rfl rfl trivial ?_
   refine vNil ?_
   change VC _ _ _ _
   refine vSeq ?_
   refine vRegion ?_
   refine oVal tt rfl rfl rfl rfl rfl trivial ?_
   obtain ⟨v3, hc6, h⟩ := bind_inv h
   refine oMCall (S_l1Byte_w N (⟨c_0.b, v2.2.1, v2.2.2⟩ : Cur) v3 hc6) [] [1000000] [] rfl rfl rfl rfl rfl rfl trivial ⟨rfl, trivial⟩ ⟨⟨rfl, rfl⟩, trivial⟩ ?_
   refine oVal tt rfl rfl rfl rfl rfl trivial ?_
   refine vNil ?_
   change VC _ _ _ _
   refine vSeq ?_
   refine vRegion ?_
   refine oVal tt rfl rfl rfl rfl rfl trivial ?_
   obtain ⟨v4, hc7, h⟩ := bind_inv h
   refine oMCall (S_l1Byte_w N (⟨c_0.b, v3.2.1, v3.2.2⟩ : Cur) v4 hc7) [] [1000000] [] rfl rfl rfl rfl rfl rfl trivial ⟨rfl, trivial⟩ ⟨⟨rfl, rfl⟩, trivial⟩ ?_
   refine oVal tt rfl rfl rfl rfl rfl trivial ?_
   refine vNil ?_
   change VC _ _ _ _
   refine vSeq ?_
   refine vRegion ?_
   refine oVal tt rfl rfl rfl rfl rfl trivial ?_
   obtain ⟨v5, hc8, h⟩ := bind_inv h
   refine oMCall (S_l1Byte_w N (⟨c_0.b, v4.2.1, v4.2.2⟩ : Cur) v5 hc8) [] [1000000] [] rfl rfl rfl rfl rfl rfl trivial ⟨rfl, trivial⟩ ⟨⟨rfl, rfl⟩, trivial⟩ ?_
   refine oVal tt rfl rfl rfl rfl rfl trivial ?_
   refine vNil ?_
   change VC _ _ _ _
   refine vSeq ?_
   refine vRegion ?_
   refine oVal tt rfl rfl rfl rfl rfl trivial ?_
   obtain ⟨hg9, h⟩ := grd_inv h
   refine oVal tt rfl rfl rfl rfl rfl hg9 ?_
   refine oVal tt rfl rfl rfl rfl rfl trivial ?_
   obtain ⟨hg10, h⟩ := grd_inv h
   refine oVal tt rfl rfl rfl rfl rfl hg10 ?_
   obtain ⟨hg11, h⟩ := grd_inv h
   refine oVal tt rfl rfl rfl rfl rfl hg11 ?_
   refine oVal tt rfl rfl rfl rfl rfl trivial ?_
   obtain ⟨hg12, h⟩ := grd_inv h
   refine oVal tt rfl rfl rfl rfl rfl hg12 ?_
   obtain ⟨hg13, h⟩ := grd_inv h
   refine oVal tt rfl rfl rfl rfl rfl hg13 ?_
   refine oVal tt rfl rfl rfl rfl rfl trivial ?_
   obtain ⟨hg14, h⟩ := grd_inv h
   refine oVal tt rfl rfl rfl rfl rfl hg14 ?_
   refine oVal tt rfl rfl rfl rfl rfl trivial ?_
   obtain ⟨hg15, h⟩ := grd_inv h
   refine oVal tt rfl rfl rfl rfl rfl hg15 ?_
   refine oVal tt rfl rfl rfl rfl rfl trivial ?_
   refine vNil ?_
   change VC _ _ _ _
   refine vRet ?_
   change ∃ _, _
   cases h
   exact ⟨[], rfl, trivial, ⟨rfl, trivial⟩, rfl⟩
def S_l1Once (N : Nat) (c_0 : Cur) (n_1 : Int) : Option (Bool × Int × Int) :=
 (S_l1Below N c_0 n_1).bind fun v1 =>
 some ((v1.1 == (0 : Int)), v1.2.1, v1.2.2)
set_option maxRecDepth 20000 in
set_option maxHeartbeats 1600000 in
theorem S_l1Once_w (N : Nat) (c_0 : Cur) (n_1 : Int) (r : Bool × Int × Int) (h : S_l1Once N c_0 n_1 = some r) : MCall Try.prog 130 [.ptr 1000000 0, .int n_1] [] [1000000] [] [] [[.ro false (.bytes c_0.b), .int c_0.i, .int c_0.h]] [[.ro false (.bytes c_0.b), .int r.2.1, .int r.2.2]] (.bool r.1) := by
 unfold S_l1Once at h
 refine mcall_intro (TT := TT) tt Try.func130 rfl rfl Try.ntmps130 (congrArg Array.toList Try.results130) rfl rfl rfl rfl rfl fun w0 O0 => ?_
 refine vSeq ?_
 refine vRegion ?_
 refine oVal tt rfl rfl rfl rfl rfl trivial ?_
 refine vNil ?_
 change VC _ _ _ _
 refine vSeq ?_
 refine vRegion ?_
 iterate 2 refine oVal tt rfl rfl rfl rfl rfl trivial ?_
 obtain ⟨v1, hc1, h⟩ := bind_inv h
 refine oMCall (S_l1Below_w N c_0 n_1 v1 hc1) [] [1000000] [] rfl rfl rfl rfl rfl rfl trivial ⟨rfl, trivial⟩ ⟨⟨rfl, rfl⟩, ⟨rfl, rfl⟩, trivial⟩ ?_
 iterate 2 refine oVal tt rfl rfl rfl rfl rfl trivial ?_
 refine vNil ?_
 change VC _ _ _ _
 refine vRet ?_
 change ∃ _, _
 cases h
 exact ⟨[], rfl, trivial, ⟨rfl, trivial⟩, rfl⟩
def S_AddBar (N : Nat) (g_0 : Grf) (a_1 : Int) (b_2 : Int) : Option (Grf × Bool) :=
 (S_IsGraph N g_0).bind fun v1 =>
 cnd (!v1) (
  (S_l2Copy N g_0).bind fun v2 =>
  some ((⟨v2.n, v2.bars⟩ : Grf), false)) (
  cnd (decide (a_1 < (0 : Int))) (
   (S_l2Copy N g_0).bind fun v3 =>
   some ((⟨v3.n, v3.bars⟩ : Grf), false)) (
   cnd (decide (b_2 < (0 : Int))) (
    (S_l2Copy N g_0).bind fun v4 =>
    some ((⟨v4.n, v4.bars⟩ : Grf), false)) (
    cnd (decide (a_1 ≥ g_0.n)) (
     (S_l2Copy N g_0).bind fun v5 =>
     some ((⟨v5.n, v5.bars⟩ : Grf), false)) (
     cnd (decide (b_2 ≥ g_0.n)) (
      (S_l2Copy N g_0).bind fun v6 =>
      some ((⟨v6.n, v6.bars⟩ : Grf), false)) (
      cnd (a_1 == b_2) (
       (S_l2Copy N g_0).bind fun v7 =>
       some ((⟨v7.n, v7.bars⟩ : Grf), false)) (
       cnd (decide ((g_0.bars.length : Int) ≥ (24 : Int))) (
        (S_l2Copy N g_0).bind fun v8 =>
        some ((⟨v8.n, v8.bars⟩ : Grf), false)) (
        (S_l2Put N g_0 ((min a_1 b_2), (max a_1 b_2))).bind fun v9 =>
        some ((⟨v9.n, v9.bars⟩ : Grf), true))))))))
set_option maxRecDepth 20000 in
set_option maxHeartbeats 1600000 in
theorem S_AddBar_w (N : Nat) (g_0 : Grf) (a_1 : Int) (b_2 : Int) (r : Grf × Bool) (h : S_AddBar N g_0 a_1 b_2 = some r) : PCall Try.prog 173 [gD g_0, .int a_1, .int b_2] [(111, .pairs r.1.bars)] (.tup [.agg [.int r.1.n, .row 0 0 r.1.bars.length], .bool r.2]) := by
 unfold S_AddBar at h
 refine pcall_intro (TT := TT) tt Try.func173 rfl rfl Try.ntmps173 (congrArg Array.toList Try.results173) rfl rfl fun w0 => ?_
 refine vSeq ?_
 refine vRegion ?_
 refine oBox rfl rfl rfl rfl rfl rfl rfl rfl rfl ?_
 refine oAlloc tt rfl rfl rfl rfl rfl rfl rfl rfl rfl ?_
 refine oVal tt rfl rfl rfl rfl rfl trivial ?_
 refine vNil ?_
 change VC _ _ _ _
 iterate 2 refine vSeq ?_
 refine vRegion ?_
 refine oVal tt rfl rfl rfl rfl rfl trivial ?_
 obtain ⟨v1, hc1, h⟩ := bind_inv h
 refine oCall (S_IsGraph_w N g_0 v1 hc1) rfl rfl rfl rfl rfl rfl rfl rfl ⟨⟨rfl, rfl, trivial⟩, trivial⟩ ?_
 iterate 2 refine oVal tt rfl rfl rfl rfl rfl trivial ?_
 refine oSplit rfl rfl rfl (fun hb2 => ?_) (fun hb2 => ?_)
 ·replace h := cnd_t hb2 h
  iterate 2 refine oNoF rfl rfl rfl rfl hb2 rfl rfl ?_
  refine oPick rfl rfl rfl rfl rfl hb2 rfl ?_
  refine oVal tt rfl rfl rfl rfl rfl trivial ?_
  iterate 2 refine oNoF rfl rfl rfl rfl rfl rfl rfl ?_
  refine oPick rfl rfl rfl rfl rfl rfl rfl ?_
  refine oVal tt rfl rfl rfl rfl rfl trivial ?_
  iterate 4 refine oNoF rfl rfl rfl rfl rfl rfl rfl ?_
  refine oPick rfl rfl rfl rfl rfl rfl rfl ?_
  refine oVal tt rfl rfl rfl rfl rfl trivial ?_
  iterate 4 refine oNoF rfl rfl rfl rfl rfl rfl rfl ?_
  refine oPick rfl rfl rfl rfl rfl rfl rfl ?_
  refine oVal tt rfl rfl rfl rfl rfl trivial ?_
  iterate 3 refine oNoF rfl rfl rfl rfl rfl rfl rfl ?_
  refine oPick rfl rfl rfl rfl rfl rfl rfl ?_
  refine oVal tt rfl rfl rfl rfl rfl trivial ?_
  iterate 4 refine oNoF rfl rfl rfl rfl rfl rfl rfl ?_
  refine oPick rfl rfl rfl rfl rfl rfl rfl ?_
  refine vNil ?_
  change VC _ _ _ _
  refine vCondT rfl rfl ?_
  refine vSeq ?_
  refine vRegion ?_
  refine oVal tt rfl rfl rfl rfl rfl trivial ?_
  obtain ⟨v2, hc3, h⟩ := bind_inv h
  refine oCall (S_l2Copy_w N g_0 v2 hc3) rfl rfl rfl rfl rfl rfl rfl rfl ⟨⟨rfl, rfl, trivial⟩, trivial⟩ ?_
  refine oStore tt rfl rfl rfl rfl rfl rfl rfl rfl rfl rfl rfl ⟨trivial, trivial, trivial⟩ ?_
  refine oVal tt rfl rfl rfl rfl rfl trivial ?_
  refine vNil ?_
  change VC _ _ _ _
  refine vRet ?_
  change ∃ _, _
  cases h
  exact ⟨[1430], _, rfl, ⟨rfl, trivial⟩, rfl, (.eq rfl), rfl⟩
 ·replace h := cnd_f hb2 h
  iterate 2 refine oValG tt rfl rfl rfl rfl rfl hb2 rfl rfl rfl trivial ?_
  refine oPickF rfl rfl rfl rfl rfl hb2 rfl ?_
  refine oVal tt rfl rfl rfl rfl rfl trivial ?_
  refine oSplit rfl rfl rfl (fun hb4 => ?_) (fun hb4 => ?_)
  ·replace h := cnd_t hb4 h
   iterate 2 refine oNoF rfl rfl rfl rfl hb4 rfl rfl ?_
   refine oPick rfl rfl rfl rfl rfl hb4 rfl ?_
   refine oVal tt rfl rfl rfl rfl rfl trivial ?_
   iterate 4 refine oNoF rfl rfl rfl rfl rfl rfl rfl ?_
   refine oPick rfl rfl rfl rfl rfl rfl rfl ?_
   refine oVal tt rfl rfl rfl rfl rfl trivial ?_
   iterate 4 refine oNoF rfl rfl rfl rfl rfl rfl rfl ?_
   refine oPick rfl rfl rfl rfl rfl rfl rfl ?_
   refine oVal tt rfl rfl rfl rfl rfl trivial ?_
   iterate 3 refine oNoF rfl rfl rfl rfl rfl rfl rfl ?_
   refine oPick rfl rfl rfl rfl rfl rfl rfl ?_
   refine oVal tt rfl rfl rfl rfl rfl trivial ?_
   iterate 4 refine oNoF rfl rfl rfl rfl rfl rfl rfl ?_
   refine oPick rfl rfl rfl rfl rfl rfl rfl ?_
   refine vNil ?_
   change VC _ _ _ _
   refine vCondT rfl rfl ?_
   refine vSeq ?_
   refine vRegion ?_
   refine oVal tt rfl rfl rfl rfl rfl trivial ?_
   obtain ⟨v3, hc5, h⟩ := bind_inv h
   refine oCall (S_l2Copy_w N g_0 v3 hc5) rfl rfl rfl rfl rfl rfl rfl rfl ⟨⟨rfl, rfl, trivial⟩, trivial⟩ ?_
   refine oStore tt rfl rfl rfl rfl rfl rfl rfl rfl rfl rfl rfl ⟨trivial, trivial, trivial⟩ ?_
   refine oVal tt rfl rfl rfl rfl rfl trivial ?_
   refine vNil ?_
   change VC _ _ _ _
   refine vRet ?_
   change ∃ _, _
   cases h
   exact ⟨[1430], _, rfl, ⟨rfl, trivial⟩, rfl, (.eq rfl), rfl⟩
  ·replace h := cnd_f hb4 h
   iterate 2 refine oValG tt rfl rfl rfl rfl rfl hb4 rfl rfl rfl trivial ?_
   refine oPickF rfl rfl rfl rfl rfl hb4 rfl ?_
   refine oVal tt rfl rfl rfl rfl rfl trivial ?_
   refine oSplit rfl rfl rfl (fun hb6 => ?_) (fun hb6 => ?_)
   ·replace h := cnd_t hb6 h
    iterate 4 refine oNoF rfl rfl rfl rfl hb6 rfl rfl ?_
    refine oPick rfl rfl rfl rfl rfl hb6 rfl ?_
    refine oVal tt rfl rfl rfl rfl rfl trivial ?_
    iterate 4 refine oNoF rfl rfl rfl rfl rfl rfl rfl ?_
    refine oPick rfl rfl rfl rfl rfl rfl rfl ?_
    refine oVal tt rfl rfl rfl rfl rfl trivial ?_
    iterate 3 refine oNoF rfl rfl rfl rfl rfl rfl rfl ?_
    refine oPick rfl rfl rfl rfl rfl rfl rfl ?_
    refine oVal tt rfl rfl rfl rfl rfl trivial ?_
    iterate 4 refine oNoF rfl rfl rfl rfl rfl rfl rfl ?_
    refine oPick rfl rfl rfl rfl rfl rfl rfl ?_
    refine vNil ?_
    change VC _ _ _ _
    refine vCondT rfl rfl ?_
    refine vSeq ?_
    refine vRegion ?_
    refine oVal tt rfl rfl rfl rfl rfl trivial ?_
    obtain ⟨v4, hc7, h⟩ := bind_inv h
    refine oCall (S_l2Copy_w N g_0 v4 hc7) rfl rfl rfl rfl rfl rfl rfl rfl ⟨⟨rfl, rfl, trivial⟩, trivial⟩ ?_
    refine oStore tt rfl rfl rfl rfl rfl rfl rfl rfl rfl rfl rfl ⟨trivial, trivial, trivial⟩ ?_
    refine oVal tt rfl rfl rfl rfl rfl trivial ?_
    refine vNil ?_
    change VC _ _ _ _
    refine vRet ?_
    change ∃ _, _
    cases h
    exact ⟨[1430], _, rfl, ⟨rfl, trivial⟩, rfl, (.eq rfl), rfl⟩
   ·replace h := cnd_f hb6 h
    iterate 4 refine oValG tt rfl rfl rfl rfl rfl hb6 rfl rfl rfl trivial ?_
    refine oPickF rfl rfl rfl rfl rfl hb6 rfl ?_
    refine oVal tt rfl rfl rfl rfl rfl trivial ?_
    refine oSplit rfl rfl rfl (fun hb8 => ?_) (fun hb8 => ?_)
    ·replace h := cnd_t hb8 h
     iterate 4 refine oNoF rfl rfl rfl rfl hb8 rfl rfl ?_
     refine oPick rfl rfl rfl rfl rfl hb8 rfl ?_
     refine oVal tt rfl rfl rfl rfl rfl trivial ?_
     iterate 3 refine oNoF rfl rfl rfl rfl rfl rfl rfl ?_
     refine oPick rfl rfl rfl rfl rfl rfl rfl ?_
     refine oVal tt rfl rfl rfl rfl rfl trivial ?_
     iterate 4 refine oNoF rfl rfl rfl rfl rfl rfl rfl ?_
     refine oPick rfl rfl rfl rfl rfl rfl rfl ?_
     refine vNil ?_
     change VC _ _ _ _
     refine vCondT rfl rfl ?_
     refine vSeq ?_
     refine vRegion ?_
     refine oVal tt rfl rfl rfl rfl rfl trivial ?_
     obtain ⟨v5, hc9, h⟩ := bind_inv h
     refine oCall (S_l2Copy_w N g_0 v5 hc9) rfl rfl rfl rfl rfl rfl rfl rfl ⟨⟨rfl, rfl, trivial⟩, trivial⟩ ?_
     refine oStore tt rfl rfl rfl rfl rfl rfl rfl rfl rfl rfl rfl ⟨trivial, trivial, trivial⟩ ?_
     refine oVal tt rfl rfl rfl rfl rfl trivial ?_
     refine vNil ?_
     change VC _ _ _ _
     refine vRet ?_
     change ∃ _, _
     cases h
     exact ⟨[1430], _, rfl, ⟨rfl, trivial⟩, rfl, (.eq rfl), rfl⟩
    ·replace h := cnd_f hb8 h
     iterate 4 refine oValG tt rfl rfl rfl rfl rfl hb8 rfl rfl rfl trivial ?_
     refine oPickF rfl rfl rfl rfl rfl hb8 rfl ?_
     refine oVal tt rfl rfl rfl rfl rfl trivial ?_
     refine oSplit rfl rfl rfl (fun hb10 => ?_) (fun hb10 => ?_)
     ·replace h := cnd_t hb10 h
      iterate 3 refine oNoF rfl rfl rfl rfl hb10 rfl rfl ?_
      refine oPick rfl rfl rfl rfl rfl hb10 rfl ?_
      refine oVal tt rfl rfl rfl rfl rfl trivial ?_
      iterate 4 refine oNoF rfl rfl rfl rfl rfl rfl rfl ?_
      refine oPick rfl rfl rfl rfl rfl rfl rfl ?_
      refine vNil ?_
      change VC _ _ _ _
      refine vCondT rfl rfl ?_
      refine vSeq ?_
      refine vRegion ?_
      refine oVal tt rfl rfl rfl rfl rfl trivial ?_
      obtain ⟨v6, hc11, h⟩ := bind_inv h
      refine oCall (S_l2Copy_w N g_0 v6 hc11) rfl rfl rfl rfl rfl rfl rfl rfl ⟨⟨rfl, rfl, trivial⟩, trivial⟩ ?_
      refine oStore tt rfl rfl rfl rfl rfl rfl rfl rfl rfl rfl rfl ⟨trivial, trivial, trivial⟩ ?_
      refine oVal tt rfl rfl rfl rfl rfl trivial ?_
      refine vNil ?_
      change VC _ _ _ _
      refine vRet ?_
      change ∃ _, _
      cases h
      exact ⟨[1430], _, rfl, ⟨rfl, trivial⟩, rfl, (.eq rfl), rfl⟩
     ·replace h := cnd_f hb10 h
      iterate 3 refine oValG tt rfl rfl rfl rfl rfl hb10 rfl rfl rfl trivial ?_
      refine oPickF rfl rfl rfl rfl rfl hb10 rfl ?_
      refine oVal tt rfl rfl rfl rfl rfl trivial ?_
      refine oSplit rfl rfl rfl (fun hb12 => ?_) (fun hb12 => ?_)
      ·replace h := cnd_t hb12 h
       iterate 4 refine oNoF rfl rfl rfl rfl hb12 rfl rfl ?_
       refine oPick rfl rfl rfl rfl rfl hb12 rfl ?_
       refine vNil ?_
       change VC _ _ _ _
       refine vCondT rfl rfl ?_
       refine vSeq ?_
       refine vRegion ?_
       refine oVal tt rfl rfl rfl rfl rfl trivial ?_
       obtain ⟨v7, hc13, h⟩ := bind_inv h
       refine oCall (S_l2Copy_w N g_0 v7 hc13) rfl rfl rfl rfl rfl rfl rfl rfl ⟨⟨rfl, rfl, trivial⟩, trivial⟩ ?_
       refine oStore tt rfl rfl rfl rfl rfl rfl rfl rfl rfl rfl rfl ⟨trivial, trivial, trivial⟩ ?_
       refine oVal tt rfl rfl rfl rfl rfl trivial ?_
       refine vNil ?_
       change VC _ _ _ _
       refine vRet ?_
       change ∃ _, _
       cases h
       exact ⟨[1430], _, rfl, ⟨rfl, trivial⟩, rfl, (.eq rfl), rfl⟩
      ·replace h := cnd_f hb12 h
       iterate 4 refine oValG tt rfl rfl rfl rfl rfl hb12 rfl rfl rfl trivial ?_
       refine oPickF rfl rfl rfl rfl rfl hb12 rfl ?_
       refine vNil ?_
       change VC _ _ _ _
       refine vCond rfl (fun hb14 => ?_) (fun hb14 => ?_)
       ·replace h := cnd_t hb14 h
        refine vSeq ?_
        refine vRegion ?_
        refine oVal tt rfl rfl rfl rfl rfl trivial ?_
        obtain ⟨v8, hc15, h⟩ := bind_inv h
        refine oCall (S_l2Copy_w N g_0 v8 hc15) rfl rfl rfl rfl rfl rfl rfl rfl ⟨⟨rfl, rfl, trivial⟩, trivial⟩ ?_
        refine oStore tt rfl rfl rfl rfl rfl rfl rfl rfl rfl rfl rfl ⟨trivial, trivial, trivial⟩ ?_
        refine oVal tt rfl rfl rfl rfl rfl trivial ?_
        refine vNil ?_
        change VC _ _ _ _
        refine vRet ?_
        change ∃ _, _
        cases h
        exact ⟨[1430], _, rfl, ⟨rfl, trivial⟩, rfl, (.eq rfl), rfl⟩
       ·replace h := cnd_f hb14 h
        refine vSkip ?_
        change VC _ _ _ _
        refine vSeq ?_
        refine vRegion ?_
        iterate 7 refine oVal tt rfl rfl rfl rfl rfl trivial ?_
        refine oPure (wNone rfl) (pBuild bld_impl_Bar rfl rfl) rfl rfl ?_
        obtain ⟨v9, hc16, h⟩ := bind_inv h
        refine oCall (S_l2Put_w N g_0 ((min a_1 b_2), (max a_1 b_2)) v9 hc16) rfl rfl rfl rfl rfl rfl rfl rfl ⟨⟨rfl, rfl, trivial⟩, ⟨rfl, rfl, trivial⟩, trivial⟩ ?_
        refine oStore tt rfl rfl rfl rfl rfl rfl rfl rfl rfl rfl rfl ⟨trivial, trivial, trivial⟩ ?_
        refine oVal tt rfl rfl rfl rfl rfl trivial ?_
        refine vNil ?_
        change VC _ _ _ _
        refine vRet ?_
        change ∃ _, _
        cases h
        exact ⟨[1520], _, rfl, ⟨rfl, trivial⟩, rfl, (.eq rfl), rfl⟩
end Go.Proofs.Ytcljhpldfanhkaa
namespace Go.Proofs.Ytcljhpldfanhkaa
open Go.RowKit Go.Deep
end Go.Proofs.Ytcljhpldfanhkaa
namespace Go.Proofs.Ytcljhpldfanhkaa
open Go.RowKit Go.Deep
end Go.Proofs.Ytcljhpldfanhkaa
namespace Go.Proofs.Ytcljhpldfanhkaa
open Go.RowKit Go.Deep
end Go.Proofs.Ytcljhpldfanhkaa
namespace Go.Proofs.Ytcljhpldfanhkaa
open Go.RowKit
theorem bld_spec_l1Cur : BuildOK Try.prog 151 [(0, 1), (1, 1), (2, 1)] [.slice none 0 0, .int .i64 0, .int .i64 0] := bld (by kernel_rfl) (by kernel_rfl)
end Go.Proofs.Ytcljhpldfanhkaa
namespace Go.Proofs.Ytcljhpldfanhkaa
open Go.RowKit
def S_l1New_l1 (N : Nat) (code_0 : List Int) (k : Int → Option (Cur)) : Nat → (Int × Int) → Option (Cur)
 | 0, _ => none
 | n + 1, (h5, i6) =>
  cnd (decide (i6 < (code_0.length : Int))) (
   cnd (decide (i6 < (4000 : Int))) (
    grd (Rg64 (h5 * (131 : Int))) <|
    grd (0 ≤ i6 ∧ i6 < (code_0.length : Int)) <|
    grd (0 ≤ (code_0.getD ((i6).toNat) 0) ∧ (code_0.getD ((i6).toNat) 0) < 256) <|
    grd (Rg64 ((h5 * (131 : Int)) + (code_0.getD ((i6).toNat) 0))) <|
    grd (Rg64 (((h5 * (131 : Int)) + (code_0.getD ((i6).toNat) 0)) + (7 : Int))) <|
    grd (Rg64 (i6 + (1 : Int))) <|
    S_l1New_l1 N code_0 k n ((andI (((h5 * (131 : Int)) + (code_0.getD ((i6).toNat) 0)) + (7 : Int)) (1073741823 : Int)), (i6 + (1 : Int)))) (
    k h5)) (
   k h5)
def S_l1New (N : Nat) (code_0 : List Int) : Option (Cur) :=
 grd (Rg64 ((10101 : Int) + (code_0.length : Int))) <|
 S_l1New_l1 N code_0 (fun (h3 : Int) =>
    some (⟨code_0, (0 : Int), h3⟩ : Cur)) N (((10101 : Int) + (code_0.length : Int)), (0 : Int))
set_option maxRecDepth 20000 in
set_option maxHeartbeats 1600000 in
theorem S_l1New_w (N : Nat) (code_0 : List Int) (r : Cur) (h : S_l1New N code_0 = some r) : PCallB Try.prog 110 [.ro false (.bytes code_0)] [.ro false (.bytes r.b), .int r.i, .int r.h] := by
 unfold S_l1New at h
 refine pcallB_intro (TT := TT) tt Try.func110 rfl rfl Try.ntmps110 (congrArg Array.toList Try.results110) rfl rfl rfl fun w0 O0 => ?_
 refine vSeq ?_
 refine vRegion ?_
 refine oVal tt rfl rfl rfl rfl rfl trivial ?_
 refine vNil ?_
 change VC _ _ _ _
 refine vSeq ?_
 refine vRegion ?_
 iterate 2 refine oVal tt rfl rfl rfl rfl rfl trivial ?_
 obtain ⟨hg1, h⟩ := grd_inv h
 refine oVal tt rfl rfl rfl rfl rfl hg1 ?_
 refine oVal tt rfl rfl rfl rfl rfl trivial ?_
 refine vNil ?_
 change VC _ _ _ _
 iterate 2 refine vSeq ?_
 refine vRegion ?_
 refine oVal tt rfl rfl rfl rfl rfl trivial ?_
 refine vNil ?_
 change VC _ _ _ _
 refine vJoin (F := fun k => S_l1New_l1 N code_0 k) h (α := Int) (J := fun (h3 : Int) => (⟨[(0, .ro false (.bytes code_0)), (3, .int h3)], [], []⟩ : PS)) ?_ ?_
 ·rintro h3 h
  show VC _ _ _ (⟨[(0, .ro false (.bytes code_0)), (3, .int h3)], [], []⟩ : PS)
  refine vSeq ?_
  refine vRegion ?_
  iterate 2 refine oVal tt rfl rfl rfl rfl rfl trivial ?_
  refine oPure (wNone rfl) (pBuild bld_spec_l1Cur rfl rfl) rfl rfl ?_
  refine oBox rfl rfl rfl rfl rfl rfl rfl rfl rfl ?_
  refine oVal tt rfl rfl rfl rfl rfl trivial ?_
  refine vNil ?_
  change VC _ _ _ _
  refine vRet ?_
  change ∃ _, _
  cases h
  exact ⟨31, rfl, rfl, rfl⟩
 ·intro k h
  refine vBlock ?_
  refine vLoopS (α := Int × Int) (fun | (h5, i6) => (⟨[(0, .ro false (.bytes code_0)), (3, .int h5), (4, .int i6)], [], []⟩ : PS)) (S_l1New_l1 N code_0 k) h (En.of ⟨rfl, rfl, rfl, trivial⟩ trivial trivial) (fun _ => rfl) ?_
  rintro n ⟨h5, i6⟩ h
  rw [S_l1New_l1] at h
  show VC _ _ _ (⟨[(0, .ro false (.bytes code_0)), (3, .int h5), (4, .int i6)], [], []⟩ : PS)
  iterate 2 refine vSeq ?_
  refine vRegion ?_
  iterate 5 refine oVal tt rfl rfl rfl rfl rfl trivial ?_
  refine oSplit rfl rfl rfl (fun hb2 => ?_) (fun hb2 => ?_)
  ·replace h := cnd_t hb2 h
   iterate 2 refine oValG tt rfl rfl rfl rfl rfl hb2 rfl rfl rfl trivial ?_
   refine oPick rfl rfl rfl rfl rfl hb2 rfl ?_
   refine vNil ?_
   change VC _ _ _ _
   refine vCond rfl (fun hb3 => ?_) (fun hb3 => ?_)
   ·replace h := cnd_t hb3 h
    refine vSkip ?_
    change VC _ _ _ _
    refine vSeq ?_
    refine vBlock ?_
    refine vRegion ?_
    refine oVal tt rfl rfl rfl rfl rfl trivial ?_
    obtain ⟨hg4, h⟩ := grd_inv h
    refine oVal tt rfl rfl rfl rfl rfl hg4 ?_
    iterate 2 refine oVal tt rfl rfl rfl rfl rfl trivial ?_
    obtain ⟨hg5, h⟩ := grd_inv h
    refine oVal tt rfl rfl rfl rfl rfl hg5 ?_
    refine oVal tt rfl rfl rfl rfl rfl trivial ?_
    obtain ⟨hg6, h⟩ := grd_inv h
    refine oPure (wNone rfl) (pConvI Try.underlying5 Try.underlying3 rfl rfl hg6) rfl rfl ?_
    obtain ⟨hg7, h⟩ := grd_inv h
    refine oVal tt rfl rfl rfl rfl rfl hg7 ?_
    obtain ⟨hg8, h⟩ := grd_inv h
    refine oVal tt rfl rfl rfl rfl rfl hg8 ?_
    iterate 2 refine oVal tt rfl rfl rfl rfl rfl trivial ?_
    refine vNil ?_
    change VC _ _ _ _
    refine vRegion ?_
    refine oVal tt rfl rfl rfl rfl rfl trivial ?_
    obtain ⟨hg9, h⟩ := grd_inv h
    refine oVal tt rfl rfl rfl rfl rfl hg9 ?_
    refine oVal tt rfl rfl rfl rfl rfl trivial ?_
    refine vNil ?_
    change ∃ _, _
    exact ⟨((andI (((h5 * (131 : Int)) + (code_0.getD ((i6).toNat) 0)) + (7 : Int)) (1073741823 : Int)), (i6 + (1 : Int))), (En.of ⟨rfl, rfl, rfl, trivial⟩ trivial trivial), h⟩
   ·replace h := cnd_f hb3 h
    refine vExit ?_
    change ∃ _, _
    exact ⟨h5, (En.of ⟨rfl, rfl, trivial⟩ trivial trivial), h⟩
  ·replace h := cnd_f hb2 h
   iterate 2 refine oNoT rfl rfl rfl rfl hb2 rfl rfl ?_
   refine oPickF rfl rfl rfl rfl rfl hb2 rfl ?_
   refine vNil ?_
   change VC _ _ _ _
   refine vCondF rfl rfl ?_
   refine vExit ?_
   change ∃ _, _
   exact ⟨h5, (En.of ⟨rfl, rfl, trivial⟩ trivial trivial), h⟩
def L_has_l1 (N : Nat) (l_0 : List Int) (x_1 : Int) (k : Unit → Option (Bool)) : Nat → Int → Option (Bool)
 | 0, _ => none
 | n + 1, i3 =>
  cnd (decide (i3 < (l_0.length : Int))) (
   grd (0 ≤ i3 ∧ i3 < (l_0.length : Int)) <|
   cnd ((l_0.getD ((i3).toNat) 0) == x_1) (
    some true) (
    grd (Rg64 (i3 + (1 : Int))) <|
    L_has_l1 N l_0 x_1 k n (i3 + (1 : Int)))) (
   k ())
def L_has (N : Nat) (l_0 : List Int) (x_1 : Int) : Option (Bool) :=
 L_has_l1 N l_0 x_1 (fun (_ : Unit) =>
    some false) N (0 : Int)
set_option maxRecDepth 20000 in
set_option maxHeartbeats 1600000 in
theorem L_has_w (N : Nat) (l_0 : List Int) (x_1 : Int) (r : Bool) (h : L_has N l_0 x_1 = some r) : PCall Try.prog 22 [.ro false (.ints l_0), .int x_1] [] (.bool r) := by
 unfold L_has at h
 refine pcall_intro (TT := TT) tt Try.func22 rfl rfl Try.ntmps22 (congrArg Array.toList Try.results22) rfl rfl fun w0 => ?_
 refine vSeq ?_
 refine vRegion ?_
 refine oVal tt rfl rfl rfl rfl rfl trivial ?_
 refine vNil ?_
 change VC _ _ _ _
 iterate 2 refine vSeq ?_
 refine vRegion ?_
 refine oVal tt rfl rfl rfl rfl rfl trivial ?_
 refine vNil ?_
 change VC _ _ _ _
 refine vJoin (F := fun k => L_has_l1 N l_0 x_1 k) h (α := Unit) (J := fun (_ : Unit) => (⟨[], [], []⟩ : PS)) ?_ ?_
 ·rintro ⟨⟩ h
  show VC _ _ _ (⟨[], [], []⟩ : PS)
  refine vSeq ?_
  refine vRegion ?_
  refine oVal tt rfl rfl rfl rfl rfl trivial ?_
  refine vNil ?_
  change VC _ _ _ _
  refine vRet ?_
  change ∃ _, _
  cases h
  exact ⟨[], _, rfl, trivial, rfl, (.eq rfl), rfl⟩
 ·intro k h
  refine vBlock ?_
  refine vLoopS (α := Int) (fun (i3 : Int) => (⟨[(0, .ro false (.ints l_0)), (1, .int x_1), (5, .int i3)], [], []⟩ : PS)) (L_has_l1 N l_0 x_1 k) h (En.of ⟨rfl, rfl, rfl, trivial⟩ trivial trivial) (fun _ => rfl) ?_
  rintro n i3 h
  rw [L_has_l1] at h
  show VC _ _ _ (⟨[(0, .ro false (.ints l_0)), (1, .int x_1), (5, .int i3)], [], []⟩ : PS)
  iterate 2 refine vSeq ?_
  refine vRegion ?_
  iterate 4 refine oVal tt rfl rfl rfl rfl rfl trivial ?_
  refine vNil ?_
  change VC _ _ _ _
  refine vCond rfl (fun hb1 => ?_) (fun hb1 => ?_)
  ·replace h := cnd_t hb1 h
   refine vSkip ?_
   change VC _ _ _ _
   refine vSeq ?_
   refine vBlock ?_
   refine vSeq ?_
   refine vRegion ?_
   iterate 2 refine oVal tt rfl rfl rfl rfl rfl trivial ?_
   obtain ⟨hg2, h⟩ := grd_inv h
   refine oVal tt rfl rfl rfl rfl rfl hg2 ?_
   iterate 3 refine oVal tt rfl rfl rfl rfl rfl trivial ?_
   refine vNil ?_
   change VC _ _ _ _
   refine vCond rfl (fun hb3 => ?_) (fun hb3 => ?_)
   ·replace h := cnd_t hb3 h
    refine vSeq ?_
    refine vRegion ?_
    refine oVal tt rfl rfl rfl rfl rfl trivial ?_
    refine vNil ?_
    change VC _ _ _ _
    refine vRet ?_
    change ∃ _, _
    cases h
    exact ⟨[], _, rfl, trivial, rfl, (.eq rfl), rfl⟩
   ·replace h := cnd_f hb3 h
    refine vSkip ?_
    change VC _ _ _ _
    refine vRegion ?_
    refine oVal tt rfl rfl rfl rfl rfl trivial ?_
    obtain ⟨hg4, h⟩ := grd_inv h
    refine oVal tt rfl rfl rfl rfl rfl hg4 ?_
    refine oVal tt rfl rfl rfl rfl rfl trivial ?_
    refine vNil ?_
    change ∃ _, _
    exact ⟨(i3 + (1 : Int)), (En.of ⟨rfl, rfl, rfl, trivial⟩ trivial trivial), h⟩
  ·replace h := cnd_f hb1 h
   refine vExit ?_
   change ∃ _, _
   exact ⟨(), (En.of trivial trivial trivial), h⟩
def L_sameInts_l1 (N : Nat) (a_0 : List Int) (b_1 : List Int) (k : Unit → Option (Bool)) : Nat → Int → Option (Bool)
 | 0, _ => none
 | n + 1, i3 =>
  cnd (decide (i3 < (a_0.length : Int))) (
   grd (0 ≤ i3 ∧ i3 < (a_0.length : Int)) <|
   grd (0 ≤ i3 ∧ i3 < (b_1.length : Int)) <|
   cnd ((a_0.getD ((i3).toNat) 0) != (b_1.getD ((i3).toNat) 0)) (
    some false) (
    grd (Rg64 (i3 + (1 : Int))) <|
    L_sameInts_l1 N a_0 b_1 k n (i3 + (1 : Int)))) (
   k ())
def L_sameInts (N : Nat) (a_0 : List Int) (b_1 : List Int) : Option (Bool) :=
 cnd ((a_0.length : Int) != (b_1.length : Int)) (
  some false) (
  L_sameInts_l1 N a_0 b_1 (fun (_ : Unit) =>
     some true) N (0 : Int))
set_option maxRecDepth 20000 in
set_option maxHeartbeats 1600000 in
theorem L_sameInts_w (N : Nat) (a_0 : List Int) (b_1 : List Int) (r : Bool) (h : L_sameInts N a_0 b_1 = some r) : PCall Try.prog 27 [.ro false (.ints a_0), .ro false (.ints b_1)] [] (.bool r) := by
 unfold L_sameInts at h
 refine pcall_intro (TT := TT) tt Try.func27 rfl rfl Try.ntmps27 (congrArg Array.toList Try.results27) rfl rfl fun w0 => ?_
 refine vSeq ?_
 refine vRegion ?_
 refine oVal tt rfl rfl rfl rfl rfl trivial ?_
 refine vNil ?_
 change VC _ _ _ _
 iterate 2 refine vSeq ?_
 refine vRegion ?_
 iterate 5 refine oVal tt rfl rfl rfl rfl rfl trivial ?_
 refine vNil ?_
 change VC _ _ _ _
 refine vCond rfl (fun hb1 => ?_) (fun hb1 => ?_)
 ·replace h := cnd_t hb1 h
  refine vSeq ?_
  refine vRegion ?_
  refine oVal tt rfl rfl rfl rfl rfl trivial ?_
  refine vNil ?_
  change VC _ _ _ _
  refine vRet ?_
  change ∃ _, _
  cases h
  exact ⟨[], _, rfl, trivial, rfl, (.eq rfl), rfl⟩
 ·replace h := cnd_f hb1 h
  refine vSkip ?_
  change VC _ _ _ _
  iterate 2 refine vSeq ?_
  refine vRegion ?_
  refine oVal tt rfl rfl rfl rfl rfl trivial ?_
  refine vNil ?_
  change VC _ _ _ _
  refine vJoin (F := fun k => L_sameInts_l1 N a_0 b_1 k) h (α := Unit) (J := fun (_ : Unit) => (⟨[], [], []⟩ : PS)) ?_ ?_
  ·rintro ⟨⟩ h
   show VC _ _ _ (⟨[], [], []⟩ : PS)
   refine vSeq ?_
   refine vRegion ?_
   refine oVal tt rfl rfl rfl rfl rfl trivial ?_
   refine vNil ?_
   change VC _ _ _ _
   refine vRet ?_
   change ∃ _, _
   cases h
   exact ⟨[], _, rfl, trivial, rfl, (.eq rfl), rfl⟩
  ·intro k h
   refine vBlock ?_
   refine vLoopS (α := Int) (fun (i3 : Int) => (⟨[(0, .ro false (.ints a_0)), (1, .ro false (.ints b_1)), (5, .int i3)], [], []⟩ : PS)) (L_sameInts_l1 N a_0 b_1 k) h (En.of ⟨rfl, rfl, rfl, trivial⟩ trivial trivial) (fun _ => rfl) ?_
   rintro n i3 h
   rw [L_sameInts_l1] at h
   show VC _ _ _ (⟨[(0, .ro false (.ints a_0)), (1, .ro false (.ints b_1)), (5, .int i3)], [], []⟩ : PS)
   iterate 2 refine vSeq ?_
   refine vRegion ?_
   iterate 4 refine oVal tt rfl rfl rfl rfl rfl trivial ?_
   refine vNil ?_
   change VC _ _ _ _
   refine vCond rfl (fun hb2 => ?_) (fun hb2 => ?_)
   ·replace h := cnd_t hb2 h
    refine vSkip ?_
    change VC _ _ _ _
    refine vSeq ?_
    refine vBlock ?_
    refine vSeq ?_
    refine vRegionD (by kernel_rfl) (by kernel_rfl) ?_
    iterate 2 refine cVal tt rfl (wNone rfl) rfl rfl rfl trivial ?_
    obtain ⟨hg3, h⟩ := grd_inv h
    refine cVal tt rfl (wNone rfl) rfl rfl rfl hg3 ?_
    iterate 3 refine cVal tt rfl (wNone rfl) rfl rfl rfl trivial ?_
    obtain ⟨hg4, h⟩ := grd_inv h
    refine cVal tt rfl (wNone rfl) rfl rfl rfl hg4 ?_
    iterate 2 refine cVal tt rfl (wNone rfl) rfl rfl rfl trivial ?_
    refine cNil ?_
    change VC _ _ _ _
    refine vCond rfl (fun hb5 => ?_) (fun hb5 => ?_)
    ·replace h := cnd_t hb5 h
     refine vSeq ?_
     refine vRegion ?_
     refine oVal tt rfl rfl rfl rfl rfl trivial ?_
     refine vNil ?_
     change VC _ _ _ _
     refine vRet ?_
     change ∃ _, _
     cases h
     exact ⟨[], _, rfl, trivial, rfl, (.eq rfl), rfl⟩
    ·replace h := cnd_f hb5 h
     refine vSkip ?_
     change VC _ _ _ _
     refine vRegion ?_
     refine oVal tt rfl rfl rfl rfl rfl trivial ?_
     obtain ⟨hg6, h⟩ := grd_inv h
     refine oVal tt rfl rfl rfl rfl rfl hg6 ?_
     refine oVal tt rfl rfl rfl rfl rfl trivial ?_
     refine vNil ?_
     change ∃ _, _
     exact ⟨(i3 + (1 : Int)), (En.of ⟨rfl, rfl, rfl, trivial⟩ trivial trivial), h⟩
   ·replace h := cnd_f hb2 h
    refine vExit ?_
    change ∃ _, _
    exact ⟨(), (En.of trivial trivial trivial), h⟩
end Go.Proofs.Ytcljhpldfanhkaa
namespace Go.Proofs.Ytcljhpldfanhkaa
open Go.RowKit
def S_l10Of_l1 (N : Nat) (g_1 : Grf) (l16 : List (Int × Int)) (k : (List (Int × Int)) → Option (Frm × Int × Int)) : Nat → ((List (Int × Int)) × Int) → Option (Frm × Int × Int)
 | 0, _ => none
 | n + 1, (l25, i26) =>
  cnd (decide (i26 < (g_1.bars.length : Int))) (
   grd (0 ≤ i26 ∧ i26 < (g_1.bars.length : Int)) <|
   grd (0 ≤ ((g_1.bars.getD ((i26).toNat) (0, 0)).1) ∧ ((g_1.bars.getD ((i26).toNat) (0, 0)).1) < (l16.length : Int)) <|
   grd (0 ≤ ((g_1.bars.getD ((i26).toNat) (0, 0)).2) ∧ ((g_1.bars.getD ((i26).toNat) (0, 0)).2) < (l16.length : Int)) <|
   cnd (!(((l16.getD (((g_1.bars.getD ((i26).toNat) (0, 0)).1).toNat) (0, 0)).1 == (l16.getD (((g_1.bars.getD ((i26).toNat) (0, 0)).2).toNat) (0, 0)).1) && ((l16.getD (((g_1.bars.getD ((i26).toNat) (0, 0)).1).toNat) (0, 0)).2 == (l16.getD (((g_1.bars.getD ((i26).toNat) (0, 0)).2).toNat) (0, 0)).2))) (
    cnd (i26 == (0 : Int)) (
     grd (l25.length + 1 ≤ 4294967296) <|
     grd (Rg64 (i26 + (1 : Int))) <|
     S_l10Of_l1 N g_1 l16 k n ((l25 ++ ([((g_1.bars.getD ((i26).toNat) (0, 0)).1, (g_1.bars.getD ((i26).toNat) (0, 0)).2)] : List (Int × Int))), (i26 + (1 : Int)))) (
     grd (Rg64 (i26 - (1 : Int))) <|
     grd (0 ≤ (i26 - (1 : Int)) ∧ (i26 - (1 : Int)) < (g_1.bars.length : Int)) <|
     cnd (!(((g_1.bars.getD (((i26 - (1 : Int))).toNat) (0, 0)).1 == (g_1.bars.getD ((i26).toNat) (0, 0)).1) && ((g_1.bars.getD (((i26 - (1 : Int))).toNat) (0, 0)).2 == (g_1.bars.getD ((i26).toNat) (0, 0)).2))) (
      grd (l25.length + 1 ≤ 4294967296) <|
      grd (Rg64 (i26 + (1 : Int))) <|
      S_l10Of_l1 N g_1 l16 k n ((l25 ++ ([((g_1.bars.getD ((i26).toNat) (0, 0)).1, (g_1.bars.getD ((i26).toNat) (0, 0)).2)] : List (Int × Int))), (i26 + (1 : Int)))) (
      grd (Rg64 (i26 + (1 : Int))) <|
      S_l10Of_l1 N g_1 l16 k n (l25, (i26 + (1 : Int)))))) (
    grd (Rg64 (i26 + (1 : Int))) <|
    S_l10Of_l1 N g_1 l16 k n (l25, (i26 + (1 : Int))))) (
   k l25)
def S_l10Of_l2 (N : Nat) (c_0 : Cur) (g_1 : Grf) (k : ((List (Int × Int)) × Int × Int) → Option (Frm × Int × Int)) : Nat → ((List (Int × Int)) × Int × Int × Int) → Option (Frm × Int × Int)
 | 0, _ => none
 | n + 1, (l35, i36, c37, c38) =>
  cnd (decide (i36 < g_1.n)) (
   (S_l1Below N (⟨c_0.b, c37, c38⟩ : Cur) (5 : Int)).bind fun v41 =>
   (S_l1Below N (⟨c_0.b, v41.2.1, v41.2.2⟩ : Cur) (5 : Int)).bind fun v42 =>
   grd (l35.length + 1 ≤ 4294967296) <|
   grd (Rg64 (i36 + (1 : Int))) <|
   S_l10Of_l2 N c_0 g_1 k n ((l35 ++ ([(v41.1, v42.1)] : List (Int × Int))), (i36 + (1 : Int)), v42.2.1, v42.2.2)) (
   k (l35, c37, c38))
def S_l10Of (N : Nat) (c_0 : Cur) (g_1 : Grf) : Option (Frm × Int × Int) :=
 S_l10Of_l2 N c_0 g_1 (fun (x : (List (Int × Int)) × Int × Int) =>
   match x with
   | (l16, c17, c18) =>
    S_l10Of_l1 N g_1 l16 (fun (l22 : List (Int × Int)) =>
       some ((⟨⟨g_1.n, l22⟩, l16⟩ : Frm), c17, c18)) N (([] : List (Int × Int)), (0 : Int))) N (([] : List (Int × Int)), (0 : Int), c_0.i, c_0.h)
set_option maxRecDepth 20000 in
set_option maxHeartbeats 1600000 in
theorem S_l10Of_w (N : Nat) (c_0 : Cur) (g_1 : Grf) (r : Frm × Int × Int) (h : S_l10Of N c_0 g_1 = some r) : MCall Try.prog 163 [.ptr 1000000 0, gD g_1] [900101, 900102] [1000000] [(111, .pairs []), (71, .pairs [])] [(111, .pairs r.1.g.bars), (71, .pairs r.1.places)] [[.ro false (.bytes c_0.b), .int c_0.i, .int c_0.h]] [[.ro false (.bytes c_0.b), .int r.2.1, .int r.2.2]] (.agg [.int r.1.g.n, .row 900101 0 r.1.g.bars.length, .row 900102 0 r.1.places.length]) := by
 unfold S_l10Of at h
 refine mcall_intro (TT := TT) tt Try.func163 rfl rfl Try.ntmps163 (congrArg Array.toList Try.results163) rfl rfl rfl rfl rfl fun w0 O0 => ?_
 refine vSeq ?_
 refine vRegion ?_
 refine oBox rfl rfl rfl rfl rfl rfl rfl rfl rfl ?_
 refine oAlloc tt rfl rfl rfl rfl rfl rfl rfl rfl rfl ?_
 refine vNil ?_
 change VC _ _ _ _
 refine vSeq ?_
 refine vRegion ?_
 iterate 2 refine oVal tt rfl rfl rfl rfl rfl trivial ?_
 refine oEmpty tt (wNone rfl) rfl rfl rfl rfl ?_
 refine oPure (wNone rfl) (pBuild bld_impl_Graph rfl rfl) rfl rfl ?_
 refine oPure (wNone rfl) (pBuild bld_impl_Framework rfl rfl) rfl rfl ?_
 refine oAlloc tt rfl rfl rfl rfl rfl rfl rfl rfl rfl ?_
 refine oStore tt rfl rfl rfl rfl rfl rfl rfl rfl rfl rfl rfl ⟨trivial, trivial, trivial, trivial⟩ ?_
 refine vNil ?_
 change VC _ _ _ _
 iterate 2 refine vSeq ?_
 refine vRegion ?_
 refine oVal tt rfl rfl rfl rfl rfl trivial ?_
 refine vNil ?_
 change VC _ _ _ _
 refine vJoin (F := fun k => S_l10Of_l2 N c_0 g_1 k) h (α := (List (Int × Int)) × Int × Int) (J := fun | (l16, c17, c18) => (⟨[(3, .ptr 3 0), (4, .ptr 4 0), (5, .ptr 5 0)], [(30, some (71, .pairs l16))], [(1000000, some [.ro false (.bytes c_0.b), .int c17, .int c18]), (3, some [.int g_1.n, .ro false (.pairs g_1.bars)]), (4, some [.int (0 : Int), .nil, .nil]), (5, some [.int g_1.n, .nil, .row 30 0 l16.length])]⟩ : PS)) ?_ ?_
 ·rintro ⟨l16, c17, c18⟩ h
  show VC _ _ _ (⟨[(3, .ptr 3 0), (4, .ptr 4 0), (5, .ptr 5 0)], [(30, some (71, .pairs l16))], [(1000000, some [.ro false (.bytes c_0.b), .int c17, .int c18]), (3, some [.int g_1.n, .ro false (.pairs g_1.bars)]), (4, some [.int (0 : Int), .nil, .nil]), (5, some [.int g_1.n, .nil, .row 30 0 l16.length])]⟩ : PS)
  iterate 2 refine vSeq ?_
  refine vRegion ?_
  refine oVal tt rfl rfl rfl rfl rfl trivial ?_
  refine vNil ?_
  change VC _ _ _ _
  refine vJoin (F := fun k => S_l10Of_l1 N g_1 l16 k) h (α := List (Int × Int)) (J := fun (l22 : List (Int × Int)) => (⟨[(4, .ptr 4 0), (5, .ptr 5 0)], [(76, some (111, .pairs l22)), (30, some (71, .pairs l16))], [(1000000, some [.ro false (.bytes c_0.b), .int c17, .int c18]), (4, some [.int (0 : Int), .nil, .nil]), (5, some [.int g_1.n, .row 76 0 l22.length, .row 30 0 l16.length])]⟩ : PS)) ?_ ?_
  ·rintro l22 h
   show VC _ _ _ (⟨[(4, .ptr 4 0), (5, .ptr 5 0)], [(76, some (111, .pairs l22)), (30, some (71, .pairs l16))], [(1000000, some [.ro false (.bytes c_0.b), .int c17, .int c18]), (4, some [.int (0 : Int), .nil, .nil]), (5, some [.int g_1.n, .row 76 0 l22.length, .row 30 0 l16.length])]⟩ : PS)
   refine vSeq ?_
   refine vRegion ?_
   refine oVal tt rfl rfl rfl rfl rfl trivial ?_
   refine oStore tt rfl rfl rfl rfl rfl rfl rfl rfl rfl rfl rfl ⟨trivial, trivial, trivial, trivial⟩ ?_
   refine vNil ?_
   change VC _ _ _ _
   refine vRet ?_
   change ∃ _, _
   cases h
   exact ⟨[76, 30], rfl, ⟨rfl, rfl, trivial⟩, ⟨rfl, trivial⟩, rfl⟩
  ·intro k h
   refine vBlock ?_
   refine vNilB 5 1 76 111 (.pairs []) rfl rfl rfl rfl rfl ?_
   refine vLoopS (α := (List (Int × Int)) × Int) (fun | (l25, i26) => (⟨[(3, .ptr 3 0), (4, .ptr 4 0), (5, .ptr 5 0), (8, .int i26)], [(76, some (111, .pairs l25)), (30, some (71, .pairs l16))], [(1000000, some [.ro false (.bytes c_0.b), .int c17, .int c18]), (3, some [.int g_1.n, .ro false (.pairs g_1.bars)]), (4, some [.int (0 : Int), .nil, .nil]), (5, some [.int g_1.n, .row 76 0 l25.length, .row 30 0 l16.length])]⟩ : PS)) (S_l10Of_l1 N g_1 l16 k) h (En.of ⟨rfl, rfl, rfl, rfl, trivial⟩ ⟨rfl, rfl, trivial⟩ ⟨rfl, rfl, rfl, rfl, trivial⟩) (fun _ => rfl) ?_
   rintro n ⟨l25, i26⟩ h
   rw [S_l10Of_l1] at h
   show VC _ _ _ (⟨[(3, .ptr 3 0), (4, .ptr 4 0), (5, .ptr 5 0), (8, .int i26)], [(76, some (111, .pairs l25)), (30, some (71, .pairs l16))], [(1000000, some [.ro false (.bytes c_0.b), .int c17, .int c18]), (3, some [.int g_1.n, .ro false (.pairs g_1.bars)]), (4, some [.int (0 : Int), .nil, .nil]), (5, some [.int g_1.n, .row 76 0 l25.length, .row 30 0 l16.length])]⟩ : PS)
   iterate 2 refine vSeq ?_
   refine vRegion ?_
   iterate 5 refine oVal tt rfl rfl rfl rfl rfl trivial ?_
   refine vNil ?_
   change VC _ _ _ _
   refine vCond rfl (fun hb1 => ?_) (fun hb1 => ?_)
   ·replace h := cnd_t hb1 h
    refine vSkip ?_
    change VC _ _ _ _
    refine vSeq ?_
    refine vBlock ?_
    refine vSeq ?_
    refine vRegion ?_
    iterate 3 refine oVal tt rfl rfl rfl rfl rfl trivial ?_
    obtain ⟨hg2, h⟩ := grd_inv h
    refine oVal tt rfl rfl rfl rfl rfl hg2 ?_
    refine oVal tt rfl rfl rfl rfl rfl trivial ?_
    refine oAlloc tt rfl rfl rfl rfl rfl rfl rfl rfl rfl ?_
    refine oStore tt rfl rfl rfl rfl rfl rfl rfl rfl rfl rfl rfl ⟨trivial, trivial, trivial⟩ ?_
    refine vNil ?_
    change VC _ _ _ _
    refine vSeq ?_
    refine vRegionD (by kernel_rfl) (by kernel_rfl) ?_
    iterate 4 refine cVal tt rfl (wNone rfl) rfl rfl rfl trivial ?_
    obtain ⟨hg3, h⟩ := grd_inv h
    iterate 2 refine cVal tt rfl (wNone rfl) rfl rfl rfl hg3 ?_
    iterate 4 refine cVal tt rfl (wNone rfl) rfl rfl rfl trivial ?_
    obtain ⟨hg4, h⟩ := grd_inv h
    iterate 2 refine cVal tt rfl (wNone rfl) rfl rfl rfl hg4 ?_
    refine cPure (wNone rfl) (pNeP eqP_impl_Place rfl rfl rfl) rfl rfl ?_
    refine cVal tt rfl (wNone rfl) rfl rfl rfl trivial ?_
    refine cSplit rfl rfl rfl (fun hb5 => ?_) (fun hb5 => ?_)
    ·replace h := cnd_t hb5 h
     iterate 3 refine cVal tt rfl (wSome rfl rfl rfl rfl hb5) rfl rfl rfl trivial ?_
     refine cSplit rfl rfl rfl (fun hb6 => ?_) (fun hb6 => ?_)
     ·replace h := cnd_t hb6 h
      iterate 8 refine cNoF rfl rfl rfl rfl hb6 rfl rfl ?_
      refine cPickT rfl (wSome rfl rfl rfl rfl hb5) rfl rfl rfl hb6 rfl ?_
      refine cPickT rfl (wNone rfl) rfl rfl rfl hb5 rfl ?_
      refine cNil ?_
      change VC _ _ _ _
      refine vCondT rfl rfl ?_
      refine vRegion ?_
      iterate 4 refine oVal tt rfl rfl rfl rfl rfl trivial ?_
      refine oBuild tt rfl rfl rfl rfl rfl rfl rfl rfl rfl rfl rfl ?_
      obtain ⟨hg7, h⟩ := grd_inv h
      refine oAppend tt rfl rfl rfl rfl rfl rfl rfl rfl rfl rfl rfl rfl rfl rfl rfl rfl (Nat.le_of_eq (Nat.zero_add _)) hg7 ?_
      iterate 2 refine oVal tt rfl rfl rfl rfl rfl trivial ?_
      refine oStore tt rfl rfl rfl rfl rfl rfl rfl rfl rfl rfl rfl ⟨trivial, trivial⟩ ?_
      refine vNil ?_
      change VC _ _ _ _
      refine vRegion ?_
      refine oVal tt rfl rfl rfl rfl rfl trivial ?_
      obtain ⟨hg8, h⟩ := grd_inv h
      refine oVal tt rfl rfl rfl rfl rfl hg8 ?_
      refine oVal tt rfl rfl rfl rfl rfl trivial ?_
      refine vNil ?_
      change ∃ _, _
      exact ⟨((l25 ++ ([((g_1.bars.getD ((i26).toNat) (0, 0)).1, (g_1.bars.getD ((i26).toNat) (0, 0)).2)] : List (Int × Int))), (i26 + (1 : Int))), (En.of ⟨rfl, rfl, rfl, rfl, trivial⟩ ⟨rfl, rfl, trivial⟩ ⟨rfl, rfl, rfl, rfl, trivial⟩), h⟩
     ·replace h := cnd_f hb6 h
      iterate 3 refine cVal tt rfl (wSome rfl rfl rfl rfl hb6) rfl rfl rfl trivial ?_
      obtain ⟨hg9, h⟩ := grd_inv h
      refine cVal tt rfl (wSome rfl rfl rfl rfl hb6) rfl rfl rfl hg9 ?_
      obtain ⟨hg10, h⟩ := grd_inv h
      refine cVal tt rfl (wSome rfl rfl rfl rfl hb6) rfl rfl rfl hg10 ?_
      iterate 2 refine cVal tt rfl (wSome rfl rfl rfl rfl hb6) rfl rfl rfl trivial ?_
      refine cPure (wSome rfl rfl rfl rfl hb6) (pNeP eqP_impl_Bar rfl rfl rfl) rfl rfl ?_
      refine cPickF rfl (wSome rfl rfl rfl rfl hb5) rfl rfl rfl hb6 rfl ?_
      refine cPickT rfl (wNone rfl) rfl rfl rfl hb5 rfl ?_
      refine cNil ?_
      change VC _ _ _ _
      refine vCond rfl (fun hb11 => ?_) (fun hb11 => ?_)
      ·replace h := cnd_t hb11 h
       refine vRegion ?_
       iterate 4 refine oVal tt rfl rfl rfl rfl rfl trivial ?_
       refine oBuild tt rfl rfl rfl rfl rfl rfl rfl rfl rfl rfl rfl ?_
       obtain ⟨hg12, h⟩ := grd_inv h
       refine oAppend tt rfl rfl rfl rfl rfl rfl rfl rfl rfl rfl rfl rfl rfl rfl rfl rfl (Nat.le_of_eq (Nat.zero_add _)) hg12 ?_
       iterate 2 refine oVal tt rfl rfl rfl rfl rfl trivial ?_
       refine oStore tt rfl rfl rfl rfl rfl rfl rfl rfl rfl rfl rfl ⟨trivial, trivial⟩ ?_
       refine vNil ?_
       change VC _ _ _ _
       refine vRegion ?_
       refine oVal tt rfl rfl rfl rfl rfl trivial ?_
       obtain ⟨hg13, h⟩ := grd_inv h
       refine oVal tt rfl rfl rfl rfl rfl hg13 ?_
       refine oVal tt rfl rfl rfl rfl rfl trivial ?_
       refine vNil ?_
       change ∃ _, _
       exact ⟨((l25 ++ ([((g_1.bars.getD ((i26).toNat) (0, 0)).1, (g_1.bars.getD ((i26).toNat) (0, 0)).2)] : List (Int × Int))), (i26 + (1 : Int))), (En.of ⟨rfl, rfl, rfl, rfl, trivial⟩ ⟨rfl, rfl, trivial⟩ ⟨rfl, rfl, rfl, rfl, trivial⟩), h⟩
      ·replace h := cnd_f hb11 h
       refine vSkip ?_
       change VC _ _ _ _
       refine vRegion ?_
       refine oVal tt rfl rfl rfl rfl rfl trivial ?_
       obtain ⟨hg14, h⟩ := grd_inv h
       refine oVal tt rfl rfl rfl rfl rfl hg14 ?_
       refine oVal tt rfl rfl rfl rfl rfl trivial ?_
       refine vNil ?_
       change ∃ _, _
       exact ⟨(l25, (i26 + (1 : Int))), (En.of ⟨rfl, rfl, rfl, rfl, trivial⟩ ⟨rfl, rfl, trivial⟩ ⟨rfl, rfl, rfl, rfl, trivial⟩), h⟩
    ·replace h := cnd_f hb5 h
     iterate 3 refine cNoT rfl rfl rfl rfl hb5 rfl rfl ?_
     iterate 8 refine cNoU rfl rfl rfl rfl rfl ?_
     refine cNoT rfl rfl rfl rfl hb5 rfl rfl ?_
     refine cPickF rfl (wNone rfl) rfl rfl rfl hb5 rfl ?_
     refine cNil ?_
     change VC _ _ _ _
     refine vCondF rfl rfl ?_
     refine vSkip ?_
     change VC _ _ _ _
     refine vRegion ?_
     refine oVal tt rfl rfl rfl rfl rfl trivial ?_
     obtain ⟨hg15, h⟩ := grd_inv h
     refine oVal tt rfl rfl rfl rfl rfl hg15 ?_
     refine oVal tt rfl rfl rfl rfl rfl trivial ?_
     refine vNil ?_
     change ∃ _, _
     exact ⟨(l25, (i26 + (1 : Int))), (En.of ⟨rfl, rfl, rfl, rfl, trivial⟩ ⟨rfl, rfl, trivial⟩ ⟨rfl, rfl, rfl, rfl, trivial⟩), h⟩
   ·replace h := cnd_f hb1 h
    refine vExit ?_
    change ∃ _, _
    exact ⟨l25, (En.of ⟨rfl, rfl, trivial⟩ ⟨rfl, rfl, trivial⟩ ⟨rfl, rfl, rfl, trivial⟩), h⟩
 ·intro k h
  refine vBlock ?_
  refine vNilB 5 2 30 71 (.pairs []) rfl rfl rfl rfl rfl ?_
  refine vLoopS (α := (List (Int × Int)) × Int × Int × Int) (fun | (l35, i36, c37, c38) => (⟨[(0, .ptr 1000000 0), (3, .ptr 3 0), (4, .ptr 4 0), (5, .ptr 5 0), (6, .int i36)], [(30, some (71, .pairs l35))], [(1000000, some [.ro false (.bytes c_0.b), .int c37, .int c38]), (3, some [.int g_1.n, .ro false (.pairs g_1.bars)]), (4, some [.int (0 : Int), .nil, .nil]), (5, some [.int g_1.n, .nil, .row 30 0 l35.length])]⟩ : PS)) (S_l10Of_l2 N c_0 g_1 k) h (En.of ⟨rfl, rfl, rfl, rfl, rfl, trivial⟩ ⟨rfl, trivial⟩ ⟨rfl, rfl, rfl, rfl, trivial⟩) (fun _ => rfl) ?_
  rintro n ⟨l35, i36, c37, c38⟩ h
  rw [S_l10Of_l2] at h
  show VC _ _ _ (⟨[(0, .ptr 1000000 0), (3, .ptr 3 0), (4, .ptr 4 0), (5, .ptr 5 0), (6, .int i36)], [(30, some (71, .pairs l35))], [(1000000, some [.ro false (.bytes c_0.b), .int c37, .int c38]), (3, some [.int g_1.n, .ro false (.pairs g_1.bars)]), (4, some [.int (0 : Int), .nil, .nil]), (5, some [.int g_1.n, .nil, .row 30 0 l35.length])]⟩ : PS)
  iterate 2 refine vSeq ?_
  refine vRegion ?_
  iterate 4 refine oVal tt rfl rfl rfl rfl rfl trivial ?_
  refine vNil ?_
  change VC _ _ _ _
  refine vCond rfl (fun hb16 => ?_) (fun hb16 => ?_)
  ·replace h := cnd_t hb16 h
   refine vSkip ?_
   change VC _ _ _ _
   refine vSeq ?_
   refine vBlock ?_
   refine vSeq ?_
   refine vRegion ?_
   refine oVal tt rfl rfl rfl rfl rfl trivial ?_
   obtain ⟨v41, hc17, h⟩ := bind_inv h
   refine oMCall (S_l1Below_w N (⟨c_0.b, c37, c38⟩ : Cur) (5 : Int) v41 hc17) [] [1000000] [] rfl rfl rfl rfl rfl rfl trivial ⟨rfl, trivial⟩ ⟨⟨rfl, rfl⟩, ⟨rfl, rfl⟩, trivial⟩ ?_
   refine oVal tt rfl rfl rfl rfl rfl trivial ?_
   refine vNil ?_
   change VC _ _ _ _
   refine vRegionN 7 [4, 6, 1041000000] [0, 1, 0, 0, 8, 28, 60, 127, 255, 511] (by kernel_rfl) (by kernel_rfl) (by kernel_rfl) (by kernel_rfl) (by kernel_rfl) rfl (by rfl) ?_
   iterate 4 refine nVal tt rfl (wNone rfl) rfl rfl rfl rfl rfl trivial ?_
   obtain ⟨v42, hc18, h⟩ := bind_inv h
   refine nMCall (rids := []) (bids := []) (pids := []) (wNone rfl) (S_l1Below_w N (⟨c_0.b, v41.2.1, v41.2.2⟩ : Cur) (5 : Int) v42 hc18) [] [1000000] [] rfl rfl rfl rfl rfl (by first | rfl | kernel_rfl) rfl rfl rfl rfl rfl (by first | rfl | kernel_rfl)  trivial ⟨rfl, trivial⟩ ⟨⟨rfl, rfl⟩, ⟨rfl, rfl⟩, trivial⟩ ?_
   refine nPure (wNone rfl) (pBuild bld_impl_Place rfl rfl) rfl rfl rfl rfl ?_
   refine nBuild tt (wNone rfl) rfl rfl rfl rfl rfl rfl rfl rfl rfl rfl rfl rfl ?_
   refine nNil ?_
   change VO _ _ _ _ _
   obtain ⟨hg19, h⟩ := grd_inv h
   refine oAppend tt rfl rfl rfl rfl rfl rfl rfl rfl rfl rfl rfl rfl rfl rfl rfl rfl (Nat.le_of_eq (Nat.zero_add _)) hg19 ?_
   refine oVal tt rfl rfl rfl rfl rfl trivial ?_
   refine oStore tt rfl rfl rfl rfl rfl rfl rfl rfl rfl rfl rfl ⟨trivial, trivial⟩ ?_
   refine vNil ?_
   change VC _ _ _ _
   refine vRegion ?_
   refine oVal tt rfl rfl rfl rfl rfl trivial ?_
   obtain ⟨hg20, h⟩ := grd_inv h
   refine oVal tt rfl rfl rfl rfl rfl hg20 ?_
   refine oVal tt rfl rfl rfl rfl rfl trivial ?_
   refine vNil ?_
   change ∃ _, _
   exact ⟨((l35 ++ ([(v41.1, v42.1)] : List (Int × Int))), (i36 + (1 : Int)), v42.2.1, v42.2.2), (En.of ⟨rfl, rfl, rfl, rfl, rfl, trivial⟩ ⟨rfl, trivial⟩ ⟨rfl, rfl, rfl, rfl, trivial⟩), h⟩
  ·replace h := cnd_f hb16 h
   refine vExit ?_
   change ∃ _, _
   exact ⟨(l35, c37, c38), (En.of ⟨rfl, rfl, rfl, trivial⟩ ⟨rfl, trivial⟩ ⟨rfl, rfl, rfl, rfl, trivial⟩), h⟩
def S_l2Simple_l2 (N : Nat) (c_0 : Cur) (n_1 : Int) (odd_2 : Int) (a140 : Int) (k : ((List (Int × Int)) × Int × Int) → Option (Grf × Int × Int)) : Nat → ((List (Int × Int)) × Int × Int × Int) → Option (Grf × Int × Int)
 | 0, _ => none
 | n + 1, (l173, b174, c175, c176) =>
  cnd (decide (b174 < n_1)) (
   (S_l1Below N (⟨c_0.b, c175, c176⟩ : Cur) (10 : Int)).bind fun v178 =>
   cnd (decide (v178.1 < odd_2)) (
    cnd (decide ((l173.length : Int) < (24 : Int))) (
     grd (l173.length + 1 ≤ 4294967296) <|
     grd (Rg64 (b174 + (1 : Int))) <|
     S_l2Simple_l2 N c_0 n_1 odd_2 a140 k n ((l173 ++ ([(a140, b174)] : List (Int × Int))), (b174 + (1 : Int)), v178.2.1, v178.2.2)) (
     grd (Rg64 (b174 + (1 : Int))) <|
     S_l2Simple_l2 N c_0 n_1 odd_2 a140 k n (l173, (b174 + (1 : Int)), v178.2.1, v178.2.2))) (
    grd (Rg64 (b174 + (1 : Int))) <|
    S_l2Simple_l2 N c_0 n_1 odd_2 a140 k n (l173, (b174 + (1 : Int)), v178.2.1, v178.2.2))) (
   k (l173, c175, c176))
def S_l2Simple_l1 (N : Nat) (c_0 : Cur) (n_1 : Int) (odd_2 : Int) (k : ((List (Int × Int)) × Int × Int) → Option (Grf × Int × Int)) : Nat → ((List (Int × Int)) × Int × Int × Int) → Option (Grf × Int × Int)
 | 0, _ => none
 | n + 1, (l139, a140, c141, c142) =>
  cnd (decide (a140 < n_1)) (
   grd (Rg64 (a140 + (1 : Int))) <|
   S_l2Simple_l2 N c_0 n_1 odd_2 a140 (fun (x : (List (Int × Int)) × Int × Int) =>
     match x with
     | (l168, c169, c170) =>
      S_l2Simple_l1 N c_0 n_1 odd_2 k n (l168, (a140 + (1 : Int)), c169, c170)) N (l139, (a140 + (1 : Int)), c141, c142)) (
   k (l139, c141, c142))
def S_l2Simple (N : Nat) (c_0 : Cur) (n_1 : Int) (odd_2 : Int) : Option (Grf × Int × Int) :=
 S_l2Simple_l1 N c_0 n_1 odd_2 (fun (x : (List (Int × Int)) × Int × Int) =>
   match x with
   | (l88, c89, c90) =>
    some ((⟨n_1, l88⟩ : Grf), c89, c90)) N (([] : List (Int × Int)), (0 : Int), c_0.i, c_0.h)
set_option maxRecDepth 20000 in
set_option maxHeartbeats 1600000 in
theorem S_l2Simple_w (N : Nat) (c_0 : Cur) (n_1 : Int) (odd_2 : Int) (r : Grf × Int × Int) (h : S_l2Simple N c_0 n_1 odd_2 = some r) : MCall Try.prog 199 [.ptr 1000000 0, .int n_1, .int odd_2] [900101] [1000000] [(111, .pairs [])] [(111, .pairs r.1.bars)] [[.ro false (.bytes c_0.b), .int c_0.i, .int c_0.h]] [[.ro false (.bytes c_0.b), .int r.2.1, .int r.2.2]] (.agg [.int r.1.n, .row 900101 0 r.1.bars.length]) := by
 unfold S_l2Simple at h
 refine mcall_intro (TT := TT) tt Try.func199 rfl rfl Try.ntmps199 (congrArg Array.toList Try.results199) rfl rfl rfl rfl rfl fun w0 O0 => ?_
 refine vSeq ?_
 refine vRegion ?_
 refine oAlloc tt rfl rfl rfl rfl rfl rfl rfl rfl rfl ?_
 refine vNil ?_
 change VC _ _ _ _
 refine vSeq ?_
 refine vRegion ?_
 refine oVal tt rfl rfl rfl rfl rfl trivial ?_
 refine oEmpty tt (wNone rfl) rfl rfl rfl rfl ?_
 refine oPure (wNone rfl) (pBuild bld_impl_Graph rfl rfl) rfl rfl ?_
 refine oAlloc tt rfl rfl rfl rfl rfl rfl rfl rfl rfl ?_
 refine oStore tt rfl rfl rfl rfl rfl rfl rfl rfl rfl rfl rfl ⟨trivial, trivial, trivial⟩ ?_
 refine vNil ?_
 change VC _ _ _ _
 iterate 2 refine vSeq ?_
 refine vRegion ?_
 refine oVal tt rfl rfl rfl rfl rfl trivial ?_
 refine vNil ?_
 change VC _ _ _ _
 refine vJoin (F := fun k => S_l2Simple_l1 N c_0 n_1 odd_2 k) h (α := (List (Int × Int)) × Int × Int) (J := fun | (l88, c89, c90) => (⟨[(6, .ptr 6 0), (7, .ptr 7 0)], [(41, some (111, .pairs l88))], [(1000000, some [.ro false (.bytes c_0.b), .int c89, .int c90]), (6, some [.int (0 : Int), .nil]), (7, some [.int n_1, .row 41 0 l88.length])]⟩ : PS)) ?_ ?_
 ·rintro ⟨l88, c89, c90⟩ h
  show VC _ _ _ (⟨[(6, .ptr 6 0), (7, .ptr 7 0)], [(41, some (111, .pairs l88))], [(1000000, some [.ro false (.bytes c_0.b), .int c89, .int c90]), (6, some [.int (0 : Int), .nil]), (7, some [.int n_1, .row 41 0 l88.length])]⟩ : PS)
  refine vSeq ?_
  refine vRegion ?_
  refine oVal tt rfl rfl rfl rfl rfl trivial ?_
  refine oStore tt rfl rfl rfl rfl rfl rfl rfl rfl rfl rfl rfl ⟨trivial, trivial, trivial⟩ ?_
  refine vNil ?_
  change VC _ _ _ _
  refine vRet ?_
  change ∃ _, _
  cases h
  exact ⟨[41], rfl, ⟨rfl, trivial⟩, ⟨rfl, trivial⟩, rfl⟩
 ·intro k h
  refine vBlock ?_
  refine vNilB 7 1 41 111 (.pairs []) rfl rfl rfl rfl rfl ?_
  refine vLoopS (α := (List (Int × Int)) × Int × Int × Int) (fun | (l139, a140, c141, c142) => (⟨[(0, .ptr 1000000 0), (1, .int n_1), (2, .int odd_2), (6, .ptr 6 0), (7, .ptr 7 0), (8, .int a140)], [(41, some (111, .pairs l139))], [(1000000, some [.ro false (.bytes c_0.b), .int c141, .int c142]), (6, some [.int (0 : Int), .nil]), (7, some [.int n_1, .row 41 0 l139.length])]⟩ : PS)) (S_l2Simple_l1 N c_0 n_1 odd_2 k) h (En.of ⟨rfl, rfl, rfl, rfl, rfl, rfl, trivial⟩ ⟨rfl, trivial⟩ ⟨rfl, rfl, rfl, trivial⟩) (fun _ => rfl) ?_
  rintro n ⟨l139, a140, c141, c142⟩ h
  rw [S_l2Simple_l1] at h
  show VC _ _ _ (⟨[(0, .ptr 1000000 0), (1, .int n_1), (2, .int odd_2), (6, .ptr 6 0), (7, .ptr 7 0), (8, .int a140)], [(41, some (111, .pairs l139))], [(1000000, some [.ro false (.bytes c_0.b), .int c141, .int c142]), (6, some [.int (0 : Int), .nil]), (7, some [.int n_1, .row 41 0 l139.length])]⟩ : PS)
  iterate 2 refine vSeq ?_
  refine vRegion ?_
  iterate 3 refine oVal tt rfl rfl rfl rfl rfl trivial ?_
  refine vNil ?_
  change VC _ _ _ _
  refine vCond rfl (fun hb1 => ?_) (fun hb1 => ?_)
  ·replace h := cnd_t hb1 h
   refine vSkip ?_
   change VC _ _ _ _
   refine vSeq ?_
   refine vBlock ?_
   refine vSeq ?_
   refine vRegion ?_
   refine oVal tt rfl rfl rfl rfl rfl trivial ?_
   obtain ⟨hg2, h⟩ := grd_inv h
   refine oVal tt rfl rfl rfl rfl rfl hg2 ?_
   refine oVal tt rfl rfl rfl rfl rfl trivial ?_
   refine vNil ?_
   change VC _ _ _ _
   refine vJoin (F := fun k => S_l2Simple_l2 N c_0 n_1 odd_2 a140 k) h (α := (List (Int × Int)) × Int × Int) (J := fun | (l168, c169, c170) => (⟨[(0, .ptr 1000000 0), (1, .int n_1), (2, .int odd_2), (6, .ptr 6 0), (7, .ptr 7 0), (8, .int a140)], [(41, some (111, .pairs l168))], [(1000000, some [.ro false (.bytes c_0.b), .int c169, .int c170]), (6, some [.int (0 : Int), .nil]), (7, some [.int n_1, .row 41 0 l168.length])]⟩ : PS)) ?_ ?_
   ·rintro ⟨l168, c169, c170⟩ h
    show VC _ _ _ (⟨[(0, .ptr 1000000 0), (1, .int n_1), (2, .int odd_2), (6, .ptr 6 0), (7, .ptr 7 0), (8, .int a140)], [(41, some (111, .pairs l168))], [(1000000, some [.ro false (.bytes c_0.b), .int c169, .int c170]), (6, some [.int (0 : Int), .nil]), (7, some [.int n_1, .row 41 0 l168.length])]⟩ : PS)
    refine vRegion ?_
    refine oVal tt rfl rfl rfl rfl rfl trivial ?_
    refine oVal tt rfl rfl rfl rfl rfl hg2 ?_
    refine oVal tt rfl rfl rfl rfl rfl trivial ?_
    refine vNil ?_
    change ∃ _, _
    exact ⟨(l168, (a140 + (1 : Int)), c169, c170), (En.of ⟨rfl, rfl, rfl, rfl, rfl, rfl, trivial⟩ ⟨rfl, trivial⟩ ⟨rfl, rfl, rfl, trivial⟩), h⟩
   ·intro k h
    refine vBlock ?_
    refine vLoopS (α := (List (Int × Int)) × Int × Int × Int) (fun | (l173, b174, c175, c176) => (⟨[(0, .ptr 1000000 0), (1, .int n_1), (2, .int odd_2), (6, .ptr 6 0), (7, .ptr 7 0), (8, .int a140), (9, .int b174)], [(41, some (111, .pairs l173))], [(1000000, some [.ro false (.bytes c_0.b), .int c175, .int c176]), (6, some [.int (0 : Int), .nil]), (7, some [.int n_1, .row 41 0 l173.length])]⟩ : PS)) (S_l2Simple_l2 N c_0 n_1 odd_2 a140 k) h (En.of ⟨rfl, rfl, rfl, rfl, rfl, rfl, rfl, trivial⟩ ⟨rfl, trivial⟩ ⟨rfl, rfl, rfl, trivial⟩) (fun _ => rfl) ?_
    rintro n ⟨l173, b174, c175, c176⟩ h
    rw [S_l2Simple_l2] at h
    show VC _ _ _ (⟨[(0, .ptr 1000000 0), (1, .int n_1), (2, .int odd_2), (6, .ptr 6 0), (7, .ptr 7 0), (8, .int a140), (9, .int b174)], [(41, some (111, .pairs l173))], [(1000000, some [.ro false (.bytes c_0.b), .int c175, .int c176]), (6, some [.int (0 : Int), .nil]), (7, some [.int n_1, .row 41 0 l173.length])]⟩ : PS)
    iterate 2 refine vSeq ?_
    refine vRegion ?_
    iterate 3 refine oVal tt rfl rfl rfl rfl rfl trivial ?_
    refine vNil ?_
    change VC _ _ _ _
    refine vCond rfl (fun hb3 => ?_) (fun hb3 => ?_)
    ·replace h := cnd_t hb3 h
     refine vSkip ?_
     change VC _ _ _ _
     refine vSeq ?_
     refine vBlock ?_
     refine vSeq ?_
     refine vRegion ?_
     refine oVal tt rfl rfl rfl rfl rfl trivial ?_
     obtain ⟨v178, hc4, h⟩ := bind_inv h
     refine oMCall (S_l1Below_w N (⟨c_0.b, c175, c176⟩ : Cur) (10 : Int) v178 hc4) [] [1000000] [] rfl rfl rfl rfl rfl rfl trivial ⟨rfl, trivial⟩ ⟨⟨rfl, rfl⟩, ⟨rfl, rfl⟩, trivial⟩ ?_
     iterate 3 refine oVal tt rfl rfl rfl rfl rfl trivial ?_
     refine oSplit rfl rfl rfl (fun hb5 => ?_) (fun hb5 => ?_)
     ·replace h := cnd_t hb5 h
      iterate 4 refine oValG tt rfl rfl rfl rfl rfl hb5 rfl rfl rfl trivial ?_
      refine oPick rfl rfl rfl rfl rfl hb5 rfl ?_
      refine vNil ?_
      change VC _ _ _ _
      refine vCond rfl (fun hb6 => ?_) (fun hb6 => ?_)
      ·replace h := cnd_t hb6 h
       refine vRegion ?_
       iterate 4 refine oVal tt rfl rfl rfl rfl rfl trivial ?_
       refine oPure (wNone rfl) (pBuild bld_impl_Bar rfl rfl) rfl rfl ?_
       refine oBuild tt rfl rfl rfl rfl rfl rfl rfl rfl rfl rfl rfl ?_
       obtain ⟨hg7, h⟩ := grd_inv h
       refine oAppend tt rfl rfl rfl rfl rfl rfl rfl rfl rfl rfl rfl rfl rfl rfl rfl rfl (Nat.le_of_eq (Nat.zero_add _)) hg7 ?_
       refine oVal tt rfl rfl rfl rfl rfl trivial ?_
       refine oStore tt rfl rfl rfl rfl rfl rfl rfl rfl rfl rfl rfl ⟨trivial, trivial⟩ ?_
       refine vNil ?_
       change VC _ _ _ _
       refine vRegion ?_
       refine oVal tt rfl rfl rfl rfl rfl trivial ?_
       obtain ⟨hg8, h⟩ := grd_inv h
       refine oVal tt rfl rfl rfl rfl rfl hg8 ?_
       refine oVal tt rfl rfl rfl rfl rfl trivial ?_
       refine vNil ?_
       change ∃ _, _
       exact ⟨((l173 ++ ([(a140, b174)] : List (Int × Int))), (b174 + (1 : Int)), v178.2.1, v178.2.2), (En.of ⟨rfl, rfl, rfl, rfl, rfl, rfl, rfl, trivial⟩ ⟨rfl, trivial⟩ ⟨rfl, rfl, rfl, trivial⟩), h⟩
      ·replace h := cnd_f hb6 h
       refine vSkip ?_
       change VC _ _ _ _
       refine vRegion ?_
       refine oVal tt rfl rfl rfl rfl rfl trivial ?_
       obtain ⟨hg9, h⟩ := grd_inv h
       refine oVal tt rfl rfl rfl rfl rfl hg9 ?_
       refine oVal tt rfl rfl rfl rfl rfl trivial ?_
       refine vNil ?_
       change ∃ _, _
       exact ⟨(l173, (b174 + (1 : Int)), v178.2.1, v178.2.2), (En.of ⟨rfl, rfl, rfl, rfl, rfl, rfl, rfl, trivial⟩ ⟨rfl, trivial⟩ ⟨rfl, rfl, rfl, trivial⟩), h⟩
     ·replace h := cnd_f hb5 h
      iterate 4 refine oNoT rfl rfl rfl rfl hb5 rfl rfl ?_
      refine oPickF rfl rfl rfl rfl rfl hb5 rfl ?_
      refine vNil ?_
      change VC _ _ _ _
      refine vCondF rfl rfl ?_
      refine vSkip ?_
      change VC _ _ _ _
      refine vRegion ?_
      refine oVal tt rfl rfl rfl rfl rfl trivial ?_
      obtain ⟨hg10, h⟩ := grd_inv h
      refine oVal tt rfl rfl rfl rfl rfl hg10 ?_
      refine oVal tt rfl rfl rfl rfl rfl trivial ?_
      refine vNil ?_
      change ∃ _, _
      exact ⟨(l173, (b174 + (1 : Int)), v178.2.1, v178.2.2), (En.of ⟨rfl, rfl, rfl, rfl, rfl, rfl, rfl, trivial⟩ ⟨rfl, trivial⟩ ⟨rfl, rfl, rfl, trivial⟩), h⟩
    ·replace h := cnd_f hb3 h
     refine vExit ?_
     change ∃ _, _
     exact ⟨(l173, c175, c176), (En.of ⟨rfl, rfl, rfl, rfl, rfl, rfl, trivial⟩ ⟨rfl, trivial⟩ ⟨rfl, rfl, rfl, trivial⟩), h⟩
  ·replace h := cnd_f hb1 h
   refine vExit ?_
   change ∃ _, _
   exact ⟨(l139, c141, c142), (En.of ⟨rfl, rfl, trivial⟩ ⟨rfl, trivial⟩ ⟨rfl, rfl, rfl, trivial⟩), h⟩
end Go.Proofs.Ytcljhpldfanhkaa
