/- Texts that the proof needs, put together: G128 Va. -/
import Derived.Test.YtcljhpldfanhkaaBJd2
import Derived.Test.YtcljhpldfanhkaaBJd3
import Derived.Test.YtcljhpldfanhkaaBJd4
import Derived.Test.YtcljhpldfanhkaaBJd5
import Derived.Test.YtcljhpldfanhkaaBJd6
import Derived.Test.YtcljhpldfanhkaaBJd7
set_option linter.unusedVariables false
set_option linter.unusedSimpArgs false
namespace Go.Proofs.Ytcljhpldfanhkaa
open Go.RowKit Go.Deep
def L_FnLinkages_l1 (N : Nat) (v2 : Lnk) (v3 : (List (List (Int × Int))) × Bool) (v4 : (List (List (Int × Int))) × Bool) (k : Unit → Option (Bool)) : Nat → Int → Option (Bool)
 | 0, _ => none
 | n + 1, i38 =>
  cnd (decide (i38 < (v3.1.length : Int))) (
   grd (0 ≤ i38 ∧ i38 < (v3.1.length : Int)) <|
   grd (0 ≤ i38 ∧ i38 < (v4.1.length : Int)) <|
   (L_samePlaces N (v3.1.getD ((i38).toNat) []) (v4.1.getD ((i38).toNat) [])).bind fun v42 =>
   cnd (!v42) (
    some false) (
    (I_IsPose N v2 (v4.1.getD ((i38).toNat) [])).bind fun v43 =>
    cnd (!v43) (
     some false) (
     (I_IndexOfPose N v4.1 (v4.1.getD ((i38).toNat) [])).bind fun v44 =>
     cnd (v44 != i38) (
      some false) (
      grd (Rg64 (i38 + (1 : Int))) <|
      L_FnLinkages_l1 N v2 v3 v4 k n (i38 + (1 : Int)))))) (
   k ())
def L_FnLinkages (N : Nat) (code_0 : List Int) : Option (Bool) :=
 (L_big N code_0).bind fun v1 =>
 cnd v1 (
  some true) (
  (S_DrawPosesOf N code_0).bind fun v2 =>
  (I_PosesOf N v2).bind fun v3 =>
  (S_PosesOf N v2).bind fun v4 =>
  cnd (v3.2 != v4.2) (
   some false) (
   cnd ((v3.1.length : Int) != (v4.1.length : Int)) (
    some false) (
    (I_IsLinkage N v2).bind fun v5 =>
    cnd (v5 != v3.2) (
     some false) (
     (I_LinkageFreedom N v2).bind fun v6 =>
     (S_LinkageFreedom N v2).bind fun v7 =>
     cnd (v6 != v7) (
      some false) (
      (I_FreeJoints N v2).bind fun v8 =>
      (S_FreeJoints N v2).bind fun v9 =>
      (L_sameInts N v8 v9).bind fun v10 =>
      cnd (!v10) (
       some false) (
       L_FnLinkages_l1 N v2 v3 v4 (fun (_ : Unit) =>
          cnd v3.2 (
           (I_IndexOfPose N v4.1 v2.f.places).bind fun v21 =>
           cnd (decide (v21 < (0 : Int))) (
            some false) (
            (S_DrawIsPose N code_0).bind fun v22 =>
            (S_DrawIndexOfPose N code_0).bind fun v23 =>
            (I_IsPose N v22.1 v22.2).bind fun v24 =>
            (S_IsPose N v22.1 v22.2).bind fun v25 =>
            cnd (v24 == v25) (
             (I_IndexOfPose N v23.1 v23.2).bind fun v26 =>
             (S_IndexOfPose N v23.1 v23.2).bind fun v27 =>
             some (v26 == v27)) (
             some false))) (
           (S_DrawIsPose N code_0).bind fun v28 =>
           (S_DrawIndexOfPose N code_0).bind fun v29 =>
           (I_IsPose N v28.1 v28.2).bind fun v30 =>
           (S_IsPose N v28.1 v28.2).bind fun v31 =>
           cnd (v30 == v31) (
            (I_IndexOfPose N v29.1 v29.2).bind fun v32 =>
            (S_IndexOfPose N v29.1 v29.2).bind fun v33 =>
            some (v32 == v33)) (
            some false))) N (0 : Int)))))))
set_option maxRecDepth 20000 in
set_option maxHeartbeats 1600000 in
theorem L_FnLinkages_w (N : Nat) (code_0 : List Int) (r : Bool) (h : L_FnLinkages N code_0 = some r) : PCall Try.prog 7 [.ro false (.bytes code_0)] [] (.bool r) := by
 unfold L_FnLinkages at h
 refine pcall_intro (TT := TT) tt Try.func7 rfl rfl Try.ntmps7 (congrArg Array.toList Try.results7) rfl rfl fun w0 => ?_
 refine vSeq ?_
 refine vRegion ?_
 refine oVal tt rfl rfl rfl rfl rfl trivial ?_
 refine vNil ?_
 change VC _ _ _ _
 iterate 2 refine vSeq ?_
 refine vRegion ?_
 refine oVal tt rfl rfl rfl rfl rfl trivial ?_
 obtain ⟨v1, hc1, h⟩ := bind_inv h
 refine oCall (L_big_w N code_0 v1 hc1) rfl rfl rfl rfl rfl rfl rfl rfl ⟨rfl, trivial⟩ ?_
 refine vNil ?_
 change VC _ _ _ _
 refine vCond rfl (fun hb2 => ?_) (fun hb2 => ?_)
 ·replace h := cnd_t hb2 h
  refine vSeq ?_
  refine vRegion ?_
  refine oVal tt rfl rfl rfl rfl rfl trivial ?_
  refine vNil ?_
  change VC _ _ _ _
  refine vRet ?_
  change ∃ _, _
  cases h
  exact ⟨[], _, rfl, trivial, rfl, (.eq rfl), rfl⟩
 ·replace h := cnd_f hb2 h
  refine vSkip ?_
  change VC _ _ _ _
  refine vSeq ?_
  refine vRegion ?_
  refine oVal tt rfl rfl rfl rfl rfl trivial ?_
  obtain ⟨v2, hc3, h⟩ := bind_inv h
  refine oCall (S_DrawPosesOf_w N code_0 v2 hc3) rfl rfl rfl rfl rfl rfl rfl rfl ⟨rfl, trivial⟩ ?_
  refine oAlloc tt rfl rfl rfl rfl rfl rfl rfl rfl rfl ?_
  refine oStore tt rfl rfl rfl rfl rfl rfl rfl rfl rfl rfl rfl ⟨trivial, trivial, trivial, trivial, trivial⟩ ?_
  refine vNil ?_
  change VC _ _ _ _
  refine vSeq ?_
  refine vRegion ?_
  refine oVal tt rfl rfl rfl rfl rfl trivial ?_
  obtain ⟨v3, hc4, h⟩ := bind_inv h
  refine oCallD 10 (I_PosesOf_w N v2 v3 hc4) rfl rfl rfl rfl rfl rfl rfl rfl rfl rfl rfl (fun _ h => by cases h) ⟨⟨rfl, (.inl ⟨rfl, rfl⟩), (.inl ⟨rfl, rfl⟩), (.inl ⟨rfl, rfl⟩), trivial⟩, trivial⟩ ?_
  iterate 5 refine oVal tt rfl rfl rfl rfl rfl trivial ?_
  refine vNil ?_
  change VC _ _ _ _
  refine vSeq ?_
  refine vRegion ?_
  refine oVal tt rfl rfl rfl rfl rfl trivial ?_
  obtain ⟨v4, hc5, h⟩ := bind_inv h
  refine oCall (S_PosesOf_w N v2 v4 hc5) rfl rfl rfl rfl rfl rfl rfl rfl ⟨⟨rfl, (.inl ⟨rfl, rfl⟩), (.inl ⟨rfl, rfl⟩), (.inl ⟨rfl, rfl⟩), trivial⟩, trivial⟩ ?_
  iterate 5 refine oVal tt rfl rfl rfl rfl rfl trivial ?_
  refine vNil ?_
  change VC _ _ _ _
  iterate 2 refine vSeq ?_
  refine vRegionN 27 [25] [0, 0, 3, 7, 15, 31, 15, 79, 255, 511, 1023, 2047, 4095, 2047, 16383, 32767, 65535, 131071, 262143, 131071, 1048575, 2097151, 4194303, 8388607, 16777215, 33554431, 16777215, 134217727, 268435455, 536870911, 1073741823] (by kernel_rfl) (by kernel_rfl) (by kernel_rfl) (by kernel_rfl) (by kernel_rfl) rfl (by rfl) ?_
  iterate 2 refine nVal tt rfl (wNone rfl) rfl rfl rfl rfl rfl trivial ?_
  refine nPure (wNone rfl) (pNeB Try.underlying4 rfl rfl rfl) rfl rfl rfl rfl ?_
  refine nVal tt rfl (wNone rfl) rfl rfl rfl rfl rfl trivial ?_
  refine nSplit rfl rfl rfl (fun hb6 => ?_) (fun hb6 => ?_)
  ·replace h := cnd_t hb6 h
   iterate 5 refine nNoF rfl rfl rfl rfl hb6 rfl rfl ?_
   refine nPickT rfl (wNone rfl) rfl rfl rfl hb6 rfl rfl ?_
   refine nVal tt rfl (wNone rfl) rfl rfl rfl rfl rfl trivial ?_
   iterate 4 refine nNoF rfl rfl rfl rfl rfl rfl rfl ?_
   refine nPickT rfl (wNone rfl) rfl rfl rfl rfl rfl rfl ?_
   refine nVal tt rfl (wNone rfl) rfl rfl rfl rfl rfl trivial ?_
   iterate 5 refine nNoF rfl rfl rfl rfl rfl rfl rfl ?_
   refine nPickT rfl (wNone rfl) rfl rfl rfl rfl rfl rfl ?_
   refine nVal tt rfl (wNone rfl) rfl rfl rfl rfl rfl trivial ?_
   iterate 3 refine nNoF rfl rfl rfl rfl rfl rfl rfl ?_
   refine nNil ?_
   change VO _ _ _ _ _
   iterate 3 refine oNoF rfl rfl rfl rfl rfl rfl rfl ?_
   refine oPick rfl rfl rfl rfl rfl rfl rfl ?_
   refine vNil ?_
   change VC _ _ _ _
   refine vCondT rfl rfl ?_
   refine vSeq ?_
   refine vRegion ?_
   refine oVal tt rfl rfl rfl rfl rfl trivial ?_
   refine vNil ?_
   change VC _ _ _ _
   refine vRet ?_
   change ∃ _, _
   cases h
   exact ⟨[], _, rfl, trivial, rfl, (.eq rfl), rfl⟩
  ·replace h := cnd_f hb6 h
   iterate 5 refine nVal tt rfl (wSome rfl rfl rfl rfl hb6) rfl rfl rfl rfl rfl trivial ?_
   refine nPickF rfl (wNone rfl) rfl rfl rfl hb6 rfl rfl ?_
   refine nVal tt rfl (wNone rfl) rfl rfl rfl rfl rfl trivial ?_
   refine nSplit rfl rfl rfl (fun hb7 => ?_) (fun hb7 => ?_)
   ·replace h := cnd_t hb7 h
    iterate 4 refine nNoF rfl rfl rfl rfl hb7 rfl rfl ?_
    refine nPickT rfl (wNone rfl) rfl rfl rfl hb7 rfl rfl ?_
    refine nVal tt rfl (wNone rfl) rfl rfl rfl rfl rfl trivial ?_
    iterate 5 refine nNoF rfl rfl rfl rfl rfl rfl rfl ?_
    refine nPickT rfl (wNone rfl) rfl rfl rfl rfl rfl rfl ?_
    refine nVal tt rfl (wNone rfl) rfl rfl rfl rfl rfl trivial ?_
    iterate 3 refine nNoF rfl rfl rfl rfl rfl rfl rfl ?_
    refine nNil ?_
    change VO _ _ _ _ _
    iterate 3 refine oNoF rfl rfl rfl rfl rfl rfl rfl ?_
    refine oPick rfl rfl rfl rfl rfl rfl rfl ?_
    refine vNil ?_
    change VC _ _ _ _
    refine vCondT rfl rfl ?_
    refine vSeq ?_
    refine vRegion ?_
    refine oVal tt rfl rfl rfl rfl rfl trivial ?_
    refine vNil ?_
    change VC _ _ _ _
    refine vRet ?_
    change ∃ _, _
    cases h
    exact ⟨[], _, rfl, trivial, rfl, (.eq rfl), rfl⟩
   ·replace h := cnd_f hb7 h
    refine nVal tt rfl (wSome rfl rfl rfl rfl hb7) rfl rfl rfl rfl rfl trivial ?_
    obtain ⟨v5, hc8, h⟩ := bind_inv h
    refine nCall (I_IsLinkage_w N v2 v5 hc8) rfl (wSome rfl rfl rfl rfl hb7) rfl rfl rfl rfl rfl rfl rfl rfl ⟨⟨rfl, (.inl ⟨rfl, rfl⟩), (.inl ⟨rfl, rfl⟩), (.inl ⟨rfl, rfl⟩), trivial⟩, trivial⟩ ?_
    refine nVal tt rfl (wSome rfl rfl rfl rfl hb7) rfl rfl rfl rfl rfl trivial ?_
    refine nPure (wSome rfl rfl rfl rfl hb7) (pNeB Try.underlying4 rfl rfl rfl) rfl rfl rfl rfl ?_
    refine nPickF rfl (wNone rfl) rfl rfl rfl hb7 rfl rfl ?_
    refine nVal tt rfl (wNone rfl) rfl rfl rfl rfl rfl trivial ?_
    refine nSplit rfl rfl rfl (fun hb9 => ?_) (fun hb9 => ?_)
    ·replace h := cnd_t hb9 h
     iterate 5 refine nNoF rfl rfl rfl rfl hb9 rfl rfl ?_
     refine nPickT rfl (wNone rfl) rfl rfl rfl hb9 rfl rfl ?_
     refine nVal tt rfl (wNone rfl) rfl rfl rfl rfl rfl trivial ?_
     iterate 3 refine nNoF rfl rfl rfl rfl rfl rfl rfl ?_
     refine nNil ?_
     change VO _ _ _ _ _
     iterate 3 refine oNoF rfl rfl rfl rfl rfl rfl rfl ?_
     refine oPick rfl rfl rfl rfl rfl rfl rfl ?_
     refine vNil ?_
     change VC _ _ _ _
     refine vCondT rfl rfl ?_
     refine vSeq ?_
     refine vRegion ?_
     refine oVal tt rfl rfl rfl rfl rfl trivial ?_
     refine vNil ?_
     change VC _ _ _ _
     refine vRet ?_
     change ∃ _, _
     cases h
     exact ⟨[], _, rfl, trivial, rfl, (.eq rfl), rfl⟩
    ·replace h := cnd_f hb9 h
     refine nVal tt rfl (wSome rfl rfl rfl rfl hb9) rfl rfl rfl rfl rfl trivial ?_
     obtain ⟨v6, hc10, h⟩ := bind_inv h
     refine nCall (I_LinkageFreedom_w N v2 v6 hc10) rfl (wSome rfl rfl rfl rfl hb9) rfl rfl rfl rfl rfl rfl rfl rfl ⟨⟨rfl, (.inl ⟨rfl, rfl⟩), (.inl ⟨rfl, rfl⟩), (.inl ⟨rfl, rfl⟩), trivial⟩, trivial⟩ ?_
     refine nVal tt rfl (wSome rfl rfl rfl rfl hb9) rfl rfl rfl rfl rfl trivial ?_
     obtain ⟨v7, hc11, h⟩ := bind_inv h
     refine nCall (S_LinkageFreedom_w N v2 v7 hc11) rfl (wSome rfl rfl rfl rfl hb9) rfl rfl rfl rfl rfl rfl rfl rfl ⟨⟨rfl, (.inl ⟨rfl, rfl⟩), (.inl ⟨rfl, rfl⟩), (.inl ⟨rfl, rfl⟩), trivial⟩, trivial⟩ ?_
     refine nVal tt rfl (wSome rfl rfl rfl rfl hb9) rfl rfl rfl rfl rfl trivial ?_
     refine nPickF rfl (wNone rfl) rfl rfl rfl hb9 rfl rfl ?_
     refine nVal tt rfl (wNone rfl) rfl rfl rfl rfl rfl trivial ?_
     refine nSplit rfl rfl rfl (fun hb12 => ?_) (fun hb12 => ?_)
     ·replace h := cnd_t hb12 h
      iterate 3 refine nNoF rfl rfl rfl rfl hb12 rfl rfl ?_
      refine nNil ?_
      change VO _ _ _ _ _
      iterate 3 refine oNoF rfl rfl rfl rfl hb12 rfl rfl ?_
      refine oPick rfl rfl rfl rfl rfl hb12 rfl ?_
      refine vNil ?_
      change VC _ _ _ _
      refine vCondT rfl rfl ?_
      refine vSeq ?_
      refine vRegion ?_
      refine oVal tt rfl rfl rfl rfl rfl trivial ?_
      refine vNil ?_
      change VC _ _ _ _
      refine vRet ?_
      change ∃ _, _
      cases h
      exact ⟨[], _, rfl, trivial, rfl, (.eq rfl), rfl⟩
     ·replace h := cnd_f hb12 h
      refine nVal tt rfl (wSome rfl rfl rfl rfl hb12) rfl rfl rfl rfl rfl trivial ?_
      obtain ⟨v8, hc13, h⟩ := bind_inv h
      refine nCallR (I_FreeJoints_w N v2 v8 hc13) rfl (wSome rfl rfl rfl rfl hb12) rfl rfl rfl rfl rfl rfl (by first | rfl | kernel_rfl | (simp [nrL, nm, gdst, nmT, rowB]; done)) rfl (by first | rfl | kernel_rfl | (simp [chkE, nrL, nm, gdst, nmT, rowB, hid, ment, mentA, mentS]; done) | (simp [chkE, nrL, nm, gdst, nmT, rowB, hid, ment, mentA, mentS]; decide)) ⟨⟨rfl, (.inl ⟨rfl, rfl⟩), (.inl ⟨rfl, rfl⟩), (.inl ⟨rfl, rfl⟩), trivial⟩, trivial⟩ ?_
      refine nVal tt rfl (wSome rfl rfl rfl rfl hb12) rfl rfl rfl rfl rfl trivial ?_
      refine nNil ?_
      change VO _ _ _ _ _
      obtain ⟨v9, hc14, h⟩ := bind_inv h
      refine oCallG (S_FreeJoints_w N v2 v9 hc14) rfl rfl rfl rfl hb12 rfl rfl rfl rfl rfl rfl rfl ⟨⟨rfl, (.inl ⟨rfl, rfl⟩), (.inl ⟨rfl, rfl⟩), (.inl ⟨rfl, rfl⟩), trivial⟩, trivial⟩ ?_
      obtain ⟨v10, hc15, h⟩ := bind_inv h
      refine oCallG (L_sameInts_w N v8 v9 v10 hc15) rfl rfl rfl rfl hb12 rfl rfl rfl rfl rfl rfl rfl ⟨(.inl ⟨rfl, rfl⟩), (.inl ⟨rfl, rfl⟩), trivial⟩ ?_
      refine oValG tt rfl rfl rfl rfl rfl hb12 rfl rfl rfl trivial ?_
      refine oPickF rfl rfl rfl rfl rfl hb12 rfl ?_
      refine vNil ?_
      change VC _ _ _ _
      refine vCond rfl (fun hb16 => ?_) (fun hb16 => ?_)
      ·replace h := cnd_t hb16 h
       refine vSeq ?_
       refine vRegion ?_
       refine oVal tt rfl rfl rfl rfl rfl trivial ?_
       refine vNil ?_
       change VC _ _ _ _
       refine vRet ?_
       change ∃ _, _
       cases h
       exact ⟨[], _, rfl, trivial, rfl, (.eq rfl), rfl⟩
      ·replace h := cnd_f hb16 h
       refine vSkip ?_
       change VC _ _ _ _
       iterate 2 refine vSeq ?_
       refine vRegion ?_
       refine oVal tt rfl rfl rfl rfl rfl trivial ?_
       refine vNil ?_
       change VC _ _ _ _
       refine vJoin (F := fun k => L_FnLinkages_l1 N v2 v3 v4 k) h (α := Unit) (J := fun (_ : Unit) => (⟨[(0, .ro false (.bytes code_0)), (3, .ptr 3 0), (5, .bool v3.2), (6, .row 1240 0 v4.1.length)], [(1240, some (61, .pairss v4.1)), (1160, some (111, .pairs v2.f.g.bars)), (1161, some (71, .pairs v2.f.places)), (1162, some (3, .ints v2.ground))], [(3, some [.int v2.f.g.n, .row 1160 0 v2.f.g.bars.length, .row 1161 0 v2.f.places.length, .row 1162 0 v2.ground.length])]⟩ : PS)) ?_ ?_
       ·rintro ⟨⟩ h
        show VC _ _ _ (⟨[(0, .ro false (.bytes code_0)), (3, .ptr 3 0), (5, .bool v3.2), (6, .row 1240 0 v4.1.length)], [(1240, some (61, .pairss v4.1)), (1160, some (111, .pairs v2.f.g.bars)), (1161, some (71, .pairs v2.f.places)), (1162, some (3, .ints v2.ground))], [(3, some [.int v2.f.g.n, .row 1160 0 v2.f.g.bars.length, .row 1161 0 v2.f.places.length, .row 1162 0 v2.ground.length])]⟩ : PS)
        iterate 2 refine vSeq ?_
        refine vRegion ?_
        iterate 2 refine oVal tt rfl rfl rfl rfl rfl trivial ?_
        refine oSplit rfl rfl rfl (fun hb17 => ?_) (fun hb17 => ?_)
        ·replace h := cnd_t hb17 h
         iterate 4 refine oValG tt rfl rfl rfl rfl rfl hb17 rfl rfl rfl trivial ?_
         obtain ⟨v21, hc18, h⟩ := bind_inv h
         refine oCallG (I_IndexOfPose_w N v4.1 v2.f.places v21 hc18) rfl rfl rfl rfl hb17 rfl rfl rfl rfl rfl rfl rfl ⟨(.inl ⟨rfl, rfl⟩), (.inl ⟨rfl, rfl⟩), trivial⟩ ?_
         refine oValG tt rfl rfl rfl rfl rfl hb17 rfl rfl rfl trivial ?_
         refine oPick rfl rfl rfl rfl rfl hb17 rfl ?_
         refine vNil ?_
         change VC _ _ _ _
         refine vCond rfl (fun hb19 => ?_) (fun hb19 => ?_)
         ·replace h := cnd_t hb19 h
          refine vSeq ?_
          refine vRegion ?_
          refine oVal tt rfl rfl rfl rfl rfl trivial ?_
          refine vNil ?_
          change VC _ _ _ _
          refine vRet ?_
          change ∃ _, _
          cases h
          exact ⟨[], _, rfl, trivial, rfl, (.eq rfl), rfl⟩
         ·replace h := cnd_f hb19 h
          refine vSkip ?_
          change VC _ _ _ _
          refine vSeq ?_
          refine vRegion ?_
          refine oVal tt rfl rfl rfl rfl rfl trivial ?_
          obtain ⟨v22, hc20, h⟩ := bind_inv h
          refine oCall (S_DrawIsPose_w N code_0 v22 hc20) rfl rfl rfl rfl rfl rfl rfl rfl ⟨rfl, trivial⟩ ?_
          iterate 3 refine oVal tt rfl rfl rfl rfl rfl trivial ?_
          refine oAlloc tt rfl rfl rfl rfl rfl rfl rfl rfl rfl ?_
          refine oStore tt rfl rfl rfl rfl rfl rfl rfl rfl rfl rfl rfl ⟨trivial, trivial, trivial, trivial, trivial⟩ ?_
          refine oVal tt rfl rfl rfl rfl rfl trivial ?_
          refine vNil ?_
          change VC _ _ _ _
          refine vSeq ?_
          refine vRegion ?_
          refine oVal tt rfl rfl rfl rfl rfl trivial ?_
          obtain ⟨v23, hc21, h⟩ := bind_inv h
          refine oCall (S_DrawIndexOfPose_w N code_0 v23 hc21) rfl rfl rfl rfl rfl rfl rfl rfl ⟨rfl, trivial⟩ ?_
          iterate 5 refine oVal tt rfl rfl rfl rfl rfl trivial ?_
          refine vNil ?_
          change VC _ _ _ _
          refine vSeq ?_
          refine vRegionD (by kernel_rfl) (by kernel_rfl) ?_
          iterate 2 refine cVal tt rfl (wNone rfl) rfl rfl rfl trivial ?_
          obtain ⟨v24, hc22, h⟩ := bind_inv h
          refine cCall (I_IsPose_w N v22.1 v22.2 v24 hc22) rfl (wNone rfl) rfl rfl rfl rfl rfl rfl ⟨⟨rfl, (.inl ⟨rfl, rfl⟩), (.inl ⟨rfl, rfl⟩), (.inl ⟨rfl, rfl⟩), trivial⟩, rfl, trivial⟩ ?_
          iterate 2 refine cVal tt rfl (wNone rfl) rfl rfl rfl trivial ?_
          obtain ⟨v25, hc23, h⟩ := bind_inv h
          refine cCall (S_IsPose_w N v22.1 v22.2 v25 hc23) rfl (wNone rfl) rfl rfl rfl rfl rfl rfl ⟨⟨rfl, (.inl ⟨rfl, rfl⟩), (.inl ⟨rfl, rfl⟩), (.inl ⟨rfl, rfl⟩), trivial⟩, rfl, trivial⟩ ?_
          refine cPure (wNone rfl) (pEqB Try.underlying4 rfl rfl rfl) rfl rfl ?_
          refine cVal tt rfl (wNone rfl) rfl rfl rfl trivial ?_
          refine cSplit rfl rfl rfl (fun hb24 => ?_) (fun hb24 => ?_)
          ·replace h := cnd_t hb24 h
           iterate 2 refine cVal tt rfl (wSome rfl rfl rfl rfl hb24) rfl rfl rfl trivial ?_
           obtain ⟨v26, hc25, h⟩ := bind_inv h
           refine cCall (I_IndexOfPose_w N v23.1 v23.2 v26 hc25) rfl (wSome rfl rfl rfl rfl hb24) rfl rfl rfl rfl rfl rfl ⟨(.inl ⟨rfl, rfl⟩), rfl, trivial⟩ ?_
           iterate 2 refine cVal tt rfl (wSome rfl rfl rfl rfl hb24) rfl rfl rfl trivial ?_
           obtain ⟨v27, hc26, h⟩ := bind_inv h
           refine cCall (S_IndexOfPose_w N v23.1 v23.2 v27 hc26) rfl (wSome rfl rfl rfl rfl hb24) rfl rfl rfl rfl rfl rfl ⟨(.inl ⟨rfl, rfl⟩), rfl, trivial⟩ ?_
           refine cVal tt rfl (wSome rfl rfl rfl rfl hb24) rfl rfl rfl trivial ?_
           refine cPickT rfl (wNone rfl) rfl rfl rfl hb24 rfl ?_
           refine cVal tt rfl (wNone rfl) rfl rfl rfl trivial ?_
           refine cNil ?_
           change VC _ _ _ _
           refine vRet ?_
           change ∃ _, _
           cases h
           exact ⟨[], _, rfl, trivial, rfl, (.eq rfl), rfl⟩
          ·replace h := cnd_f hb24 h
           iterate 7 refine cNoT rfl rfl rfl rfl hb24 rfl rfl ?_
           refine cPickF rfl (wNone rfl) rfl rfl rfl hb24 rfl ?_
           refine cVal tt rfl (wNone rfl) rfl rfl rfl trivial ?_
           refine cNil ?_
           change VC _ _ _ _
           refine vRet ?_
           change ∃ _, _
           cases h
           exact ⟨[], _, rfl, trivial, rfl, (.eq rfl), rfl⟩
        ·replace h := cnd_f hb17 h
         iterate 6 refine oNoT rfl rfl rfl rfl hb17 rfl rfl ?_
         refine oPickF rfl rfl rfl rfl rfl hb17 rfl ?_
         refine vNil ?_
         change VC _ _ _ _
         refine vCondF rfl rfl ?_
         refine vSkip ?_
         change VC _ _ _ _
         refine vSeq ?_
         refine vRegion ?_
         refine oVal tt rfl rfl rfl rfl rfl trivial ?_
         obtain ⟨v28, hc27, h⟩ := bind_inv h
         refine oCall (S_DrawIsPose_w N code_0 v28 hc27) rfl rfl rfl rfl rfl rfl rfl rfl ⟨rfl, trivial⟩ ?_
         iterate 3 refine oVal tt rfl rfl rfl rfl rfl trivial ?_
         refine oAlloc tt rfl rfl rfl rfl rfl rfl rfl rfl rfl ?_
         refine oStore tt rfl rfl rfl rfl rfl rfl rfl rfl rfl rfl rfl ⟨trivial, trivial, trivial, trivial, trivial⟩ ?_
         refine oVal tt rfl rfl rfl rfl rfl trivial ?_
         refine vNil ?_
         change VC _ _ _ _
         refine vSeq ?_
         refine vRegion ?_
         refine oVal tt rfl rfl rfl rfl rfl trivial ?_
         obtain ⟨v29, hc28, h⟩ := bind_inv h
         refine oCall (S_DrawIndexOfPose_w N code_0 v29 hc28) rfl rfl rfl rfl rfl rfl rfl rfl ⟨rfl, trivial⟩ ?_
         iterate 5 refine oVal tt rfl rfl rfl rfl rfl trivial ?_
         refine vNil ?_
         change VC _ _ _ _
         refine vSeq ?_
         refine vRegionD (by kernel_rfl) (by kernel_rfl) ?_
         iterate 2 refine cVal tt rfl (wNone rfl) rfl rfl rfl trivial ?_
         obtain ⟨v30, hc29, h⟩ := bind_inv h
         refine cCall (I_IsPose_w N v28.1 v28.2 v30 hc29) rfl (wNone rfl) rfl rfl rfl rfl rfl rfl ⟨⟨rfl, (.inl ⟨rfl, rfl⟩), (.inl ⟨rfl, rfl⟩), (.inl ⟨rfl, rfl⟩), trivial⟩, rfl, trivial⟩ ?_
         iterate 2 refine cVal tt rfl (wNone rfl) rfl rfl rfl trivial ?_
         obtain ⟨v31, hc30, h⟩ := bind_inv h
         refine cCall (S_IsPose_w N v28.1 v28.2 v31 hc30) rfl (wNone rfl) rfl rfl rfl rfl rfl rfl ⟨⟨rfl, (.inl ⟨rfl, rfl⟩), (.inl ⟨rfl, rfl⟩), (.inl ⟨rfl, rfl⟩), trivial⟩, rfl, trivial⟩ ?_
         refine cPure (wNone rfl) (pEqB Try.underlying4 rfl rfl rfl) rfl rfl ?_
         refine cVal tt rfl (wNone rfl) rfl rfl rfl trivial ?_
         refine cSplit rfl rfl rfl (fun hb31 => ?_) (fun hb31 => ?_)
         ·replace h := cnd_t hb31 h
          iterate 2 refine cVal tt rfl (wSome rfl rfl rfl rfl hb31) rfl rfl rfl trivial ?_
          obtain ⟨v32, hc32, h⟩ := bind_inv h
          refine cCall (I_IndexOfPose_w N v29.1 v29.2 v32 hc32) rfl (wSome rfl rfl rfl rfl hb31) rfl rfl rfl rfl rfl rfl ⟨(.inl ⟨rfl, rfl⟩), rfl, trivial⟩ ?_
          iterate 2 refine cVal tt rfl (wSome rfl rfl rfl rfl hb31) rfl rfl rfl trivial ?_
          obtain ⟨v33, hc33, h⟩ := bind_inv h
          refine cCall (S_IndexOfPose_w N v29.1 v29.2 v33 hc33) rfl (wSome rfl rfl rfl rfl hb31) rfl rfl rfl rfl rfl rfl ⟨(.inl ⟨rfl, rfl⟩), rfl, trivial⟩ ?_
          refine cVal tt rfl (wSome rfl rfl rfl rfl hb31) rfl rfl rfl trivial ?_
          refine cPickT rfl (wNone rfl) rfl rfl rfl hb31 rfl ?_
          refine cVal tt rfl (wNone rfl) rfl rfl rfl trivial ?_
          refine cNil ?_
          change VC _ _ _ _
          refine vRet ?_
          change ∃ _, _
          cases h
          exact ⟨[], _, rfl, trivial, rfl, (.eq rfl), rfl⟩
         ·replace h := cnd_f hb31 h
          iterate 7 refine cNoT rfl rfl rfl rfl hb31 rfl rfl ?_
          refine cPickF rfl (wNone rfl) rfl rfl rfl hb31 rfl ?_
          refine cVal tt rfl (wNone rfl) rfl rfl rfl trivial ?_
          refine cNil ?_
          change VC _ _ _ _
          refine vRet ?_
          change ∃ _, _
          cases h
          exact ⟨[], _, rfl, trivial, rfl, (.eq rfl), rfl⟩
       ·intro k h
        refine vBlock ?_
        refine vLoopS (α := Int) (fun (i38 : Int) => (⟨[(0, .ro false (.bytes code_0)), (3, .ptr 3 0), (4, .row 1190 0 v3.1.length), (5, .bool v3.2), (6, .row 1240 0 v4.1.length), (8, .int i38)], [(1190, some (61, dR 10 (.pairss v3.1))), (8589934602, some (71, dF (.pairss v3.1))), (1240, some (61, .pairss v4.1)), (1160, some (111, .pairs v2.f.g.bars)), (1161, some (71, .pairs v2.f.places)), (1162, some (3, .ints v2.ground))], [(3, some [.int v2.f.g.n, .row 1160 0 v2.f.g.bars.length, .row 1161 0 v2.f.places.length, .row 1162 0 v2.ground.length])]⟩ : PS)) (L_FnLinkages_l1 N v2 v3 v4 k) h (En.of ⟨rfl, rfl, rfl, rfl, rfl, rfl, trivial⟩ ⟨rfl, rfl, rfl, rfl, rfl, rfl, trivial⟩ ⟨rfl, trivial⟩) (fun _ => rfl) ?_
        rintro n i38 h
        rw [L_FnLinkages_l1] at h
        show VC _ _ _ (⟨[(0, .ro false (.bytes code_0)), (3, .ptr 3 0), (4, .row 1190 0 v3.1.length), (5, .bool v3.2), (6, .row 1240 0 v4.1.length), (8, .int i38)], [(1190, some (61, dR 10 (.pairss v3.1))), (8589934602, some (71, dF (.pairss v3.1))), (1240, some (61, .pairss v4.1)), (1160, some (111, .pairs v2.f.g.bars)), (1161, some (71, .pairs v2.f.places)), (1162, some (3, .ints v2.ground))], [(3, some [.int v2.f.g.n, .row 1160 0 v2.f.g.bars.length, .row 1161 0 v2.f.places.length, .row 1162 0 v2.ground.length])]⟩ : PS)
        iterate 2 refine vSeq ?_
        refine vRegion ?_
        iterate 4 refine oVal tt rfl rfl rfl rfl rfl trivial ?_
        refine vNil ?_
        change VC _ _ _ _
        refine vCond rfl (fun hb34 => ?_) (fun hb34 => ?_)
        ·replace h := cnd_t hb34 h
         refine vSkip ?_
         change VC _ _ _ _
         refine vSeq ?_
         refine vBlock ?_
         refine vSeq ?_
         refine vRegionD (by kernel_rfl) (by kernel_rfl) ?_
         iterate 2 refine cVal tt rfl (wNone rfl) rfl rfl rfl trivial ?_
         obtain ⟨hg35, h⟩ := grd_inv h
         refine cVal tt rfl (wNone rfl) rfl rfl rfl hg35 ?_
         refine cLoadD tt (wNone rfl) (.pairss v3.1) rfl rfl rfl rfl rfl rfl rfl rfl rfl hg35 ?_
         iterate 2 refine cVal tt rfl (wNone rfl) rfl rfl rfl trivial ?_
         obtain ⟨hg36, h⟩ := grd_inv h
         iterate 2 refine cVal tt rfl (wNone rfl) rfl rfl rfl hg36 ?_
         obtain ⟨v42, hc37, h⟩ := bind_inv h
         refine cCall (L_samePlaces_w N (v3.1.getD ((i38).toNat) []) (v4.1.getD ((i38).toNat) []) v42 hc37) rfl (wNone rfl) rfl rfl rfl rfl rfl rfl ⟨⟨_, deep_at (q := (.pairss v3.1)) rfl rfl rfl (by simp only [Sq.len, List.length_set, List.length_append, List.length_replicate] at *; omega), rfl, rfl⟩, rfl, trivial⟩ ?_
         iterate 2 refine cVal tt rfl (wNone rfl) rfl rfl rfl trivial ?_
         refine cSplit rfl rfl rfl (fun hb38 => ?_) (fun hb38 => ?_)
         ·replace h := cnd_t hb38 h
          iterate 7 refine cNoF rfl rfl rfl rfl hb38 rfl rfl ?_
          refine cPickT rfl (wNone rfl) rfl rfl rfl hb38 rfl ?_
          refine cVal tt rfl (wNone rfl) rfl rfl rfl trivial ?_
          iterate 8 refine cNoF rfl rfl rfl rfl rfl rfl rfl ?_
          refine cPickT rfl (wNone rfl) rfl rfl rfl rfl rfl ?_
          refine cNil ?_
          change VC _ _ _ _
          refine vCondT rfl rfl ?_
          refine vSeq ?_
          refine vRegion ?_
          refine oVal tt rfl rfl rfl rfl rfl trivial ?_
          refine vNil ?_
          change VC _ _ _ _
          refine vRet ?_
          change ∃ _, _
          cases h
          exact ⟨[], _, rfl, trivial, rfl, (.eq rfl), rfl⟩
         ·replace h := cnd_f hb38 h
          iterate 3 refine cVal tt rfl (wSome rfl rfl rfl rfl hb38) rfl rfl rfl trivial ?_
          iterate 2 refine cVal tt rfl (wSome rfl rfl rfl rfl hb38) rfl rfl rfl hg36 ?_
          obtain ⟨v43, hc39, h⟩ := bind_inv h
          refine cCall (I_IsPose_w N v2 (v4.1.getD ((i38).toNat) []) v43 hc39) rfl (wSome rfl rfl rfl rfl hb38) rfl rfl rfl rfl rfl rfl ⟨⟨rfl, (.inl ⟨rfl, rfl⟩), (.inl ⟨rfl, rfl⟩), (.inl ⟨rfl, rfl⟩), trivial⟩, rfl, trivial⟩ ?_
          refine cVal tt rfl (wSome rfl rfl rfl rfl hb38) rfl rfl rfl trivial ?_
          refine cPickF rfl (wNone rfl) rfl rfl rfl hb38 rfl ?_
          refine cVal tt rfl (wNone rfl) rfl rfl rfl trivial ?_
          refine cSplit rfl rfl rfl (fun hb40 => ?_) (fun hb40 => ?_)
          ·replace h := cnd_t hb40 h
           iterate 8 refine cNoF rfl rfl rfl rfl hb40 rfl rfl ?_
           refine cPickT rfl (wNone rfl) rfl rfl rfl hb40 rfl ?_
           refine cNil ?_
           change VC _ _ _ _
           refine vCondT rfl rfl ?_
           refine vSeq ?_
           refine vRegion ?_
           refine oVal tt rfl rfl rfl rfl rfl trivial ?_
           refine vNil ?_
           change VC _ _ _ _
           refine vRet ?_
           change ∃ _, _
           cases h
           exact ⟨[], _, rfl, trivial, rfl, (.eq rfl), rfl⟩
          ·replace h := cnd_f hb40 h
           iterate 3 refine cVal tt rfl (wSome rfl rfl rfl rfl hb40) rfl rfl rfl trivial ?_
           iterate 2 refine cVal tt rfl (wSome rfl rfl rfl rfl hb40) rfl rfl rfl hg36 ?_
           obtain ⟨v44, hc41, h⟩ := bind_inv h
           refine cCall (I_IndexOfPose_w N v4.1 (v4.1.getD ((i38).toNat) []) v44 hc41) rfl (wSome rfl rfl rfl rfl hb40) rfl rfl rfl rfl rfl rfl ⟨(.inl ⟨rfl, rfl⟩), rfl, trivial⟩ ?_
           iterate 2 refine cVal tt rfl (wSome rfl rfl rfl rfl hb40) rfl rfl rfl trivial ?_
           refine cPickF rfl (wNone rfl) rfl rfl rfl hb40 rfl ?_
           refine cNil ?_
           change VC _ _ _ _
           refine vCond rfl (fun hb42 => ?_) (fun hb42 => ?_)
           ·replace h := cnd_t hb42 h
            refine vSeq ?_
            refine vRegion ?_
            refine oVal tt rfl rfl rfl rfl rfl trivial ?_
            refine vNil ?_
            change VC _ _ _ _
            refine vRet ?_
            change ∃ _, _
            cases h
            exact ⟨[], _, rfl, trivial, rfl, (.eq rfl), rfl⟩
           ·replace h := cnd_f hb42 h
            refine vSkip ?_
            change VC _ _ _ _
            refine vRegion ?_
            refine oVal tt rfl rfl rfl rfl rfl trivial ?_
            obtain ⟨hg43, h⟩ := grd_inv h
            refine oVal tt rfl rfl rfl rfl rfl hg43 ?_
            refine oVal tt rfl rfl rfl rfl rfl trivial ?_
            refine vNil ?_
            change ∃ _, _
            exact ⟨(i38 + (1 : Int)), (En.of ⟨rfl, rfl, rfl, rfl, rfl, rfl, trivial⟩ ⟨rfl, rfl, rfl, rfl, rfl, rfl, trivial⟩ ⟨rfl, trivial⟩), h⟩
        ·replace h := cnd_f hb34 h
         refine vExit ?_
         change ∃ _, _
         exact ⟨(), (En.of ⟨rfl, rfl, rfl, rfl, trivial⟩ ⟨rfl, rfl, rfl, rfl, trivial⟩ ⟨rfl, trivial⟩), h⟩
end Go.Proofs.Ytcljhpldfanhkaa
namespace Go.Proofs.Ytcljhpldfanhkaa
open Go.ChangeShapes Go.WideShapes Go.ChangeAt Go.RowKit Go.Deep
section
variable {H : Type} {enc : TypeId × Value → H} {P : Program} {w : World} {spare : Nat → Bool} {held : Bool} {fuel : Nat} {cs : List Value} {x : DataW H × List MemPlace}
theorem open_bytesD {t e : TypeId} (ht : P.underlying t = some (.slice e)) (he : P.underlying e = some (.int .u8)) (hc : P.cellsOf e = 1) (h : DataW.trod enc P w 0 spare held fuel t cs = some x) :
  ∃ v l, cs = [v] ∧ VR M0 R0 w (.ro false (.bytes l)) v ∧ ∀ x ∈ l, 0 ≤ x ∧ x < 256 := by
 obtain ⟨v, rfl, hcap⟩ := trod_cap ht h
 rcases open_slice1 ht hc h with ⟨h0, _⟩ | ⟨a, len, cap, m, n, V, D, Pl, h0, hb, hl, hm, hmm, rfl, hx⟩
 ·simp at h0; subst h0
  exact ⟨_, [], rfl, .ro false (.bytes []) _ 0 0 0 (fun _ _ => undef) (Nat.zero_le _) (Nat.le_refl _) (fun h => absurd h (by simp [Sq.len])) (fun i j d hi => absurd hi (by simp [Sq.len])) (fun i j d hi => absurd hi (by simp [Sq.len])), by simp⟩
 ·simp at h0; subst h0
  have hlm : len ≤ m := by rw [hmm]; split <;> omega
  have hcell : ∀ i, i < len → ∃ z : Int, w.cell? (a.add i) = some (.int .u8 z) ∧ 0 ≤ z ∧ z < 256 := fun i hi => by
   obtain ⟨h1, h2⟩ := hx i (by omega)
   obtain ⟨z, hz, _, hw⟩ := DataW.trod_int he h2
   simp at hz
   simp [Lit.wf, IntKind.min, IntKind.max, IntKind.signed, IntKind.bits] at hw
   exact ⟨z, by rw [h1, hz], by omega⟩
  obtain ⟨f, hf⟩ := choose_lt hcell
  have hlen : ((List.range len).map f).length = len := by simp
  refine ⟨_, (List.range len).map f, rfl, ?_, fun x hx' => ?_⟩
  ·by_cases h0 : 0 < len
   ·have c0 := (hf 0 h0).1
    have hs := cell?_spot c0
    have ha : a = ⟨a.block, a.off, none⟩ := by
     have : (a.add 0) = a := by simp [Addr.add]
     rw [this] at hs; cases a; simp_all
    have hlt : a.block < w.heap.size := by have := cell?_lt c0; rwa [add_block] at this
    have hcl : ∀ i, i < len → w.cell? ⟨a.block, a.off + i, none⟩ = some (.int .u8 (f i)) := fun i hi => by
     have := (hf i hi).1
     rw [ha, Addr.add_lit] at this
     exact this
    have := VR.ro (M := M0) (A := R0) (w := w) false (.bytes ((List.range len).map f)) (some a) cap a.block a.off (fun i _ => .int .u8 (f i)) (by simp only [Sq.len, hlen]; omega) (by simp only [Sq.len, hlen]; exact hl) (fun _ => ⟨by rw [← ha], hlt, trivial⟩) (fun i j d hi hd => by
      simp only [Sq.len, hlen] at hi
      rcases j with _ | j <;> simp [Sq.elem] at hd
      simp only [Sq.sz, Nat.mul_one, Nat.add_zero]
      exact hcl i hi) (fun i j d hi hd => by
      simp only [Sq.len, hlen] at hi
      rcases j with _ | j <;> simp [Sq.elem, hi] at hd
      subst hd
      exact .val _ rfl)
    simpa only [Sq.len, hlen] using this
   ·have := VR.ro (M := M0) (A := R0) (w := w) false (.bytes ((List.range len).map f)) (some a) cap 0 0 (fun _ _ => undef) (by simp only [Sq.len, hlen]; omega) (by simp only [Sq.len, hlen]; exact hl) (fun h => absurd h (by simp only [Sq.len, hlen]; exact h0)) (fun i j d hi => absurd hi (by simp only [Sq.len, hlen]; omega)) (fun i j d hi => absurd hi (by simp only [Sq.len, hlen]; omega))
    simpa only [Sq.len, hlen] using this
  ·obtain ⟨i, hi, rfl⟩ := List.mem_map.1 hx'
   exact (hf i (by simpa using hi)).2
end
end Go.Proofs.Ytcljhpldfanhkaa
