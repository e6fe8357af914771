/- Texts that the proof needs, put together: G126 Va. -/
import Derived.Test.YtcljhpldfanhkaaBJc2
import Derived.Test.YtcljhpldfanhkaaBJc3
import Derived.Test.YtcljhpldfanhkaaBJc4
import Derived.Test.YtcljhpldfanhkaaBJc5
import Derived.Test.YtcljhpldfanhkaaBJc6
import Derived.Test.YtcljhpldfanhkaaBJc7
set_option linter.unusedVariables false
set_option linter.unusedSimpArgs false
namespace Go.Proofs.Ytcljhpldfanhkaa
open Go.RowKit
def L_FnRemoving_l1 (N : Nat) (v2 : Pin) (v5 : List Int) (k : Unit → Option (Bool)) : Nat → Int → Option (Bool)
 | 0, _ => none
 | n + 1, i34 =>
  cnd (decide (i34 < (v5.length : Int))) (
   grd (0 ≤ i34 ∧ i34 < (v5.length : Int)) <|
   (I_FallsWith N v2 (v5.getD ((i34).toNat) 0)).bind fun v36 =>
   cnd (decide ((v36.length : Int) > (0 : Int))) (
    some false) (
    grd (Rg64 (i34 + (1 : Int))) <|
    L_FnRemoving_l1 N v2 v5 k n (i34 + (1 : Int)))) (
   k ())
def L_FnRemoving_l2 (N : Nat) (v2 : Pin) (v5 : List Int) (k : Unit → Option (Bool)) : Nat → Int → Option (Bool)
 | 0, _ => none
 | n + 1, i52 =>
  cnd (decide (i52 < (v5.length : Int))) (
   grd (0 ≤ i52 ∧ i52 < (v5.length : Int)) <|
   (I_FallsWith N v2 (v5.getD ((i52).toNat) 0)).bind fun v54 =>
   cnd (decide ((v54.length : Int) > (0 : Int))) (
    some false) (
    grd (Rg64 (i52 + (1 : Int))) <|
    L_FnRemoving_l2 N v2 v5 k n (i52 + (1 : Int)))) (
   k ())
def L_FnRemoving (N : Nat) (code_0 : List Int) : Option (Bool) :=
 (L_big N code_0).bind fun v1 =>
 cnd v1 (
  some true) (
  (S_DrawRemoveAll N code_0).bind fun v2 =>
  (I_RemoveAll N v2).bind fun v3 =>
  (S_RemoveAll N v2).bind fun v4 =>
  (I_SafeBars N v2).bind fun v5 =>
  (L_sameInts N v3.1 v4.1).bind fun v6 =>
  cnd (!v6) (
   some false) (
   (L_samePinned N v3.2 v4.2).bind fun v7 =>
   cnd (!v7) (
    some false) (
    (S_SafeBars N v2).bind fun v8 =>
    (L_sameInts N v5 v8).bind fun v9 =>
    cnd (!v9) (
     some false) (
     (I_LeastKept N v2).bind fun v10 =>
     (S_LeastKept N v2).bind fun v11 =>
     (L_sameInts N v10 v11).bind fun v12 =>
     cnd (!v12) (
      some false) (
      (S_IsPinned N v2).bind fun v13 =>
      cnd v13 (
       (S_PinnedRank N v2).bind fun v14 =>
       cnd ((v4.2.g.bars.length : Int) != v14) (
        some false) (
        (I_PinnedRank N v4.2).bind fun v15 =>
        (S_PinnedRank N v2).bind fun v16 =>
        cnd (v15 != v16) (
         some false) (
         (I_LeastKept N v2).bind fun v17 =>
         (S_PinnedRank N v2).bind fun v18 =>
         cnd ((v17.length : Int) != v18) (
          some false) (
          L_FnRemoving_l1 N v2 v5 (fun (_ : Unit) =>
             (I_WorstBar N v2).bind fun v23 =>
             (S_WorstBar N v2).bind fun v24 =>
             (S_DrawSafeToRemove N code_0).bind fun v25 =>
             (S_DrawFallsWith N code_0).bind fun v26 =>
             cnd (v23.1 == v24.1) (
              cnd (v23.2 == v24.2) (
               (I_SafeToRemove N v25.1 v25.2).bind fun v27 =>
               (S_SafeToRemove N v25.1 v25.2).bind fun v28 =>
               cnd (v27 == v28) (
                (I_FallsWith N v26.1 v26.2).bind fun v29 =>
                (S_FallsWith N v26.1 v26.2).bind fun v30 =>
                (L_sameInts N v29 v30).bind fun v31 =>
                some v31) (
                some false)) (
               some false)) (
              some false)) N (0 : Int))))) (
       L_FnRemoving_l2 N v2 v5 (fun (_ : Unit) =>
          (I_WorstBar N v2).bind fun v41 =>
          (S_WorstBar N v2).bind fun v42 =>
          (S_DrawSafeToRemove N code_0).bind fun v43 =>
          (S_DrawFallsWith N code_0).bind fun v44 =>
          cnd (v41.1 == v42.1) (
           cnd (v41.2 == v42.2) (
            (I_SafeToRemove N v43.1 v43.2).bind fun v45 =>
            (S_SafeToRemove N v43.1 v43.2).bind fun v46 =>
            cnd (v45 == v46) (
             (I_FallsWith N v44.1 v44.2).bind fun v47 =>
             (S_FallsWith N v44.1 v44.2).bind fun v48 =>
             (L_sameInts N v47 v48).bind fun v49 =>
             some v49) (
             some false)) (
            some false)) (
           some false)) N (0 : Int)))))))
set_option maxRecDepth 20000 in
set_option maxHeartbeats 1600000 in
theorem L_FnRemoving_w (N : Nat) (code_0 : List Int) (r : Bool) (h : L_FnRemoving N code_0 = some r) : PCall Try.prog 8 [.ro false (.bytes code_0)] [] (.bool r) := by
 unfold L_FnRemoving at h
 refine pcall_intro (TT := TT) tt Try.func8 rfl rfl Try.ntmps8 (congrArg Array.toList Try.results8) rfl rfl fun w0 => ?_
 refine vSeq ?_
 refine vRegion ?_
 refine oVal tt rfl rfl rfl rfl rfl trivial ?_
 refine vNil ?_
 change VC _ _ _ _
 iterate 2 refine vSeq ?_
 refine vRegion ?_
 refine oVal tt rfl rfl rfl rfl rfl trivial ?_
 obtain ⟨v1, hc1, h⟩ := bind_inv h
 refine oCall (L_big_w N code_0 v1 hc1) rfl rfl rfl rfl rfl rfl rfl rfl ⟨rfl, trivial⟩ ?_
 refine vNil ?_
 change VC _ _ _ _
 refine vCond rfl (fun hb2 => ?_) (fun hb2 => ?_)
 ·replace h := cnd_t hb2 h
  refine vSeq ?_
  refine vRegion ?_
  refine oVal tt rfl rfl rfl rfl rfl trivial ?_
  refine vNil ?_
  change VC _ _ _ _
  refine vRet ?_
  change ∃ _, _
  cases h
  exact ⟨[], _, rfl, trivial, rfl, (.eq rfl), rfl⟩
 ·replace h := cnd_f hb2 h
  refine vSkip ?_
  change VC _ _ _ _
  refine vSeq ?_
  refine vRegion ?_
  refine oVal tt rfl rfl rfl rfl rfl trivial ?_
  obtain ⟨v2, hc3, h⟩ := bind_inv h
  refine oCall (S_DrawRemoveAll_w N code_0 v2 hc3) rfl rfl rfl rfl rfl rfl rfl rfl ⟨rfl, trivial⟩ ?_
  refine oAlloc tt rfl rfl rfl rfl rfl rfl rfl rfl rfl ?_
  refine oStore tt rfl rfl rfl rfl rfl rfl rfl rfl rfl rfl rfl ⟨trivial, trivial, trivial, trivial⟩ ?_
  refine vNil ?_
  change VC _ _ _ _
  refine vSeq ?_
  refine vRegion ?_
  refine oVal tt rfl rfl rfl rfl rfl trivial ?_
  obtain ⟨v3, hc4, h⟩ := bind_inv h
  refine oCall (I_RemoveAll_w N v2 v3 hc4) rfl rfl rfl rfl rfl rfl rfl rfl ⟨⟨rfl, (.inl ⟨rfl, rfl⟩), (.inl ⟨rfl, rfl⟩), trivial⟩, trivial⟩ ?_
  iterate 3 refine oVal tt rfl rfl rfl rfl rfl trivial ?_
  refine oAlloc tt rfl rfl rfl rfl rfl rfl rfl rfl rfl ?_
  refine oVal tt rfl rfl rfl rfl rfl trivial ?_
  refine oStore tt rfl rfl rfl rfl rfl rfl rfl rfl rfl rfl rfl ⟨trivial, trivial, trivial, trivial⟩ ?_
  refine vNil ?_
  change VC _ _ _ _
  refine vSeq ?_
  refine vRegion ?_
  refine oVal tt rfl rfl rfl rfl rfl trivial ?_
  obtain ⟨v4, hc5, h⟩ := bind_inv h
  refine oCall (S_RemoveAll_w N v2 v4 hc5) rfl rfl rfl rfl rfl rfl rfl rfl ⟨⟨rfl, (.inl ⟨rfl, rfl⟩), (.inl ⟨rfl, rfl⟩), trivial⟩, trivial⟩ ?_
  iterate 3 refine oVal tt rfl rfl rfl rfl rfl trivial ?_
  refine oAlloc tt rfl rfl rfl rfl rfl rfl rfl rfl rfl ?_
  refine oVal tt rfl rfl rfl rfl rfl trivial ?_
  refine oStore tt rfl rfl rfl rfl rfl rfl rfl rfl rfl rfl rfl ⟨trivial, trivial, trivial, trivial⟩ ?_
  refine vNil ?_
  change VC _ _ _ _
  refine vSeq ?_
  refine vRegion ?_
  refine oVal tt rfl rfl rfl rfl rfl trivial ?_
  obtain ⟨v5, hc6, h⟩ := bind_inv h
  refine oCall (I_SafeBars_w N v2 v5 hc6) rfl rfl rfl rfl rfl rfl rfl rfl ⟨⟨rfl, (.inl ⟨rfl, rfl⟩), (.inl ⟨rfl, rfl⟩), trivial⟩, trivial⟩ ?_
  refine oVal tt rfl rfl rfl rfl rfl trivial ?_
  refine vNil ?_
  change VC _ _ _ _
  iterate 2 refine vSeq ?_
  refine vRegionN 21 [13, 19] [0, 0, 3, 7, 15, 31, 31, 127, 255, 511, 1023, 2047, 2047, 6143, 16383, 32767, 65535, 131071, 262143, 524287, 262143, 2097151, 4194303, 8388607, 16777215] (by kernel_rfl) (by kernel_rfl) (by kernel_rfl) (by kernel_rfl) (by kernel_rfl) rfl (by rfl) ?_
  iterate 2 refine nVal tt rfl (wNone rfl) rfl rfl rfl rfl rfl trivial ?_
  obtain ⟨v6, hc7, h⟩ := bind_inv h
  refine nCall (L_sameInts_w N v3.1 v4.1 v6 hc7) rfl (wNone rfl) rfl rfl rfl rfl rfl rfl rfl rfl ⟨(.inl ⟨rfl, rfl⟩), (.inl ⟨rfl, rfl⟩), trivial⟩ ?_
  iterate 2 refine nVal tt rfl (wNone rfl) rfl rfl rfl rfl rfl trivial ?_
  refine nSplit rfl rfl rfl (fun hb8 => ?_) (fun hb8 => ?_)
  ·replace h := cnd_t hb8 h
   iterate 4 refine nNoF rfl rfl rfl rfl hb8 rfl rfl ?_
   refine nPickT rfl (wNone rfl) rfl rfl rfl hb8 rfl rfl ?_
   refine nVal tt rfl (wNone rfl) rfl rfl rfl rfl rfl trivial ?_
   iterate 5 refine nNoF rfl rfl rfl rfl rfl rfl rfl ?_
   refine nPickT rfl (wNone rfl) rfl rfl rfl rfl rfl rfl ?_
   refine nVal tt rfl (wNone rfl) rfl rfl rfl rfl rfl trivial ?_
   iterate 3 refine nNoF rfl rfl rfl rfl rfl rfl rfl ?_
   refine nNil ?_
   change VO _ _ _ _ _
   iterate 3 refine oNoF rfl rfl rfl rfl rfl rfl rfl ?_
   refine oPick rfl rfl rfl rfl rfl rfl rfl ?_
   refine vNil ?_
   change VC _ _ _ _
   refine vCondT rfl rfl ?_
   refine vSeq ?_
   refine vRegion ?_
   refine oVal tt rfl rfl rfl rfl rfl trivial ?_
   refine vNil ?_
   change VC _ _ _ _
   refine vRet ?_
   change ∃ _, _
   cases h
   exact ⟨[], _, rfl, trivial, rfl, (.eq rfl), rfl⟩
  ·replace h := cnd_f hb8 h
   iterate 2 refine nVal tt rfl (wSome rfl rfl rfl rfl hb8) rfl rfl rfl rfl rfl trivial ?_
   obtain ⟨v7, hc9, h⟩ := bind_inv h
   refine nCall (L_samePinned_w N v3.2 v4.2 v7 hc9) rfl (wSome rfl rfl rfl rfl hb8) rfl rfl rfl rfl rfl rfl rfl rfl ⟨⟨rfl, (.inl ⟨rfl, rfl⟩), (.inl ⟨rfl, rfl⟩), trivial⟩, ⟨rfl, (.inl ⟨rfl, rfl⟩), (.inl ⟨rfl, rfl⟩), trivial⟩, trivial⟩ ?_
   refine nVal tt rfl (wSome rfl rfl rfl rfl hb8) rfl rfl rfl rfl rfl trivial ?_
   refine nPickF rfl (wNone rfl) rfl rfl rfl hb8 rfl rfl ?_
   refine nVal tt rfl (wNone rfl) rfl rfl rfl rfl rfl trivial ?_
   refine nSplit rfl rfl rfl (fun hb10 => ?_) (fun hb10 => ?_)
   ·replace h := cnd_t hb10 h
    iterate 5 refine nNoF rfl rfl rfl rfl hb10 rfl rfl ?_
    refine nPickT rfl (wNone rfl) rfl rfl rfl hb10 rfl rfl ?_
    refine nVal tt rfl (wNone rfl) rfl rfl rfl rfl rfl trivial ?_
    iterate 3 refine nNoF rfl rfl rfl rfl rfl rfl rfl ?_
    refine nNil ?_
    change VO _ _ _ _ _
    iterate 3 refine oNoF rfl rfl rfl rfl rfl rfl rfl ?_
    refine oPick rfl rfl rfl rfl rfl rfl rfl ?_
    refine vNil ?_
    change VC _ _ _ _
    refine vCondT rfl rfl ?_
    refine vSeq ?_
    refine vRegion ?_
    refine oVal tt rfl rfl rfl rfl rfl trivial ?_
    refine vNil ?_
    change VC _ _ _ _
    refine vRet ?_
    change ∃ _, _
    cases h
    exact ⟨[], _, rfl, trivial, rfl, (.eq rfl), rfl⟩
   ·replace h := cnd_f hb10 h
    iterate 2 refine nVal tt rfl (wSome rfl rfl rfl rfl hb10) rfl rfl rfl rfl rfl trivial ?_
    obtain ⟨v8, hc11, h⟩ := bind_inv h
    refine nCallR (S_SafeBars_w N v2 v8 hc11) rfl (wSome rfl rfl rfl rfl hb10) rfl rfl rfl rfl rfl rfl (by first | rfl | kernel_rfl | (simp [nrL, nm, gdst, nmT, rowB]; done)) rfl (by first | rfl | kernel_rfl | (simp [chkE, nrL, nm, gdst, nmT, rowB, hid, ment, mentA, mentS]; done) | (simp [chkE, nrL, nm, gdst, nmT, rowB, hid, ment, mentA, mentS]; decide)) ⟨⟨rfl, (.inl ⟨rfl, rfl⟩), (.inl ⟨rfl, rfl⟩), trivial⟩, trivial⟩ ?_
    obtain ⟨v9, hc12, h⟩ := bind_inv h
    refine nCall (L_sameInts_w N v5 v8 v9 hc12) rfl (wSome rfl rfl rfl rfl hb10) rfl rfl rfl rfl rfl rfl rfl rfl ⟨(.inl ⟨rfl, rfl⟩), (.inl ⟨rfl, rfl⟩), trivial⟩ ?_
    refine nVal tt rfl (wSome rfl rfl rfl rfl hb10) rfl rfl rfl rfl rfl trivial ?_
    refine nPickF rfl (wNone rfl) rfl rfl rfl hb10 rfl rfl ?_
    refine nVal tt rfl (wNone rfl) rfl rfl rfl rfl rfl trivial ?_
    refine nSplit rfl rfl rfl (fun hb13 => ?_) (fun hb13 => ?_)
    ·replace h := cnd_t hb13 h
     iterate 3 refine nNoF rfl rfl rfl rfl hb13 rfl rfl ?_
     refine nNil ?_
     change VO _ _ _ _ _
     iterate 3 refine oNoF rfl rfl rfl rfl hb13 rfl rfl ?_
     refine oPick rfl rfl rfl rfl rfl hb13 rfl ?_
     refine vNil ?_
     change VC _ _ _ _
     refine vCondT rfl rfl ?_
     refine vSeq ?_
     refine vRegion ?_
     refine oVal tt rfl rfl rfl rfl rfl trivial ?_
     refine vNil ?_
     change VC _ _ _ _
     refine vRet ?_
     change ∃ _, _
     cases h
     exact ⟨[], _, rfl, trivial, rfl, (.eq rfl), rfl⟩
    ·replace h := cnd_f hb13 h
     refine nVal tt rfl (wSome rfl rfl rfl rfl hb13) rfl rfl rfl rfl rfl trivial ?_
     obtain ⟨v10, hc14, h⟩ := bind_inv h
     refine nCallR (I_LeastKept_w N v2 v10 hc14) rfl (wSome rfl rfl rfl rfl hb13) rfl rfl rfl rfl rfl rfl (by first | rfl | kernel_rfl | (simp [nrL, nm, gdst, nmT, rowB]; done)) rfl (by first | rfl | kernel_rfl | (simp [chkE, nrL, nm, gdst, nmT, rowB, hid, ment, mentA, mentS]; done) | (simp [chkE, nrL, nm, gdst, nmT, rowB, hid, ment, mentA, mentS]; decide)) ⟨⟨rfl, (.inl ⟨rfl, rfl⟩), (.inl ⟨rfl, rfl⟩), trivial⟩, trivial⟩ ?_
     refine nVal tt rfl (wSome rfl rfl rfl rfl hb13) rfl rfl rfl rfl rfl trivial ?_
     refine nNil ?_
     change VO _ _ _ _ _
     obtain ⟨v11, hc15, h⟩ := bind_inv h
     refine oCallG (S_LeastKept_w N v2 v11 hc15) rfl rfl rfl rfl hb13 rfl rfl rfl rfl rfl rfl rfl ⟨⟨rfl, (.inl ⟨rfl, rfl⟩), (.inl ⟨rfl, rfl⟩), trivial⟩, trivial⟩ ?_
     obtain ⟨v12, hc16, h⟩ := bind_inv h
     refine oCallG (L_sameInts_w N v10 v11 v12 hc16) rfl rfl rfl rfl hb13 rfl rfl rfl rfl rfl rfl rfl ⟨(.inl ⟨rfl, rfl⟩), (.inl ⟨rfl, rfl⟩), trivial⟩ ?_
     refine oValG tt rfl rfl rfl rfl rfl hb13 rfl rfl rfl trivial ?_
     refine oPickF rfl rfl rfl rfl rfl hb13 rfl ?_
     refine vNil ?_
     change VC _ _ _ _
     refine vCond rfl (fun hb17 => ?_) (fun hb17 => ?_)
     ·replace h := cnd_t hb17 h
      refine vSeq ?_
      refine vRegion ?_
      refine oVal tt rfl rfl rfl rfl rfl trivial ?_
      refine vNil ?_
      change VC _ _ _ _
      refine vRet ?_
      change ∃ _, _
      cases h
      exact ⟨[], _, rfl, trivial, rfl, (.eq rfl), rfl⟩
     ·replace h := cnd_f hb17 h
      refine vSkip ?_
      change VC _ _ _ _
      iterate 2 refine vSeq ?_
      refine vRegionN 23 [19] [0, 1, 3, 7, 15, 31, 63, 7, 135, 511, 1023, 2047, 4095, 2047, 16383, 32767, 65535, 131071, 262143, 524287, 1048575, 262143, 3145727, 8388607, 16777215, 33554431] (by kernel_rfl) (by kernel_rfl) (by kernel_rfl) (by kernel_rfl) (by kernel_rfl) rfl (by rfl) ?_
      refine nVal tt rfl (wNone rfl) rfl rfl rfl rfl rfl trivial ?_
      obtain ⟨v13, hc18, h⟩ := bind_inv h
      refine nCall (S_IsPinned_w N v2 v13 hc18) rfl (wNone rfl) rfl rfl rfl rfl rfl rfl rfl rfl ⟨⟨rfl, (.inl ⟨rfl, rfl⟩), (.inl ⟨rfl, rfl⟩), trivial⟩, trivial⟩ ?_
      refine nVal tt rfl (wNone rfl) rfl rfl rfl rfl rfl trivial ?_
      refine nSplit rfl rfl rfl (fun hb19 => ?_) (fun hb19 => ?_)
      ·replace h := cnd_t hb19 h
       iterate 5 refine nVal tt rfl (wSome rfl rfl rfl rfl hb19) rfl rfl rfl rfl rfl trivial ?_
       obtain ⟨v14, hc20, h⟩ := bind_inv h
       refine nCall (S_PinnedRank_w N v2 v14 hc20) rfl (wSome rfl rfl rfl rfl hb19) rfl rfl rfl rfl rfl rfl rfl rfl ⟨⟨rfl, (.inl ⟨rfl, rfl⟩), (.inl ⟨rfl, rfl⟩), trivial⟩, trivial⟩ ?_
       iterate 2 refine nVal tt rfl (wSome rfl rfl rfl rfl hb19) rfl rfl rfl rfl rfl trivial ?_
       refine nSplit rfl rfl rfl (fun hb21 => ?_) (fun hb21 => ?_)
       ·replace h := cnd_t hb21 h
        iterate 5 refine nNoF rfl rfl rfl rfl hb21 rfl rfl ?_
        refine nPickT rfl (wSome rfl rfl rfl rfl hb19) rfl rfl rfl hb21 rfl rfl ?_
        refine nVal tt rfl (wSome rfl rfl rfl rfl hb19) rfl rfl rfl rfl rfl trivial ?_
        iterate 5 refine nNoF rfl rfl rfl rfl rfl rfl rfl ?_
        refine nNil ?_
        change VO _ _ _ _ _
        refine oNoF rfl rfl rfl rfl rfl rfl rfl ?_
        refine oPickGT rfl rfl rfl rfl hb19 rfl rfl rfl rfl rfl rfl ?_
        refine oPick rfl rfl rfl rfl rfl hb19 rfl ?_
        refine vNil ?_
        change VC _ _ _ _
        refine vCondT rfl rfl ?_
        refine vSeq ?_
        refine vRegion ?_
        refine oVal tt rfl rfl rfl rfl rfl trivial ?_
        refine vNil ?_
        change VC _ _ _ _
        refine vRet ?_
        change ∃ _, _
        cases h
        exact ⟨[], _, rfl, trivial, rfl, (.eq rfl), rfl⟩
       ·replace h := cnd_f hb21 h
        refine nVal tt rfl (wSome rfl rfl rfl rfl hb21) rfl rfl rfl rfl rfl trivial ?_
        obtain ⟨v15, hc22, h⟩ := bind_inv h
        refine nCall (I_PinnedRank_w N v4.2 v15 hc22) rfl (wSome rfl rfl rfl rfl hb21) rfl rfl rfl rfl rfl rfl rfl rfl ⟨⟨rfl, (.inl ⟨rfl, rfl⟩), (.inl ⟨rfl, rfl⟩), trivial⟩, trivial⟩ ?_
        refine nVal tt rfl (wSome rfl rfl rfl rfl hb21) rfl rfl rfl rfl rfl trivial ?_
        obtain ⟨v16, hc23, h⟩ := bind_inv h
        refine nCall (S_PinnedRank_w N v2 v16 hc23) rfl (wSome rfl rfl rfl rfl hb21) rfl rfl rfl rfl rfl rfl rfl rfl ⟨⟨rfl, (.inl ⟨rfl, rfl⟩), (.inl ⟨rfl, rfl⟩), trivial⟩, trivial⟩ ?_
        refine nVal tt rfl (wSome rfl rfl rfl rfl hb21) rfl rfl rfl rfl rfl trivial ?_
        refine nPickF rfl (wSome rfl rfl rfl rfl hb19) rfl rfl rfl hb21 rfl rfl ?_
        refine nVal tt rfl (wSome rfl rfl rfl rfl hb19) rfl rfl rfl rfl rfl trivial ?_
        refine nSplit rfl rfl rfl (fun hb24 => ?_) (fun hb24 => ?_)
        ·replace h := cnd_t hb24 h
         iterate 5 refine nNoF rfl rfl rfl rfl hb24 rfl rfl ?_
         refine nNil ?_
         change VO _ _ _ _ _
         refine oNoF rfl rfl rfl rfl hb24 rfl rfl ?_
         refine oPickGT rfl rfl rfl rfl hb19 rfl rfl rfl rfl hb24 rfl ?_
         refine oPick rfl rfl rfl rfl rfl hb19 rfl ?_
         refine vNil ?_
         change VC _ _ _ _
         refine vCondT rfl rfl ?_
         refine vSeq ?_
         refine vRegion ?_
         refine oVal tt rfl rfl rfl rfl rfl trivial ?_
         refine vNil ?_
         change VC _ _ _ _
         refine vRet ?_
         change ∃ _, _
         cases h
         exact ⟨[], _, rfl, trivial, rfl, (.eq rfl), rfl⟩
        ·replace h := cnd_f hb24 h
         refine nVal tt rfl (wSome rfl rfl rfl rfl hb24) rfl rfl rfl rfl rfl trivial ?_
         obtain ⟨v17, hc25, h⟩ := bind_inv h
         refine nCallR (I_LeastKept_w N v2 v17 hc25) rfl (wSome rfl rfl rfl rfl hb24) rfl rfl rfl rfl rfl rfl (by first | rfl | kernel_rfl | (simp [nrL, nm, gdst, nmT, rowB]; done)) rfl (by first | rfl | kernel_rfl | (simp [chkE, nrL, nm, gdst, nmT, rowB, hid, ment, mentA, mentS]; done) | (simp [chkE, nrL, nm, gdst, nmT, rowB, hid, ment, mentA, mentS]; decide)) ⟨⟨rfl, (.inl ⟨rfl, rfl⟩), (.inl ⟨rfl, rfl⟩), trivial⟩, trivial⟩ ?_
         iterate 2 refine nVal tt rfl (wSome rfl rfl rfl rfl hb24) rfl rfl rfl rfl rfl trivial ?_
         obtain ⟨v18, hc26, h⟩ := bind_inv h
         refine nCall (S_PinnedRank_w N v2 v18 hc26) rfl (wSome rfl rfl rfl rfl hb24) rfl rfl rfl rfl rfl rfl rfl rfl ⟨⟨rfl, (.inl ⟨rfl, rfl⟩), (.inl ⟨rfl, rfl⟩), trivial⟩, trivial⟩ ?_
         refine nNil ?_
         change VO _ _ _ _ _
         refine oValG tt rfl rfl rfl rfl rfl hb24 rfl rfl rfl trivial ?_
         refine oPickGF rfl rfl rfl rfl hb19 rfl rfl rfl rfl hb24 rfl ?_
         refine oPick rfl rfl rfl rfl rfl hb19 rfl ?_
         refine vNil ?_
         change VC _ _ _ _
         refine vCond rfl (fun hb27 => ?_) (fun hb27 => ?_)
         ·replace h := cnd_t hb27 h
          refine vSeq ?_
          refine vRegion ?_
          refine oVal tt rfl rfl rfl rfl rfl trivial ?_
          refine vNil ?_
          change VC _ _ _ _
          refine vRet ?_
          change ∃ _, _
          cases h
          exact ⟨[], _, rfl, trivial, rfl, (.eq rfl), rfl⟩
         ·replace h := cnd_f hb27 h
          refine vSkip ?_
          change VC _ _ _ _
          iterate 2 refine vSeq ?_
          refine vRegion ?_
          refine oVal tt rfl rfl rfl rfl rfl trivial ?_
          refine vNil ?_
          change VC _ _ _ _
          refine vJoin (F := fun k => L_FnRemoving_l1 N v2 v5 k) h (α := Unit) (J := fun (_ : Unit) => (⟨[(0, .ro false (.bytes code_0)), (3, .ptr 3 0)], [(1210, some (111, .pairs v2.g.bars)), (1211, some (3, .ints v2.ground))], [(3, some [.int v2.g.n, .row 1210 0 v2.g.bars.length, .row 1211 0 v2.ground.length])]⟩ : PS)) ?_ ?_
          ·rintro ⟨⟩ h
           show VC _ _ _ (⟨[(0, .ro false (.bytes code_0)), (3, .ptr 3 0)], [(1210, some (111, .pairs v2.g.bars)), (1211, some (3, .ints v2.ground))], [(3, some [.int v2.g.n, .row 1210 0 v2.g.bars.length, .row 1211 0 v2.ground.length])]⟩ : PS)
           refine vSeq ?_
           refine vRegion ?_
           refine oVal tt rfl rfl rfl rfl rfl trivial ?_
           obtain ⟨v23, hc28, h⟩ := bind_inv h
           refine oCall (I_WorstBar_w N v2 v23 hc28) rfl rfl rfl rfl rfl rfl rfl rfl ⟨⟨rfl, (.inl ⟨rfl, rfl⟩), (.inl ⟨rfl, rfl⟩), trivial⟩, trivial⟩ ?_
           iterate 5 refine oVal tt rfl rfl rfl rfl rfl trivial ?_
           refine vNil ?_
           change VC _ _ _ _
           refine vSeq ?_
           refine vRegion ?_
           refine oVal tt rfl rfl rfl rfl rfl trivial ?_
           obtain ⟨v24, hc29, h⟩ := bind_inv h
           refine oCall (S_WorstBar_w N v2 v24 hc29) rfl rfl rfl rfl rfl rfl rfl rfl ⟨⟨rfl, (.inl ⟨rfl, rfl⟩), (.inl ⟨rfl, rfl⟩), trivial⟩, trivial⟩ ?_
           iterate 5 refine oVal tt rfl rfl rfl rfl rfl trivial ?_
           refine vNil ?_
           change VC _ _ _ _
           refine vSeq ?_
           refine vRegion ?_
           refine oVal tt rfl rfl rfl rfl rfl trivial ?_
           obtain ⟨v25, hc30, h⟩ := bind_inv h
           refine oCall (S_DrawSafeToRemove_w N code_0 v25 hc30) rfl rfl rfl rfl rfl rfl rfl rfl ⟨rfl, trivial⟩ ?_
           iterate 3 refine oVal tt rfl rfl rfl rfl rfl trivial ?_
           refine oAlloc tt rfl rfl rfl rfl rfl rfl rfl rfl rfl ?_
           refine oStore tt rfl rfl rfl rfl rfl rfl rfl rfl rfl rfl rfl ⟨trivial, trivial, trivial, trivial⟩ ?_
           refine oVal tt rfl rfl rfl rfl rfl trivial ?_
           refine vNil ?_
           change VC _ _ _ _
           refine vSeq ?_
           refine vRegion ?_
           refine oVal tt rfl rfl rfl rfl rfl trivial ?_
           obtain ⟨v26, hc31, h⟩ := bind_inv h
           refine oCall (S_DrawFallsWith_w N code_0 v26 hc31) rfl rfl rfl rfl rfl rfl rfl rfl ⟨rfl, trivial⟩ ?_
           iterate 3 refine oVal tt rfl rfl rfl rfl rfl trivial ?_
           refine oAlloc tt rfl rfl rfl rfl rfl rfl rfl rfl rfl ?_
           refine oStore tt rfl rfl rfl rfl rfl rfl rfl rfl rfl rfl rfl ⟨trivial, trivial, trivial, trivial⟩ ?_
           refine oVal tt rfl rfl rfl rfl rfl trivial ?_
           refine vNil ?_
           change VC _ _ _ _
           refine vSeq ?_
           refine vRegionN 23 [20] [0, 0, 3, 7, 15, 15, 63, 127, 255, 511, 511, 2047, 511, 511, 16383, 32767, 65535, 131071, 262143, 262143, 1048575, 262143, 262143, 8388607, 16777215, 33554431, 67108863] (by kernel_rfl) (by kernel_rfl) (by kernel_rfl) (by kernel_rfl) (by kernel_rfl) rfl (by rfl) ?_
           iterate 4 refine nVal tt rfl (wNone rfl) rfl rfl rfl rfl rfl trivial ?_
           refine nSplit rfl rfl rfl (fun hb32 => ?_) (fun hb32 => ?_)
           ·replace h := cnd_t hb32 h
            iterate 3 refine nVal tt rfl (wSome rfl rfl rfl rfl hb32) rfl rfl rfl rfl rfl trivial ?_
            refine nPickT rfl (wNone rfl) rfl rfl rfl hb32 rfl rfl ?_
            refine nVal tt rfl (wNone rfl) rfl rfl rfl rfl rfl trivial ?_
            refine nSplit rfl rfl rfl (fun hb33 => ?_) (fun hb33 => ?_)
            ·replace h := cnd_t hb33 h
             iterate 2 refine nVal tt rfl (wSome rfl rfl rfl rfl hb33) rfl rfl rfl rfl rfl trivial ?_
             obtain ⟨v27, hc34, h⟩ := bind_inv h
             refine nCall (I_SafeToRemove_w N v25.1 v25.2 v27 hc34) rfl (wSome rfl rfl rfl rfl hb33) rfl rfl rfl rfl rfl rfl rfl rfl ⟨⟨rfl, (.inl ⟨rfl, rfl⟩), (.inl ⟨rfl, rfl⟩), trivial⟩, rfl, trivial⟩ ?_
             iterate 2 refine nVal tt rfl (wSome rfl rfl rfl rfl hb33) rfl rfl rfl rfl rfl trivial ?_
             obtain ⟨v28, hc35, h⟩ := bind_inv h
             refine nCall (S_SafeToRemove_w N v25.1 v25.2 v28 hc35) rfl (wSome rfl rfl rfl rfl hb33) rfl rfl rfl rfl rfl rfl rfl rfl ⟨⟨rfl, (.inl ⟨rfl, rfl⟩), (.inl ⟨rfl, rfl⟩), trivial⟩, rfl, trivial⟩ ?_
             refine nPure (wSome rfl rfl rfl rfl hb33) (pEqB Try.underlying4 rfl rfl rfl) rfl rfl rfl rfl ?_
             refine nPickT rfl (wNone rfl) rfl rfl rfl hb33 rfl rfl ?_
             refine nVal tt rfl (wNone rfl) rfl rfl rfl rfl rfl trivial ?_
             refine nSplit rfl rfl rfl (fun hb36 => ?_) (fun hb36 => ?_)
             ·replace h := cnd_t hb36 h
              iterate 2 refine nVal tt rfl (wSome rfl rfl rfl rfl hb36) rfl rfl rfl rfl rfl trivial ?_
              obtain ⟨v29, hc37, h⟩ := bind_inv h
              refine nCallR (I_FallsWith_w N v26.1 v26.2 v29 hc37) rfl (wSome rfl rfl rfl rfl hb36) rfl rfl rfl rfl rfl rfl (by first | rfl | kernel_rfl | (simp [nrL, nm, gdst, nmT, rowB]; done)) rfl (by first | rfl | kernel_rfl | (simp [chkE, nrL, nm, gdst, nmT, rowB, hid, ment, mentA, mentS]; done) | (simp [chkE, nrL, nm, gdst, nmT, rowB, hid, ment, mentA, mentS]; decide)) ⟨⟨rfl, (.inl ⟨rfl, rfl⟩), (.inl ⟨rfl, rfl⟩), trivial⟩, rfl, trivial⟩ ?_
              iterate 2 refine nVal tt rfl (wSome rfl rfl rfl rfl hb36) rfl rfl rfl rfl rfl trivial ?_
              refine nNil ?_
              change VO _ _ _ _ _
              obtain ⟨v30, hc38, h⟩ := bind_inv h
              refine oCallG (S_FallsWith_w N v26.1 v26.2 v30 hc38) rfl rfl rfl rfl hb36 rfl rfl rfl rfl rfl rfl rfl ⟨⟨rfl, (.inl ⟨rfl, rfl⟩), (.inl ⟨rfl, rfl⟩), trivial⟩, rfl, trivial⟩ ?_
              obtain ⟨v31, hc39, h⟩ := bind_inv h
              refine oCallG (L_sameInts_w N v29 v30 v31 hc39) rfl rfl rfl rfl hb36 rfl rfl rfl rfl rfl rfl rfl ⟨(.inl ⟨rfl, rfl⟩), (.inl ⟨rfl, rfl⟩), trivial⟩ ?_
              refine oPick rfl rfl rfl rfl rfl hb36 rfl ?_
              refine oVal tt rfl rfl rfl rfl rfl trivial ?_
              refine vNil ?_
              change VC _ _ _ _
              refine vRet ?_
              change ∃ _, _
              cases h
              exact ⟨[], _, rfl, trivial, rfl, (.eq rfl), rfl⟩
             ·replace h := cnd_f hb36 h
              iterate 5 refine nNoT rfl rfl rfl rfl hb36 rfl rfl ?_
              refine nNil ?_
              change VO _ _ _ _ _
              iterate 2 refine oNoT rfl rfl rfl rfl hb36 rfl rfl ?_
              refine oPickF rfl rfl rfl rfl rfl hb36 rfl ?_
              refine oVal tt rfl rfl rfl rfl rfl trivial ?_
              refine vNil ?_
              change VC _ _ _ _
              refine vRet ?_
              change ∃ _, _
              cases h
              exact ⟨[], _, rfl, trivial, rfl, (.eq rfl), rfl⟩
            ·replace h := cnd_f hb33 h
             iterate 7 refine nNoT rfl rfl rfl rfl hb33 rfl rfl ?_
             refine nPickF rfl (wNone rfl) rfl rfl rfl hb33 rfl rfl ?_
             refine nVal tt rfl (wNone rfl) rfl rfl rfl rfl rfl trivial ?_
             iterate 5 refine nNoT rfl rfl rfl rfl rfl rfl rfl ?_
             refine nNil ?_
             change VO _ _ _ _ _
             iterate 2 refine oNoT rfl rfl rfl rfl rfl rfl rfl ?_
             refine oPickF rfl rfl rfl rfl rfl rfl rfl ?_
             refine oVal tt rfl rfl rfl rfl rfl trivial ?_
             refine vNil ?_
             change VC _ _ _ _
             refine vRet ?_
             change ∃ _, _
             cases h
             exact ⟨[], _, rfl, trivial, rfl, (.eq rfl), rfl⟩
           ·replace h := cnd_f hb32 h
            iterate 3 refine nNoT rfl rfl rfl rfl hb32 rfl rfl ?_
            refine nPickF rfl (wNone rfl) rfl rfl rfl hb32 rfl rfl ?_
            refine nVal tt rfl (wNone rfl) rfl rfl rfl rfl rfl trivial ?_
            iterate 7 refine nNoT rfl rfl rfl rfl rfl rfl rfl ?_
            refine nPickF rfl (wNone rfl) rfl rfl rfl rfl rfl rfl ?_
            refine nVal tt rfl (wNone rfl) rfl rfl rfl rfl rfl trivial ?_
            iterate 5 refine nNoT rfl rfl rfl rfl rfl rfl rfl ?_
            refine nNil ?_
            change VO _ _ _ _ _
            iterate 2 refine oNoT rfl rfl rfl rfl rfl rfl rfl ?_
            refine oPickF rfl rfl rfl rfl rfl rfl rfl ?_
            refine oVal tt rfl rfl rfl rfl rfl trivial ?_
            refine vNil ?_
            change VC _ _ _ _
            refine vRet ?_
            change ∃ _, _
            cases h
            exact ⟨[], _, rfl, trivial, rfl, (.eq rfl), rfl⟩
          ·intro k h
           refine vBlock ?_
           refine vLoopS (α := Int) (fun (i34 : Int) => (⟨[(0, .ro false (.bytes code_0)), (3, .ptr 3 0), (8, .row 1330 0 v5.length), (9, .int i34)], [(1330, some (3, .ints v5)), (1210, some (111, .pairs v2.g.bars)), (1211, some (3, .ints v2.ground))], [(3, some [.int v2.g.n, .row 1210 0 v2.g.bars.length, .row 1211 0 v2.ground.length])]⟩ : PS)) (L_FnRemoving_l1 N v2 v5 k) h (En.of ⟨rfl, rfl, rfl, rfl, trivial⟩ ⟨rfl, rfl, rfl, trivial⟩ ⟨rfl, trivial⟩) (fun _ => rfl) ?_
           rintro n i34 h
           rw [L_FnRemoving_l1] at h
           show VC _ _ _ (⟨[(0, .ro false (.bytes code_0)), (3, .ptr 3 0), (8, .row 1330 0 v5.length), (9, .int i34)], [(1330, some (3, .ints v5)), (1210, some (111, .pairs v2.g.bars)), (1211, some (3, .ints v2.ground))], [(3, some [.int v2.g.n, .row 1210 0 v2.g.bars.length, .row 1211 0 v2.ground.length])]⟩ : PS)
           iterate 2 refine vSeq ?_
           refine vRegion ?_
           iterate 4 refine oVal tt rfl rfl rfl rfl rfl trivial ?_
           refine vNil ?_
           change VC _ _ _ _
           refine vCond rfl (fun hb40 => ?_) (fun hb40 => ?_)
           ·replace h := cnd_t hb40 h
            refine vSkip ?_
            change VC _ _ _ _
            refine vSeq ?_
            refine vBlock ?_
            refine vSeq ?_
            refine vRegionN 5 [] [0, 0, 0, 6, 14, 31, 63, 127] (by kernel_rfl) (by kernel_rfl) (by kernel_rfl) (by kernel_rfl) (by kernel_rfl) rfl (by rfl) ?_
            iterate 3 refine nVal tt rfl (wNone rfl) rfl rfl rfl rfl rfl trivial ?_
            obtain ⟨hg41, h⟩ := grd_inv h
            iterate 2 refine nVal tt rfl (wNone rfl) rfl rfl rfl rfl rfl hg41 ?_
            refine nNil ?_
            change VO _ _ _ _ _
            obtain ⟨v36, hc42, h⟩ := bind_inv h
            refine oCall (I_FallsWith_w N v2 (v5.getD ((i34).toNat) 0) v36 hc42) rfl rfl rfl rfl rfl rfl rfl rfl ⟨⟨rfl, (.inl ⟨rfl, rfl⟩), (.inl ⟨rfl, rfl⟩), trivial⟩, rfl, trivial⟩ ?_
            iterate 2 refine oVal tt rfl rfl rfl rfl rfl trivial ?_
            refine vNil ?_
            change VC _ _ _ _
            refine vCond rfl (fun hb43 => ?_) (fun hb43 => ?_)
            ·replace h := cnd_t hb43 h
             refine vSeq ?_
             refine vRegion ?_
             refine oVal tt rfl rfl rfl rfl rfl trivial ?_
             refine vNil ?_
             change VC _ _ _ _
             refine vRet ?_
             change ∃ _, _
             cases h
             exact ⟨[], _, rfl, trivial, rfl, (.eq rfl), rfl⟩
            ·replace h := cnd_f hb43 h
             refine vSkip ?_
             change VC _ _ _ _
             refine vRegion ?_
             refine oVal tt rfl rfl rfl rfl rfl trivial ?_
             obtain ⟨hg44, h⟩ := grd_inv h
             refine oVal tt rfl rfl rfl rfl rfl hg44 ?_
             refine oVal tt rfl rfl rfl rfl rfl trivial ?_
             refine vNil ?_
             change ∃ _, _
             exact ⟨(i34 + (1 : Int)), (En.of ⟨rfl, rfl, rfl, rfl, trivial⟩ ⟨rfl, rfl, rfl, trivial⟩ ⟨rfl, trivial⟩), h⟩
           ·replace h := cnd_f hb40 h
            refine vExit ?_
            change ∃ _, _
            exact ⟨(), (En.of ⟨rfl, rfl, trivial⟩ ⟨rfl, rfl, trivial⟩ ⟨rfl, trivial⟩), h⟩
      ·replace h := cnd_f hb19 h
       iterate 8 refine nNoT rfl rfl rfl rfl hb19 rfl rfl ?_
       iterate 5 refine nNoU rfl rfl rfl rfl rfl ?_
       iterate 2 refine nNoT rfl rfl rfl rfl hb19 rfl rfl ?_
       iterate 5 refine nNoU rfl rfl rfl rfl rfl ?_
       refine nNil ?_
       change VO _ _ _ _ _
       refine oNoU rfl rfl rfl rfl rfl ?_
       refine oNoT rfl rfl rfl rfl hb19 rfl rfl ?_
       refine oPickF rfl rfl rfl rfl rfl hb19 rfl ?_
       refine vNil ?_
       change VC _ _ _ _
       refine vCondF rfl rfl ?_
       refine vSkip ?_
       change VC _ _ _ _
       iterate 2 refine vSeq ?_
       refine vRegion ?_
       refine oVal tt rfl rfl rfl rfl rfl trivial ?_
       refine vNil ?_
       change VC _ _ _ _
       refine vJoin (F := fun k => L_FnRemoving_l2 N v2 v5 k) h (α := Unit) (J := fun (_ : Unit) => (⟨[(0, .ro false (.bytes code_0)), (3, .ptr 3 0)], [(1210, some (111, .pairs v2.g.bars)), (1211, some (3, .ints v2.ground))], [(3, some [.int v2.g.n, .row 1210 0 v2.g.bars.length, .row 1211 0 v2.ground.length])]⟩ : PS)) ?_ ?_
       ·rintro ⟨⟩ h
        show VC _ _ _ (⟨[(0, .ro false (.bytes code_0)), (3, .ptr 3 0)], [(1210, some (111, .pairs v2.g.bars)), (1211, some (3, .ints v2.ground))], [(3, some [.int v2.g.n, .row 1210 0 v2.g.bars.length, .row 1211 0 v2.ground.length])]⟩ : PS)
        refine vSeq ?_
        refine vRegion ?_
        refine oVal tt rfl rfl rfl rfl rfl trivial ?_
        obtain ⟨v41, hc45, h⟩ := bind_inv h
        refine oCall (I_WorstBar_w N v2 v41 hc45) rfl rfl rfl rfl rfl rfl rfl rfl ⟨⟨rfl, (.inl ⟨rfl, rfl⟩), (.inl ⟨rfl, rfl⟩), trivial⟩, trivial⟩ ?_
        iterate 5 refine oVal tt rfl rfl rfl rfl rfl trivial ?_
        refine vNil ?_
        change VC _ _ _ _
        refine vSeq ?_
        refine vRegion ?_
        refine oVal tt rfl rfl rfl rfl rfl trivial ?_
        obtain ⟨v42, hc46, h⟩ := bind_inv h
        refine oCall (S_WorstBar_w N v2 v42 hc46) rfl rfl rfl rfl rfl rfl rfl rfl ⟨⟨rfl, (.inl ⟨rfl, rfl⟩), (.inl ⟨rfl, rfl⟩), trivial⟩, trivial⟩ ?_
        iterate 5 refine oVal tt rfl rfl rfl rfl rfl trivial ?_
        refine vNil ?_
        change VC _ _ _ _
        refine vSeq ?_
        refine vRegion ?_
        refine oVal tt rfl rfl rfl rfl rfl trivial ?_
        obtain ⟨v43, hc47, h⟩ := bind_inv h
        refine oCall (S_DrawSafeToRemove_w N code_0 v43 hc47) rfl rfl rfl rfl rfl rfl rfl rfl ⟨rfl, trivial⟩ ?_
        iterate 3 refine oVal tt rfl rfl rfl rfl rfl trivial ?_
        refine oAlloc tt rfl rfl rfl rfl rfl rfl rfl rfl rfl ?_
        refine oStore tt rfl rfl rfl rfl rfl rfl rfl rfl rfl rfl rfl ⟨trivial, trivial, trivial, trivial⟩ ?_
        refine oVal tt rfl rfl rfl rfl rfl trivial ?_
        refine vNil ?_
        change VC _ _ _ _
        refine vSeq ?_
        refine vRegion ?_
        refine oVal tt rfl rfl rfl rfl rfl trivial ?_
        obtain ⟨v44, hc48, h⟩ := bind_inv h
        refine oCall (S_DrawFallsWith_w N code_0 v44 hc48) rfl rfl rfl rfl rfl rfl rfl rfl ⟨rfl, trivial⟩ ?_
        iterate 3 refine oVal tt rfl rfl rfl rfl rfl trivial ?_
        refine oAlloc tt rfl rfl rfl rfl rfl rfl rfl rfl rfl ?_
        refine oStore tt rfl rfl rfl rfl rfl rfl rfl rfl rfl rfl rfl ⟨trivial, trivial, trivial, trivial⟩ ?_
        refine oVal tt rfl rfl rfl rfl rfl trivial ?_
        refine vNil ?_
        change VC _ _ _ _
        refine vSeq ?_
        refine vRegionN 23 [20] [0, 0, 3, 7, 15, 15, 63, 127, 255, 511, 511, 2047, 511, 511, 16383, 32767, 65535, 131071, 262143, 262143, 1048575, 262143, 262143, 8388607, 16777215, 33554431, 67108863] (by kernel_rfl) (by kernel_rfl) (by kernel_rfl) (by kernel_rfl) (by kernel_rfl) rfl (by rfl) ?_
        iterate 4 refine nVal tt rfl (wNone rfl) rfl rfl rfl rfl rfl trivial ?_
        refine nSplit rfl rfl rfl (fun hb49 => ?_) (fun hb49 => ?_)
        ·replace h := cnd_t hb49 h
         iterate 3 refine nVal tt rfl (wSome rfl rfl rfl rfl hb49) rfl rfl rfl rfl rfl trivial ?_
         refine nPickT rfl (wNone rfl) rfl rfl rfl hb49 rfl rfl ?_
         refine nVal tt rfl (wNone rfl) rfl rfl rfl rfl rfl trivial ?_
         refine nSplit rfl rfl rfl (fun hb50 => ?_) (fun hb50 => ?_)
         ·replace h := cnd_t hb50 h
          iterate 2 refine nVal tt rfl (wSome rfl rfl rfl rfl hb50) rfl rfl rfl rfl rfl trivial ?_
          obtain ⟨v45, hc51, h⟩ := bind_inv h
          refine nCall (I_SafeToRemove_w N v43.1 v43.2 v45 hc51) rfl (wSome rfl rfl rfl rfl hb50) rfl rfl rfl rfl rfl rfl rfl rfl ⟨⟨rfl, (.inl ⟨rfl, rfl⟩), (.inl ⟨rfl, rfl⟩), trivial⟩, rfl, trivial⟩ ?_
          iterate 2 refine nVal tt rfl (wSome rfl rfl rfl rfl hb50) rfl rfl rfl rfl rfl trivial ?_
          obtain ⟨v46, hc52, h⟩ := bind_inv h
          refine nCall (S_SafeToRemove_w N v43.1 v43.2 v46 hc52) rfl (wSome rfl rfl rfl rfl hb50) rfl rfl rfl rfl rfl rfl rfl rfl ⟨⟨rfl, (.inl ⟨rfl, rfl⟩), (.inl ⟨rfl, rfl⟩), trivial⟩, rfl, trivial⟩ ?_
          refine nPure (wSome rfl rfl rfl rfl hb50) (pEqB Try.underlying4 rfl rfl rfl) rfl rfl rfl rfl ?_
          refine nPickT rfl (wNone rfl) rfl rfl rfl hb50 rfl rfl ?_
          refine nVal tt rfl (wNone rfl) rfl rfl rfl rfl rfl trivial ?_
          refine nSplit rfl rfl rfl (fun hb53 => ?_) (fun hb53 => ?_)
          ·replace h := cnd_t hb53 h
           iterate 2 refine nVal tt rfl (wSome rfl rfl rfl rfl hb53) rfl rfl rfl rfl rfl trivial ?_
           obtain ⟨v47, hc54, h⟩ := bind_inv h
           refine nCallR (I_FallsWith_w N v44.1 v44.2 v47 hc54) rfl (wSome rfl rfl rfl rfl hb53) rfl rfl rfl rfl rfl rfl (by first | rfl | kernel_rfl | (simp [nrL, nm, gdst, nmT, rowB]; done)) rfl (by first | rfl | kernel_rfl | (simp [chkE, nrL, nm, gdst, nmT, rowB, hid, ment, mentA, mentS]; done) | (simp [chkE, nrL, nm, gdst, nmT, rowB, hid, ment, mentA, mentS]; decide)) ⟨⟨rfl, (.inl ⟨rfl, rfl⟩), (.inl ⟨rfl, rfl⟩), trivial⟩, rfl, trivial⟩ ?_
           iterate 2 refine nVal tt rfl (wSome rfl rfl rfl rfl hb53) rfl rfl rfl rfl rfl trivial ?_
           refine nNil ?_
           change VO _ _ _ _ _
           obtain ⟨v48, hc55, h⟩ := bind_inv h
           refine oCallG (S_FallsWith_w N v44.1 v44.2 v48 hc55) rfl rfl rfl rfl hb53 rfl rfl rfl rfl rfl rfl rfl ⟨⟨rfl, (.inl ⟨rfl, rfl⟩), (.inl ⟨rfl, rfl⟩), trivial⟩, rfl, trivial⟩ ?_
           obtain ⟨v49, hc56, h⟩ := bind_inv h
           refine oCallG (L_sameInts_w N v47 v48 v49 hc56) rfl rfl rfl rfl hb53 rfl rfl rfl rfl rfl rfl rfl ⟨(.inl ⟨rfl, rfl⟩), (.inl ⟨rfl, rfl⟩), trivial⟩ ?_
           refine oPick rfl rfl rfl rfl rfl hb53 rfl ?_
           refine oVal tt rfl rfl rfl rfl rfl trivial ?_
           refine vNil ?_
           change VC _ _ _ _
           refine vRet ?_
           change ∃ _, _
           cases h
           exact ⟨[], _, rfl, trivial, rfl, (.eq rfl), rfl⟩
          ·replace h := cnd_f hb53 h
           iterate 5 refine nNoT rfl rfl rfl rfl hb53 rfl rfl ?_
           refine nNil ?_
           change VO _ _ _ _ _
           iterate 2 refine oNoT rfl rfl rfl rfl hb53 rfl rfl ?_
           refine oPickF rfl rfl rfl rfl rfl hb53 rfl ?_
           refine oVal tt rfl rfl rfl rfl rfl trivial ?_
           refine vNil ?_
           change VC _ _ _ _
           refine vRet ?_
           change ∃ _, _
           cases h
           exact ⟨[], _, rfl, trivial, rfl, (.eq rfl), rfl⟩
         ·replace h := cnd_f hb50 h
          iterate 7 refine nNoT rfl rfl rfl rfl hb50 rfl rfl ?_
          refine nPickF rfl (wNone rfl) rfl rfl rfl hb50 rfl rfl ?_
          refine nVal tt rfl (wNone rfl) rfl rfl rfl rfl rfl trivial ?_
          iterate 5 refine nNoT rfl rfl rfl rfl rfl rfl rfl ?_
          refine nNil ?_
          change VO _ _ _ _ _
          iterate 2 refine oNoT rfl rfl rfl rfl rfl rfl rfl ?_
          refine oPickF rfl rfl rfl rfl rfl rfl rfl ?_
          refine oVal tt rfl rfl rfl rfl rfl trivial ?_
          refine vNil ?_
          change VC _ _ _ _
          refine vRet ?_
          change ∃ _, _
          cases h
          exact ⟨[], _, rfl, trivial, rfl, (.eq rfl), rfl⟩
        ·replace h := cnd_f hb49 h
         iterate 3 refine nNoT rfl rfl rfl rfl hb49 rfl rfl ?_
         refine nPickF rfl (wNone rfl) rfl rfl rfl hb49 rfl rfl ?_
         refine nVal tt rfl (wNone rfl) rfl rfl rfl rfl rfl trivial ?_
         iterate 7 refine nNoT rfl rfl rfl rfl rfl rfl rfl ?_
         refine nPickF rfl (wNone rfl) rfl rfl rfl rfl rfl rfl ?_
         refine nVal tt rfl (wNone rfl) rfl rfl rfl rfl rfl trivial ?_
         iterate 5 refine nNoT rfl rfl rfl rfl rfl rfl rfl ?_
         refine nNil ?_
         change VO _ _ _ _ _
         iterate 2 refine oNoT rfl rfl rfl rfl rfl rfl rfl ?_
         refine oPickF rfl rfl rfl rfl rfl rfl rfl ?_
         refine oVal tt rfl rfl rfl rfl rfl trivial ?_
         refine vNil ?_
         change VC _ _ _ _
         refine vRet ?_
         change ∃ _, _
         cases h
         exact ⟨[], _, rfl, trivial, rfl, (.eq rfl), rfl⟩
       ·intro k h
        refine vBlock ?_
        refine vLoopS (α := Int) (fun (i52 : Int) => (⟨[(0, .ro false (.bytes code_0)), (3, .ptr 3 0), (8, .row 1330 0 v5.length), (9, .int i52)], [(1330, some (3, .ints v5)), (1210, some (111, .pairs v2.g.bars)), (1211, some (3, .ints v2.ground))], [(3, some [.int v2.g.n, .row 1210 0 v2.g.bars.length, .row 1211 0 v2.ground.length])]⟩ : PS)) (L_FnRemoving_l2 N v2 v5 k) h (En.of ⟨rfl, rfl, rfl, rfl, trivial⟩ ⟨rfl, rfl, rfl, trivial⟩ ⟨rfl, trivial⟩) (fun _ => rfl) ?_
        rintro n i52 h
        rw [L_FnRemoving_l2] at h
        show VC _ _ _ (⟨[(0, .ro false (.bytes code_0)), (3, .ptr 3 0), (8, .row 1330 0 v5.length), (9, .int i52)], [(1330, some (3, .ints v5)), (1210, some (111, .pairs v2.g.bars)), (1211, some (3, .ints v2.ground))], [(3, some [.int v2.g.n, .row 1210 0 v2.g.bars.length, .row 1211 0 v2.ground.length])]⟩ : PS)
        iterate 2 refine vSeq ?_
        refine vRegion ?_
        iterate 4 refine oVal tt rfl rfl rfl rfl rfl trivial ?_
        refine vNil ?_
        change VC _ _ _ _
        refine vCond rfl (fun hb57 => ?_) (fun hb57 => ?_)
        ·replace h := cnd_t hb57 h
         refine vSkip ?_
         change VC _ _ _ _
         refine vSeq ?_
         refine vBlock ?_
         refine vSeq ?_
         refine vRegionN 5 [] [0, 0, 0, 6, 14, 31, 63, 127] (by kernel_rfl) (by kernel_rfl) (by kernel_rfl) (by kernel_rfl) (by kernel_rfl) rfl (by rfl) ?_
         iterate 3 refine nVal tt rfl (wNone rfl) rfl rfl rfl rfl rfl trivial ?_
         obtain ⟨hg58, h⟩ := grd_inv h
         iterate 2 refine nVal tt rfl (wNone rfl) rfl rfl rfl rfl rfl hg58 ?_
         refine nNil ?_
         change VO _ _ _ _ _
         obtain ⟨v54, hc59, h⟩ := bind_inv h
         refine oCall (I_FallsWith_w N v2 (v5.getD ((i52).toNat) 0) v54 hc59) rfl rfl rfl rfl rfl rfl rfl rfl ⟨⟨rfl, (.inl ⟨rfl, rfl⟩), (.inl ⟨rfl, rfl⟩), trivial⟩, rfl, trivial⟩ ?_
         iterate 2 refine oVal tt rfl rfl rfl rfl rfl trivial ?_
         refine vNil ?_
         change VC _ _ _ _
         refine vCond rfl (fun hb60 => ?_) (fun hb60 => ?_)
         ·replace h := cnd_t hb60 h
          refine vSeq ?_
          refine vRegion ?_
          refine oVal tt rfl rfl rfl rfl rfl trivial ?_
          refine vNil ?_
          change VC _ _ _ _
          refine vRet ?_
          change ∃ _, _
          cases h
          exact ⟨[], _, rfl, trivial, rfl, (.eq rfl), rfl⟩
         ·replace h := cnd_f hb60 h
          refine vSkip ?_
          change VC _ _ _ _
          refine vRegion ?_
          refine oVal tt rfl rfl rfl rfl rfl trivial ?_
          obtain ⟨hg61, h⟩ := grd_inv h
          refine oVal tt rfl rfl rfl rfl rfl hg61 ?_
          refine oVal tt rfl rfl rfl rfl rfl trivial ?_
          refine vNil ?_
          change ∃ _, _
          exact ⟨(i52 + (1 : Int)), (En.of ⟨rfl, rfl, rfl, rfl, trivial⟩ ⟨rfl, rfl, rfl, trivial⟩ ⟨rfl, trivial⟩), h⟩
        ·replace h := cnd_f hb57 h
         refine vExit ?_
         change ∃ _, _
         exact ⟨(), (En.of ⟨rfl, rfl, trivial⟩ ⟨rfl, rfl, trivial⟩ ⟨rfl, trivial⟩), h⟩
end Go.Proofs.Ytcljhpldfanhkaa
namespace Go.Proofs.Ytcljhpldfanhkaa
open Go.ChangeShapes Go.WideShapes Go.ChangeAt Go.RowKit Go.Deep
section
variable {H : Type} {enc : TypeId × Value → H} {P : Program} {w : World} {spare : Nat → Bool} {held : Bool} {fuel : Nat} {cs : List Value} {x : DataW H × List MemPlace}
theorem open_bytesD {t e : TypeId} (ht : P.underlying t = some (.slice e)) (he : P.underlying e = some (.int .u8)) (hc : P.cellsOf e = 1) (h : DataW.trod enc P w 0 spare held fuel t cs = some x) :
  ∃ v l, cs = [v] ∧ VR M0 R0 w (.ro false (.bytes l)) v ∧ ∀ x ∈ l, 0 ≤ x ∧ x < 256 := by
 obtain ⟨v, rfl, hcap⟩ := trod_cap ht h
 rcases open_slice1 ht hc h with ⟨h0, _⟩ | ⟨a, len, cap, m, n, V, D, Pl, h0, hb, hl, hm, hmm, rfl, hx⟩
 ·simp at h0; subst h0
  exact ⟨_, [], rfl, .ro false (.bytes []) _ 0 0 0 (fun _ _ => undef) (Nat.zero_le _) (Nat.le_refl _) (fun h => absurd h (by simp [Sq.len])) (fun i j d hi => absurd hi (by simp [Sq.len])) (fun i j d hi => absurd hi (by simp [Sq.len])), by simp⟩
 ·simp at h0; subst h0
  have hlm : len ≤ m := by rw [hmm]; split <;> omega
  have hcell : ∀ i, i < len → ∃ z : Int, w.cell? (a.add i) = some (.int .u8 z) ∧ 0 ≤ z ∧ z < 256 := fun i hi => by
   obtain ⟨h1, h2⟩ := hx i (by omega)
   obtain ⟨z, hz, _, hw⟩ := DataW.trod_int he h2
   simp at hz
   simp [Lit.wf, IntKind.min, IntKind.max, IntKind.signed, IntKind.bits] at hw
   exact ⟨z, by rw [h1, hz], by omega⟩
  obtain ⟨f, hf⟩ := choose_lt hcell
  have hlen : ((List.range len).map f).length = len := by simp
  refine ⟨_, (List.range len).map f, rfl, ?_, fun x hx' => ?_⟩
  ·by_cases h0 : 0 < len
   ·have c0 := (hf 0 h0).1
    have hs := cell?_spot c0
    have ha : a = ⟨a.block, a.off, none⟩ := by
     have : (a.add 0) = a := by simp [Addr.add]
     rw [this] at hs; cases a; simp_all
    have hlt : a.block < w.heap.size := by have := cell?_lt c0; rwa [add_block] at this
    have hcl : ∀ i, i < len → w.cell? ⟨a.block, a.off + i, none⟩ = some (.int .u8 (f i)) := fun i hi => by
     have := (hf i hi).1
     rw [ha, Addr.add_lit] at this
     exact this
    have := VR.ro (M := M0) (A := R0) (w := w) false (.bytes ((List.range len).map f)) (some a) cap a.block a.off (fun i _ => .int .u8 (f i)) (by simp only [Sq.len, hlen]; omega) (by simp only [Sq.len, hlen]; exact hl) (fun _ => ⟨by rw [← ha], hlt, trivial⟩) (fun i j d hi hd => by
      simp only [Sq.len, hlen] at hi
      rcases j with _ | j <;> simp [Sq.elem] at hd
      simp only [Sq.sz, Nat.mul_one, Nat.add_zero]
      exact hcl i hi) (fun i j d hi hd => by
      simp only [Sq.len, hlen] at hi
      rcases j with _ | j <;> simp [Sq.elem, hi] at hd
      subst hd
      exact .val _ rfl)
    simpa only [Sq.len, hlen] using this
   ·have := VR.ro (M := M0) (A := R0) (w := w) false (.bytes ((List.range len).map f)) (some a) cap 0 0 (fun _ _ => undef) (by simp only [Sq.len, hlen]; omega) (by simp only [Sq.len, hlen]; exact hl) (fun h => absurd h (by simp only [Sq.len, hlen]; exact h0)) (fun i j d hi => absurd hi (by simp only [Sq.len, hlen]; omega)) (fun i j d hi => absurd hi (by simp only [Sq.len, hlen]; omega))
    simpa only [Sq.len, hlen] using this
  ·obtain ⟨i, hi, rfl⟩ := List.mem_map.1 hx'
   exact (hf i (by simpa using hi)).2
end
end Go.Proofs.Ytcljhpldfanhkaa
