/- Plain texts of functions, and that the program computes them (printed by gen.py). -/
import Derived.Test.YtlmlfbjcpajinaaShb
import Derived.Test.YtlmlfbjcpajinaaG1
import Derived.Test.YtlmlfbjcpajinaaG2
import Derived.Test.YtlmlfbjcpajinaaG3
import Derived.Test.YtlmlfbjcpajinaaG14
import Derived.Test.YtlmlfbjcpajinaaG15
import Derived.Test.YtlmlfbjcpajinaaG17
namespace Go.Proofs.Ytlmlfbjcpajinaa
open Go.RowKit
set_option linter.unusedVariables false
set_option linter.unusedSimpArgs false
def L_FnExactIsRaise (N : Nat) (aP_0 : Pin) (aDone_1 : List Int) (aR_2 : Rse) : Option (Bool) :=
  cnd (decide ((aDone_1.length : Int) > (1048576 : Int))) (
    some true) (
    (L_szPinned N aP_0 (1048576 : Int)).bind fun v17 =>
    cnd (decide (v17 < (0 : Int))) (
      some true) (
      (L_szRaise N aR_2 v17).bind fun v18 =>
      cnd (decide (v18 < (0 : Int))) (
        some true) (
        (L_toPinned N aP_0).bind fun v19 =>
        (L_toIntS N aDone_1).bind fun v20 =>
        (L_toRaise N aR_2).bind fun v21 =>
        (S_IsRaise N v19 v20 v21).bind fun v22 =>
        (L_toPinned N aP_0).bind fun v23 =>
        (L_toIntS N aDone_1).bind fun v24 =>
        (L_toRaise N aR_2).bind fun v25 =>
        (I_IsRaise N v23 v24 v25).bind fun v26 =>
        cnd (v26 != v22) (
          some false) (
          (L_toPinned N aP_0).bind fun v27 =>
          (L_eqPinned N v23 v27).bind fun v28 =>
          cnd (!v28) (
            some false) (
            (L_toIntS N aDone_1).bind fun v29 =>
            (L_eqIntS N v24 v29).bind fun v30 =>
            cnd (!v30) (
              some false) (
              (L_toRaise N aR_2).bind fun v31 =>
              (L_eqRaise N v25 v31).bind fun v32 =>
              cnd (!v32) (
                some false) (
                some true)))))))
set_option maxRecDepth 20000 in
set_option maxHeartbeats 1600000 in
theorem L_FnExactIsRaise_w (N : Nat) (aP_0 : Pin) (aDone_1 : List Int) (aR_2 : Rse) (r : Bool) (h : L_FnExactIsRaise N aP_0 aDone_1 aR_2 = some r) : PCall Try.prog 10 [pD aP_0, .ro false (.ints aDone_1), rD aR_2] [] (.bool r) := by
  unfold L_FnExactIsRaise at h
  refine pcall_intro (TT := TT) tt Try.func10 rfl rfl Try.ntmps10 (congrArg Array.toList Try.results10) rfl rfl fun w0 => ?_
  refine vSeq ?_
  refine vRegion ?_
  iterate 2 refine oBox rfl rfl rfl rfl rfl rfl rfl rfl rfl ?_
  refine oVal tt rfl rfl rfl rfl rfl trivial ?_
  refine vNil ?_
  change VC _ _ _ _
  iterate 2 refine vSeq ?_
  refine vRegion ?_
  iterate 3 refine oVal tt rfl rfl rfl rfl rfl trivial ?_
  refine vNil ?_
  change VC _ _ _ _
  refine vCond rfl (fun hb1 => ?_) (fun hb1 => ?_)
  · replace h := cnd_t hb1 h
    refine vSeq ?_
    refine vRegion ?_
    refine oVal tt rfl rfl rfl rfl rfl trivial ?_
    refine vNil ?_
    change VC _ _ _ _
    refine vRet ?_
    change ∃ _, _
    cases h
    exact ⟨[], _, rfl, trivial, rfl, rfl, rfl⟩
  · replace h := cnd_f hb1 h
    refine vSkip ?_
    change VC _ _ _ _
    refine vSeq ?_
    refine vRegion ?_
    refine oVal tt rfl rfl rfl rfl rfl trivial ?_
    refine vNil ?_
    change VC _ _ _ _
    refine vSeq ?_
    refine vRegion ?_
    iterate 2 refine oVal tt rfl rfl rfl rfl rfl trivial ?_
    obtain ⟨v17, hc2, h⟩ := bind_inv h
    refine oCall (L_szPinned_w N aP_0 (1048576 : Int) v17 hc2) rfl rfl rfl rfl rfl rfl rfl rfl ⟨⟨rfl, rfl, rfl, trivial⟩, rfl, trivial⟩ ?_
    refine oVal tt rfl rfl rfl rfl rfl trivial ?_
    refine vNil ?_
    change VC _ _ _ _
    iterate 2 refine vSeq ?_
    refine vRegion ?_
    iterate 2 refine oVal tt rfl rfl rfl rfl rfl trivial ?_
    refine vNil ?_
    change VC _ _ _ _
    refine vCond rfl (fun hb3 => ?_) (fun hb3 => ?_)
    · replace h := cnd_t hb3 h
      refine vSeq ?_
      refine vRegion ?_
      refine oVal tt rfl rfl rfl rfl rfl trivial ?_
      refine vNil ?_
      change VC _ _ _ _
      refine vRet ?_
      change ∃ _, _
      cases h
      exact ⟨[], _, rfl, trivial, rfl, rfl, rfl⟩
    · replace h := cnd_f hb3 h
      refine vSkip ?_
      change VC _ _ _ _
      refine vSeq ?_
      refine vRegion ?_
      iterate 2 refine oVal tt rfl rfl rfl rfl rfl trivial ?_
      obtain ⟨v18, hc4, h⟩ := bind_inv h
      refine oCall (L_szRaise_w N aR_2 v17 v18 hc4) rfl rfl rfl rfl rfl rfl rfl rfl ⟨⟨rfl, rfl, trivial⟩, rfl, trivial⟩ ?_
      refine oVal tt rfl rfl rfl rfl rfl trivial ?_
      refine vNil ?_
      change VC _ _ _ _
      iterate 2 refine vSeq ?_
      refine vRegion ?_
      iterate 2 refine oVal tt rfl rfl rfl rfl rfl trivial ?_
      refine vNil ?_
      change VC _ _ _ _
      refine vCond rfl (fun hb5 => ?_) (fun hb5 => ?_)
      · replace h := cnd_t hb5 h
        refine vSeq ?_
        refine vRegion ?_
        refine oVal tt rfl rfl rfl rfl rfl trivial ?_
        refine vNil ?_
        change VC _ _ _ _
        refine vRet ?_
        change ∃ _, _
        cases h
        exact ⟨[], _, rfl, trivial, rfl, rfl, rfl⟩
      · replace h := cnd_f hb5 h
        refine vSkip ?_
        change VC _ _ _ _
        refine vSeq ?_
        refine vRegionN 5 [1, 3] [0, 1, 0, 7, 0, 31, 63, 127] (by kernel_rfl) (by kernel_rfl) (by kernel_rfl) (by kernel_rfl) (by kernel_rfl) rfl (by rfl) ?_
        refine nVal tt rfl (wNone rfl) rfl rfl rfl rfl rfl trivial ?_
        obtain ⟨v19, hc6, h⟩ := bind_inv h
        refine nCallR (L_toPinned_w N aP_0 v19 hc6) rfl (wNone rfl) rfl rfl rfl rfl rfl rfl rfl rfl (by first | rfl | kernel_rfl | (simp [chkE, nrL, nm, gdst, nmT, rowB, hid, ment, mentA, mentS]; done) | (simp [chkE, nrL, nm, gdst, nmT, rowB, hid, ment, mentA, mentS]; decide)) ⟨⟨rfl, rfl, rfl, trivial⟩, trivial⟩ ?_
        refine nVal tt rfl (wNone rfl) rfl rfl rfl rfl rfl trivial ?_
        obtain ⟨v20, hc7, h⟩ := bind_inv h
        refine nCallR (L_toIntS_w N aDone_1 v20 hc7) rfl (wNone rfl) rfl rfl rfl rfl rfl rfl rfl rfl (by first | rfl | kernel_rfl | (simp [chkE, nrL, nm, gdst, nmT, rowB, hid, ment, mentA, mentS]; done) | (simp [chkE, nrL, nm, gdst, nmT, rowB, hid, ment, mentA, mentS]; decide)) ⟨rfl, trivial⟩ ?_
        refine nVal tt rfl (wNone rfl) rfl rfl rfl rfl rfl trivial ?_
        refine nNil ?_
        change VO _ _ _ _ _
        obtain ⟨v21, hc8, h⟩ := bind_inv h
        refine oCall (L_toRaise_w N aR_2 v21 hc8) rfl rfl rfl rfl rfl rfl rfl rfl ⟨⟨rfl, rfl, trivial⟩, trivial⟩ ?_
        obtain ⟨v22, hc9, h⟩ := bind_inv h
        refine oCall (S_IsRaise_w N v19 v20 v21 v22 hc9) rfl rfl rfl rfl rfl rfl rfl rfl ⟨⟨rfl, (.inl ⟨rfl, rfl⟩), (.inl ⟨rfl, rfl⟩), trivial⟩, (.inl ⟨rfl, rfl⟩), ⟨rfl, (.inl ⟨rfl, rfl⟩), trivial⟩, trivial⟩ ?_
        refine oVal tt rfl rfl rfl rfl rfl trivial ?_
        refine vNil ?_
        change VC _ _ _ _
        refine vSeq ?_
        refine vRegion ?_
        refine oVal tt rfl rfl rfl rfl rfl trivial ?_
        obtain ⟨v23, hc10, h⟩ := bind_inv h
        refine oCall (L_toPinned_w N aP_0 v23 hc10) rfl rfl rfl rfl rfl rfl rfl rfl ⟨⟨rfl, rfl, rfl, trivial⟩, trivial⟩ ?_
        refine oAlloc tt rfl rfl rfl rfl rfl rfl rfl rfl rfl ?_
        refine oStore tt rfl rfl rfl rfl rfl rfl rfl rfl rfl rfl rfl ⟨trivial, trivial, trivial, trivial⟩ ?_
        refine vNil ?_
        change VC _ _ _ _
        refine vSeq ?_
        refine vRegion ?_
        refine oVal tt rfl rfl rfl rfl rfl trivial ?_
        obtain ⟨v24, hc11, h⟩ := bind_inv h
        refine oCall (L_toIntS_w N aDone_1 v24 hc11) rfl rfl rfl rfl rfl rfl rfl rfl ⟨rfl, trivial⟩ ?_
        refine oVal tt rfl rfl rfl rfl rfl trivial ?_
        refine vNil ?_
        change VC _ _ _ _
        refine vSeq ?_
        refine vRegion ?_
        refine oVal tt rfl rfl rfl rfl rfl trivial ?_
        obtain ⟨v25, hc12, h⟩ := bind_inv h
        refine oCall (L_toRaise_w N aR_2 v25 hc12) rfl rfl rfl rfl rfl rfl rfl rfl ⟨⟨rfl, rfl, trivial⟩, trivial⟩ ?_
        refine oAlloc tt rfl rfl rfl rfl rfl rfl rfl rfl rfl ?_
        refine oStore tt rfl rfl rfl rfl rfl rfl rfl rfl rfl rfl rfl ⟨trivial, trivial, trivial⟩ ?_
        refine vNil ?_
        change VC _ _ _ _
        refine vSeq ?_
        refine vRegion ?_
        iterate 3 refine oVal tt rfl rfl rfl rfl rfl trivial ?_
        obtain ⟨v26, hc13, h⟩ := bind_inv h
        refine oCall (I_IsRaise_w N v23 v24 v25 v26 hc13) rfl rfl rfl rfl rfl rfl rfl rfl ⟨⟨rfl, (.inl ⟨rfl, rfl⟩), (.inl ⟨rfl, rfl⟩), trivial⟩, (.inl ⟨rfl, rfl⟩), ⟨rfl, (.inl ⟨rfl, rfl⟩), trivial⟩, trivial⟩ ?_
        refine oVal tt rfl rfl rfl rfl rfl trivial ?_
        refine vNil ?_
        change VC _ _ _ _
        iterate 2 refine vSeq ?_
        refine vRegion ?_
        iterate 2 refine oVal tt rfl rfl rfl rfl rfl trivial ?_
        refine oPure (wNone rfl) (pNeB Try.underlying4 rfl rfl rfl) rfl rfl ?_
        refine vNil ?_
        change VC _ _ _ _
        refine vCond rfl (fun hb14 => ?_) (fun hb14 => ?_)
        · replace h := cnd_t hb14 h
          refine vSeq ?_
          refine vRegion ?_
          refine oVal tt rfl rfl rfl rfl rfl trivial ?_
          refine vNil ?_
          change VC _ _ _ _
          refine vRet ?_
          change ∃ _, _
          cases h
          exact ⟨[], _, rfl, trivial, rfl, rfl, rfl⟩
        · replace h := cnd_f hb14 h
          refine vSkip ?_
          change VC _ _ _ _
          iterate 2 refine vSeq ?_
          refine vRegionN 3 [2] [0, 0, 2, 7, 15] (by kernel_rfl) (by kernel_rfl) (by kernel_rfl) (by kernel_rfl) (by kernel_rfl) rfl (by rfl) ?_
          iterate 2 refine nVal tt rfl (wNone rfl) rfl rfl rfl rfl rfl trivial ?_
          obtain ⟨v27, hc15, h⟩ := bind_inv h
          refine nCallR (L_toPinned_w N aP_0 v27 hc15) rfl (wNone rfl) rfl rfl rfl rfl rfl rfl rfl rfl (by first | rfl | kernel_rfl | (simp [chkE, nrL, nm, gdst, nmT, rowB, hid, ment, mentA, mentS]; done) | (simp [chkE, nrL, nm, gdst, nmT, rowB, hid, ment, mentA, mentS]; decide)) ⟨⟨rfl, rfl, rfl, trivial⟩, trivial⟩ ?_
          refine nNil ?_
          change VO _ _ _ _ _
          obtain ⟨v28, hc16, h⟩ := bind_inv h
          refine oCall (L_eqPinned_w N v23 v27 v28 hc16) rfl rfl rfl rfl rfl rfl rfl rfl ⟨⟨rfl, (.inl ⟨rfl, rfl⟩), (.inl ⟨rfl, rfl⟩), trivial⟩, ⟨rfl, (.inl ⟨rfl, rfl⟩), (.inl ⟨rfl, rfl⟩), trivial⟩, trivial⟩ ?_
          refine oVal tt rfl rfl rfl rfl rfl trivial ?_
          refine vNil ?_
          change VC _ _ _ _
          refine vCond rfl (fun hb17 => ?_) (fun hb17 => ?_)
          · replace h := cnd_t hb17 h
            refine vSeq ?_
            refine vRegion ?_
            refine oVal tt rfl rfl rfl rfl rfl trivial ?_
            refine vNil ?_
            change VC _ _ _ _
            refine vRet ?_
            change ∃ _, _
            cases h
            exact ⟨[], _, rfl, trivial, rfl, rfl, rfl⟩
          · replace h := cnd_f hb17 h
            refine vSkip ?_
            change VC _ _ _ _
            iterate 2 refine vSeq ?_
            refine vRegion ?_
            iterate 2 refine oVal tt rfl rfl rfl rfl rfl trivial ?_
            obtain ⟨v29, hc18, h⟩ := bind_inv h
            refine oCall (L_toIntS_w N aDone_1 v29 hc18) rfl rfl rfl rfl rfl rfl rfl rfl ⟨rfl, trivial⟩ ?_
            obtain ⟨v30, hc19, h⟩ := bind_inv h
            refine oCall (L_eqIntS_w N v24 v29 v30 hc19) rfl rfl rfl rfl rfl rfl rfl rfl ⟨(.inl ⟨rfl, rfl⟩), (.inl ⟨rfl, rfl⟩), trivial⟩ ?_
            refine oVal tt rfl rfl rfl rfl rfl trivial ?_
            refine vNil ?_
            change VC _ _ _ _
            refine vCond rfl (fun hb20 => ?_) (fun hb20 => ?_)
            · replace h := cnd_t hb20 h
              refine vSeq ?_
              refine vRegion ?_
              refine oVal tt rfl rfl rfl rfl rfl trivial ?_
              refine vNil ?_
              change VC _ _ _ _
              refine vRet ?_
              change ∃ _, _
              cases h
              exact ⟨[], _, rfl, trivial, rfl, rfl, rfl⟩
            · replace h := cnd_f hb20 h
              refine vSkip ?_
              change VC _ _ _ _
              iterate 2 refine vSeq ?_
              refine vRegionN 3 [2] [0, 0, 2, 7, 15] (by kernel_rfl) (by kernel_rfl) (by kernel_rfl) (by kernel_rfl) (by kernel_rfl) rfl (by rfl) ?_
              iterate 2 refine nVal tt rfl (wNone rfl) rfl rfl rfl rfl rfl trivial ?_
              obtain ⟨v31, hc21, h⟩ := bind_inv h
              refine nCallR (L_toRaise_w N aR_2 v31 hc21) rfl (wNone rfl) rfl rfl rfl rfl rfl rfl rfl rfl (by first | rfl | kernel_rfl | (simp [chkE, nrL, nm, gdst, nmT, rowB, hid, ment, mentA, mentS]; done) | (simp [chkE, nrL, nm, gdst, nmT, rowB, hid, ment, mentA, mentS]; decide)) ⟨⟨rfl, rfl, trivial⟩, trivial⟩ ?_
              refine nNil ?_
              change VO _ _ _ _ _
              obtain ⟨v32, hc22, h⟩ := bind_inv h
              refine oCall (L_eqRaise_w N v25 v31 v32 hc22) rfl rfl rfl rfl rfl rfl rfl rfl ⟨⟨rfl, (.inl ⟨rfl, rfl⟩), trivial⟩, ⟨rfl, (.inl ⟨rfl, rfl⟩), trivial⟩, trivial⟩ ?_
              refine oVal tt rfl rfl rfl rfl rfl trivial ?_
              refine vNil ?_
              change VC _ _ _ _
              refine vCond rfl (fun hb23 => ?_) (fun hb23 => ?_)
              · replace h := cnd_t hb23 h
                refine vSeq ?_
                refine vRegion ?_
                refine oVal tt rfl rfl rfl rfl rfl trivial ?_
                refine vNil ?_
                change VC _ _ _ _
                refine vRet ?_
                change ∃ _, _
                cases h
                exact ⟨[], _, rfl, trivial, rfl, rfl, rfl⟩
              · replace h := cnd_f hb23 h
                refine vSkip ?_
                change VC _ _ _ _
                refine vSeq ?_
                refine vRegion ?_
                refine oVal tt rfl rfl rfl rfl rfl trivial ?_
                refine vNil ?_
                change VC _ _ _ _
                refine vRet ?_
                change ∃ _, _
                cases h
                exact ⟨[], _, rfl, trivial, rfl, rfl, rfl⟩
end Go.Proofs.Ytlmlfbjcpajinaa
