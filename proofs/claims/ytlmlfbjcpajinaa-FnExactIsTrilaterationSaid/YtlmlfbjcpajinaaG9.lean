/- Plain texts of functions, and that the program computes them (printed by gen.py). -/
import Derived.Test.YtlmlfbjcpajinaaShb
import Derived.Test.YtlmlfbjcpajinaaG1
import Derived.Test.YtlmlfbjcpajinaaG2
import Derived.Test.YtlmlfbjcpajinaaG4
import Derived.Test.YtlmlfbjcpajinaaG5
import Derived.Test.YtlmlfbjcpajinaaG6
import Derived.Test.YtlmlfbjcpajinaaG8
namespace Go.Proofs.Ytlmlfbjcpajinaa
open Go.RowKit
set_option linter.unusedVariables false
set_option linter.unusedSimpArgs false
def L_FnExactIsTrilateration (N : Nat) (aG_0 : Grf) (aAnchors_1 : List Int) : Option (Bool) :=
  cnd (decide ((aAnchors_1.length : Int) > (1048576 : Int))) (
    some true) (
    (L_szGraph N aG_0 (1048576 : Int)).bind fun v12 =>
    cnd (decide (v12 < (0 : Int))) (
      some true) (
      (L_toGraph N aG_0).bind fun v13 =>
      (L_toIntS N aAnchors_1).bind fun v14 =>
      (S_IsTrilateration N v13 v14).bind fun v15 =>
      (L_toGraph N aG_0).bind fun v16 =>
      (L_toIntS N aAnchors_1).bind fun v17 =>
      (I_IsTrilateration N v16 v17).bind fun v18 =>
      cnd (v18 != v15) (
        some false) (
        (L_toGraph N aG_0).bind fun v19 =>
        (L_eqGraph N v16 v19).bind fun v20 =>
        cnd (!v20) (
          some false) (
          (L_toIntS N aAnchors_1).bind fun v21 =>
          (L_eqIntS N v17 v21).bind fun v22 =>
          cnd (!v22) (
            some false) (
            some true)))))
set_option maxRecDepth 20000 in
set_option maxHeartbeats 1600000 in
theorem L_FnExactIsTrilateration_w (N : Nat) (aG_0 : Grf) (aAnchors_1 : List Int) (r : Bool) (h : L_FnExactIsTrilateration N aG_0 aAnchors_1 = some r) : PCall Try.prog 6 [gD aG_0, .ro false (.ints aAnchors_1)] [] (.bool r) := by
  unfold L_FnExactIsTrilateration at h
  refine pcall_intro (TT := TT) tt Try.func6 rfl rfl Try.ntmps6 (congrArg Array.toList Try.results6) rfl rfl fun w0 => ?_
  refine vSeq ?_
  refine vRegion ?_
  refine oBox rfl rfl rfl rfl rfl rfl rfl rfl rfl ?_
  refine oVal tt rfl rfl rfl rfl rfl trivial ?_
  refine vNil ?_
  change VC _ _ _ _
  iterate 2 refine vSeq ?_
  refine vRegion ?_
  iterate 3 refine oVal tt rfl rfl rfl rfl rfl trivial ?_
  refine vNil ?_
  change VC _ _ _ _
  refine vCond rfl (fun hb1 => ?_) (fun hb1 => ?_)
  · replace h := cnd_t hb1 h
    refine vSeq ?_
    refine vRegion ?_
    refine oVal tt rfl rfl rfl rfl rfl trivial ?_
    refine vNil ?_
    change VC _ _ _ _
    refine vRet ?_
    change ∃ _, _
    cases h
    exact ⟨[], _, rfl, trivial, rfl, rfl, rfl⟩
  · replace h := cnd_f hb1 h
    refine vSkip ?_
    change VC _ _ _ _
    refine vSeq ?_
    refine vRegion ?_
    refine oVal tt rfl rfl rfl rfl rfl trivial ?_
    refine vNil ?_
    change VC _ _ _ _
    refine vSeq ?_
    refine vRegion ?_
    iterate 2 refine oVal tt rfl rfl rfl rfl rfl trivial ?_
    obtain ⟨v12, hc2, h⟩ := bind_inv h
    refine oCall (L_szGraph_w N aG_0 (1048576 : Int) v12 hc2) rfl rfl rfl rfl rfl rfl rfl rfl ⟨⟨rfl, rfl, trivial⟩, rfl, trivial⟩ ?_
    refine oVal tt rfl rfl rfl rfl rfl trivial ?_
    refine vNil ?_
    change VC _ _ _ _
    iterate 2 refine vSeq ?_
    refine vRegion ?_
    iterate 2 refine oVal tt rfl rfl rfl rfl rfl trivial ?_
    refine vNil ?_
    change VC _ _ _ _
    refine vCond rfl (fun hb3 => ?_) (fun hb3 => ?_)
    · replace h := cnd_t hb3 h
      refine vSeq ?_
      refine vRegion ?_
      refine oVal tt rfl rfl rfl rfl rfl trivial ?_
      refine vNil ?_
      change VC _ _ _ _
      refine vRet ?_
      change ∃ _, _
      cases h
      exact ⟨[], _, rfl, trivial, rfl, rfl, rfl⟩
    · replace h := cnd_f hb3 h
      refine vSkip ?_
      change VC _ _ _ _
      refine vSeq ?_
      refine vRegion ?_
      refine oVal tt rfl rfl rfl rfl rfl trivial ?_
      obtain ⟨v13, hc4, h⟩ := bind_inv h
      refine oCall (L_toGraph_w N aG_0 v13 hc4) rfl rfl rfl rfl rfl rfl rfl rfl ⟨⟨rfl, rfl, trivial⟩, trivial⟩ ?_
      refine oVal tt rfl rfl rfl rfl rfl trivial ?_
      obtain ⟨v14, hc5, h⟩ := bind_inv h
      refine oCall (L_toIntS_w N aAnchors_1 v14 hc5) rfl rfl rfl rfl rfl rfl rfl rfl ⟨rfl, trivial⟩ ?_
      obtain ⟨v15, hc6, h⟩ := bind_inv h
      refine oCall (S_IsTrilateration_w N v13 v14 v15 hc6) rfl rfl rfl rfl rfl rfl rfl rfl ⟨⟨rfl, (.inl ⟨rfl, rfl⟩), trivial⟩, (.inl ⟨rfl, rfl⟩), trivial⟩ ?_
      refine oVal tt rfl rfl rfl rfl rfl trivial ?_
      refine vNil ?_
      change VC _ _ _ _
      refine vSeq ?_
      refine vRegion ?_
      refine oVal tt rfl rfl rfl rfl rfl trivial ?_
      obtain ⟨v16, hc7, h⟩ := bind_inv h
      refine oCall (L_toGraph_w N aG_0 v16 hc7) rfl rfl rfl rfl rfl rfl rfl rfl ⟨⟨rfl, rfl, trivial⟩, trivial⟩ ?_
      refine oAlloc tt rfl rfl rfl rfl rfl rfl rfl rfl rfl ?_
      refine oStore tt rfl rfl rfl rfl rfl rfl rfl rfl rfl rfl rfl ⟨trivial, trivial, trivial⟩ ?_
      refine vNil ?_
      change VC _ _ _ _
      refine vSeq ?_
      refine vRegion ?_
      refine oVal tt rfl rfl rfl rfl rfl trivial ?_
      obtain ⟨v17, hc8, h⟩ := bind_inv h
      refine oCall (L_toIntS_w N aAnchors_1 v17 hc8) rfl rfl rfl rfl rfl rfl rfl rfl ⟨rfl, trivial⟩ ?_
      refine oVal tt rfl rfl rfl rfl rfl trivial ?_
      refine vNil ?_
      change VC _ _ _ _
      refine vSeq ?_
      refine vRegion ?_
      iterate 2 refine oVal tt rfl rfl rfl rfl rfl trivial ?_
      obtain ⟨v18, hc9, h⟩ := bind_inv h
      refine oCall (I_IsTrilateration_w N v16 v17 v18 hc9) rfl rfl rfl rfl rfl rfl rfl rfl ⟨⟨rfl, (.inl ⟨rfl, rfl⟩), trivial⟩, (.inl ⟨rfl, rfl⟩), trivial⟩ ?_
      refine oVal tt rfl rfl rfl rfl rfl trivial ?_
      refine vNil ?_
      change VC _ _ _ _
      iterate 2 refine vSeq ?_
      refine vRegion ?_
      iterate 2 refine oVal tt rfl rfl rfl rfl rfl trivial ?_
      refine oPure (wNone rfl) (pNeB Try.underlying4 rfl rfl rfl) rfl rfl ?_
      refine vNil ?_
      change VC _ _ _ _
      refine vCond rfl (fun hb10 => ?_) (fun hb10 => ?_)
      · replace h := cnd_t hb10 h
        refine vSeq ?_
        refine vRegion ?_
        refine oVal tt rfl rfl rfl rfl rfl trivial ?_
        refine vNil ?_
        change VC _ _ _ _
        refine vRet ?_
        change ∃ _, _
        cases h
        exact ⟨[], _, rfl, trivial, rfl, rfl, rfl⟩
      · replace h := cnd_f hb10 h
        refine vSkip ?_
        change VC _ _ _ _
        iterate 2 refine vSeq ?_
        refine vRegionN 3 [2] [0, 0, 2, 7, 15] (by kernel_rfl) (by kernel_rfl) (by kernel_rfl) (by kernel_rfl) (by kernel_rfl) rfl (by rfl) ?_
        iterate 2 refine nVal tt rfl (wNone rfl) rfl rfl rfl rfl rfl trivial ?_
        obtain ⟨v19, hc11, h⟩ := bind_inv h
        refine nCallR (L_toGraph_w N aG_0 v19 hc11) rfl (wNone rfl) rfl rfl rfl rfl rfl rfl rfl rfl (by first | rfl | kernel_rfl | (simp [chkE, nrL, nm, gdst, nmT, rowB, hid, ment, mentA, mentS]; done) | (simp [chkE, nrL, nm, gdst, nmT, rowB, hid, ment, mentA, mentS]; decide)) ⟨⟨rfl, rfl, trivial⟩, trivial⟩ ?_
        refine nNil ?_
        change VO _ _ _ _ _
        obtain ⟨v20, hc12, h⟩ := bind_inv h
        refine oCall (L_eqGraph_w N v16 v19 v20 hc12) rfl rfl rfl rfl rfl rfl rfl rfl ⟨⟨rfl, (.inl ⟨rfl, rfl⟩), trivial⟩, ⟨rfl, (.inl ⟨rfl, rfl⟩), trivial⟩, trivial⟩ ?_
        refine oVal tt rfl rfl rfl rfl rfl trivial ?_
        refine vNil ?_
        change VC _ _ _ _
        refine vCond rfl (fun hb13 => ?_) (fun hb13 => ?_)
        · replace h := cnd_t hb13 h
          refine vSeq ?_
          refine vRegion ?_
          refine oVal tt rfl rfl rfl rfl rfl trivial ?_
          refine vNil ?_
          change VC _ _ _ _
          refine vRet ?_
          change ∃ _, _
          cases h
          exact ⟨[], _, rfl, trivial, rfl, rfl, rfl⟩
        · replace h := cnd_f hb13 h
          refine vSkip ?_
          change VC _ _ _ _
          iterate 2 refine vSeq ?_
          refine vRegion ?_
          iterate 2 refine oVal tt rfl rfl rfl rfl rfl trivial ?_
          obtain ⟨v21, hc14, h⟩ := bind_inv h
          refine oCall (L_toIntS_w N aAnchors_1 v21 hc14) rfl rfl rfl rfl rfl rfl rfl rfl ⟨rfl, trivial⟩ ?_
          obtain ⟨v22, hc15, h⟩ := bind_inv h
          refine oCall (L_eqIntS_w N v17 v21 v22 hc15) rfl rfl rfl rfl rfl rfl rfl rfl ⟨(.inl ⟨rfl, rfl⟩), (.inl ⟨rfl, rfl⟩), trivial⟩ ?_
          refine oVal tt rfl rfl rfl rfl rfl trivial ?_
          refine vNil ?_
          change VC _ _ _ _
          refine vCond rfl (fun hb16 => ?_) (fun hb16 => ?_)
          · replace h := cnd_t hb16 h
            refine vSeq ?_
            refine vRegion ?_
            refine oVal tt rfl rfl rfl rfl rfl trivial ?_
            refine vNil ?_
            change VC _ _ _ _
            refine vRet ?_
            change ∃ _, _
            cases h
            exact ⟨[], _, rfl, trivial, rfl, rfl, rfl⟩
          · replace h := cnd_f hb16 h
            refine vSkip ?_
            change VC _ _ _ _
            refine vSeq ?_
            refine vRegion ?_
            refine oVal tt rfl rfl rfl rfl rfl trivial ?_
            refine vNil ?_
            change VC _ _ _ _
            refine vRet ?_
            change ∃ _, _
            cases h
            exact ⟨[], _, rfl, trivial, rfl, rfl, rfl⟩
end Go.Proofs.Ytlmlfbjcpajinaa
