/- Plain texts of functions, and that the program computes them (printed by gen.py). -/
import Derived.Test.YtlmlfbjcpajinaaShb
import Derived.Test.YtlmlfbjcpajinaaG1
import Derived.Test.YtlmlfbjcpajinaaG2
import Derived.Test.YtlmlfbjcpajinaaG3
import Derived.Test.YtlmlfbjcpajinaaG4
import Derived.Test.YtlmlfbjcpajinaaG5
import Derived.Test.YtlmlfbjcpajinaaG6
import Derived.Test.YtlmlfbjcpajinaaG7
import Derived.Test.YtlmlfbjcpajinaaG8
import Derived.Test.YtlmlfbjcpajinaaG24
namespace Go.Proofs.Ytlmlfbjcpajinaa
open Go.RowKit
set_option linter.unusedVariables false
set_option linter.unusedSimpArgs false
def L_FnExactTrilaterationOrder (N : Nat) (aG_0 : Grf) (aAnchors_1 : List Int) : Option (Bool) :=
  cnd (decide ((aAnchors_1.length : Int) > (1048576 : Int))) (
    some true) (
    (L_szGraph N aG_0 (1048576 : Int)).bind fun v23 =>
    cnd (decide (v23 < (0 : Int))) (
      some true) (
      (L_toGraph N aG_0).bind fun v24 =>
      (L_toIntS N aAnchors_1).bind fun v25 =>
      (S_TrilaterationOrder N v24 v25).bind fun v26 =>
      (L_toGraph N aG_0).bind fun v27 =>
      (L_toIntS N aAnchors_1).bind fun v28 =>
      (I_TrilaterationOrder N v27 v28).bind fun v29 =>
      (L_eqIntS N v29 v26).bind fun v30 =>
      cnd (!v30) (
        some false) (
        (L_toGraph N aG_0).bind fun v31 =>
        (L_eqGraph N v27 v31).bind fun v32 =>
        cnd (!v32) (
          some false) (
          (L_toIntS N aAnchors_1).bind fun v33 =>
          (L_eqIntS N v28 v33).bind fun v34 =>
          cnd (!v34) (
            some false) (
            (L_markGraph N (⟨v27.n, v27.bars⟩ : Grf) (1 : Int)).bind fun v35 =>
            (L_markIntS N v28 v35.1).bind fun v36 =>
            cnd (decide (v36.1 < (0 : Int))) (
              some false) (
              (L_eqIntS N v29 v26).bind fun v37 =>
              cnd (!v37) (
                some false) (
                (L_markIntS N v29 (1 : Int)).bind fun v38 =>
                grd (v29.length = v38.2.length) <|
                (L_heldIntS N v38.2 (1 : Int)).bind fun v39 =>
                cnd (decide (v39 < (0 : Int))) (
                  some false) (
                  cnd (v39 != v38.1) (
                    some false) (
                    (L_toGraph N aG_0).bind fun v40 =>
                    (L_toIntS N aAnchors_1).bind fun v41 =>
                    (I_TrilaterationOrder N v40 v41).bind fun v42 =>
                    (L_eqIntS N v42 v26).bind fun v43 =>
                    cnd (!v43) (
                      some false) (
                      (L_heldIntS N v38.2 (1 : Int)).bind fun v44 =>
                      cnd (decide (v44 < (0 : Int))) (
                        some false) (
                        cnd (v44 != v38.1) (
                          some false) (
                          some true))))))))))))
set_option maxRecDepth 20000 in
set_option maxHeartbeats 1600000 in
theorem L_FnExactTrilaterationOrder_w (N : Nat) (aG_0 : Grf) (aAnchors_1 : List Int) (r : Bool) (h : L_FnExactTrilaterationOrder N aG_0 aAnchors_1 = some r) : PCall Try.prog 7 [gD aG_0, .ro false (.ints aAnchors_1)] [] (.bool r) := by
  unfold L_FnExactTrilaterationOrder at h
  refine pcall_intro (TT := TT) tt Try.func7 rfl rfl Try.ntmps7 (congrArg Array.toList Try.results7) rfl rfl fun w0 => ?_
  refine vSeq ?_
  refine vRegion ?_
  refine oBox rfl rfl rfl rfl rfl rfl rfl rfl rfl ?_
  refine oVal tt rfl rfl rfl rfl rfl trivial ?_
  refine vNil ?_
  change VC _ _ _ _
  iterate 2 refine vSeq ?_
  refine vRegion ?_
  iterate 3 refine oVal tt rfl rfl rfl rfl rfl trivial ?_
  refine vNil ?_
  change VC _ _ _ _
  refine vCond rfl (fun hb1 => ?_) (fun hb1 => ?_)
  · replace h := cnd_t hb1 h
    refine vSeq ?_
    refine vRegion ?_
    refine oVal tt rfl rfl rfl rfl rfl trivial ?_
    refine vNil ?_
    change VC _ _ _ _
    refine vRet ?_
    change ∃ _, _
    cases h
    exact ⟨[], _, rfl, trivial, rfl, rfl, rfl⟩
  · replace h := cnd_f hb1 h
    refine vSkip ?_
    change VC _ _ _ _
    refine vSeq ?_
    refine vRegion ?_
    refine oVal tt rfl rfl rfl rfl rfl trivial ?_
    refine vNil ?_
    change VC _ _ _ _
    refine vSeq ?_
    refine vRegion ?_
    iterate 2 refine oVal tt rfl rfl rfl rfl rfl trivial ?_
    obtain ⟨v23, hc2, h⟩ := bind_inv h
    refine oCall (L_szGraph_w N aG_0 (1048576 : Int) v23 hc2) rfl rfl rfl rfl rfl rfl rfl rfl ⟨⟨rfl, rfl, trivial⟩, rfl, trivial⟩ ?_
    refine oVal tt rfl rfl rfl rfl rfl trivial ?_
    refine vNil ?_
    change VC _ _ _ _
    iterate 2 refine vSeq ?_
    refine vRegion ?_
    iterate 2 refine oVal tt rfl rfl rfl rfl rfl trivial ?_
    refine vNil ?_
    change VC _ _ _ _
    refine vCond rfl (fun hb3 => ?_) (fun hb3 => ?_)
    · replace h := cnd_t hb3 h
      refine vSeq ?_
      refine vRegion ?_
      refine oVal tt rfl rfl rfl rfl rfl trivial ?_
      refine vNil ?_
      change VC _ _ _ _
      refine vRet ?_
      change ∃ _, _
      cases h
      exact ⟨[], _, rfl, trivial, rfl, rfl, rfl⟩
    · replace h := cnd_f hb3 h
      refine vSkip ?_
      change VC _ _ _ _
      refine vSeq ?_
      refine vRegion ?_
      refine oVal tt rfl rfl rfl rfl rfl trivial ?_
      obtain ⟨v24, hc4, h⟩ := bind_inv h
      refine oCall (L_toGraph_w N aG_0 v24 hc4) rfl rfl rfl rfl rfl rfl rfl rfl ⟨⟨rfl, rfl, trivial⟩, trivial⟩ ?_
      refine oVal tt rfl rfl rfl rfl rfl trivial ?_
      obtain ⟨v25, hc5, h⟩ := bind_inv h
      refine oCall (L_toIntS_w N aAnchors_1 v25 hc5) rfl rfl rfl rfl rfl rfl rfl rfl ⟨rfl, trivial⟩ ?_
      obtain ⟨v26, hc6, h⟩ := bind_inv h
      refine oCall (S_TrilaterationOrder_w N v24 v25 v26 hc6) rfl rfl rfl rfl rfl rfl rfl rfl ⟨⟨rfl, (.inl ⟨rfl, rfl⟩), trivial⟩, (.inl ⟨rfl, rfl⟩), trivial⟩ ?_
      refine oVal tt rfl rfl rfl rfl rfl trivial ?_
      refine vNil ?_
      change VC _ _ _ _
      refine vSeq ?_
      refine vRegion ?_
      refine oVal tt rfl rfl rfl rfl rfl trivial ?_
      obtain ⟨v27, hc7, h⟩ := bind_inv h
      refine oCall (L_toGraph_w N aG_0 v27 hc7) rfl rfl rfl rfl rfl rfl rfl rfl ⟨⟨rfl, rfl, trivial⟩, trivial⟩ ?_
      refine oAlloc tt rfl rfl rfl rfl rfl rfl rfl rfl rfl ?_
      refine oStore tt rfl rfl rfl rfl rfl rfl rfl rfl rfl rfl rfl ⟨trivial, trivial, trivial⟩ ?_
      refine vNil ?_
      change VC _ _ _ _
      refine vSeq ?_
      refine vRegion ?_
      refine oVal tt rfl rfl rfl rfl rfl trivial ?_
      obtain ⟨v28, hc8, h⟩ := bind_inv h
      refine oCall (L_toIntS_w N aAnchors_1 v28 hc8) rfl rfl rfl rfl rfl rfl rfl rfl ⟨rfl, trivial⟩ ?_
      refine oVal tt rfl rfl rfl rfl rfl trivial ?_
      refine vNil ?_
      change VC _ _ _ _
      refine vSeq ?_
      refine vRegion ?_
      iterate 2 refine oVal tt rfl rfl rfl rfl rfl trivial ?_
      obtain ⟨v29, hc9, h⟩ := bind_inv h
      refine oCall (I_TrilaterationOrder_w N v27 v28 v29 hc9) rfl rfl rfl rfl rfl rfl rfl rfl ⟨⟨rfl, (.inl ⟨rfl, rfl⟩), trivial⟩, (.inl ⟨rfl, rfl⟩), trivial⟩ ?_
      refine oVal tt rfl rfl rfl rfl rfl trivial ?_
      refine vNil ?_
      change VC _ _ _ _
      iterate 2 refine vSeq ?_
      refine vRegion ?_
      iterate 2 refine oVal tt rfl rfl rfl rfl rfl trivial ?_
      obtain ⟨v30, hc10, h⟩ := bind_inv h
      refine oCall (L_eqIntS_w N v29 v26 v30 hc10) rfl rfl rfl rfl rfl rfl rfl rfl ⟨(.inl ⟨rfl, rfl⟩), (.inl ⟨rfl, rfl⟩), trivial⟩ ?_
      refine oVal tt rfl rfl rfl rfl rfl trivial ?_
      refine vNil ?_
      change VC _ _ _ _
      refine vCond rfl (fun hb11 => ?_) (fun hb11 => ?_)
      · replace h := cnd_t hb11 h
        refine vSeq ?_
        refine vRegion ?_
        refine oVal tt rfl rfl rfl rfl rfl trivial ?_
        refine vNil ?_
        change VC _ _ _ _
        refine vRet ?_
        change ∃ _, _
        cases h
        exact ⟨[], _, rfl, trivial, rfl, rfl, rfl⟩
      · replace h := cnd_f hb11 h
        refine vSkip ?_
        change VC _ _ _ _
        iterate 2 refine vSeq ?_
        refine vRegionN 3 [2] [0, 0, 2, 7, 15] (by kernel_rfl) (by kernel_rfl) (by kernel_rfl) (by kernel_rfl) (by kernel_rfl) rfl (by rfl) ?_
        iterate 2 refine nVal tt rfl (wNone rfl) rfl rfl rfl rfl rfl trivial ?_
        obtain ⟨v31, hc12, h⟩ := bind_inv h
        refine nCallR (L_toGraph_w N aG_0 v31 hc12) rfl (wNone rfl) rfl rfl rfl rfl rfl rfl rfl rfl (by first | rfl | kernel_rfl | (simp [chkE, nrL, nm, gdst, nmT, rowB, hid, ment, mentA, mentS]; done) | (simp [chkE, nrL, nm, gdst, nmT, rowB, hid, ment, mentA, mentS]; decide)) ⟨⟨rfl, rfl, trivial⟩, trivial⟩ ?_
        refine nNil ?_
        change VO _ _ _ _ _
        obtain ⟨v32, hc13, h⟩ := bind_inv h
        refine oCall (L_eqGraph_w N v27 v31 v32 hc13) rfl rfl rfl rfl rfl rfl rfl rfl ⟨⟨rfl, (.inl ⟨rfl, rfl⟩), trivial⟩, ⟨rfl, (.inl ⟨rfl, rfl⟩), trivial⟩, trivial⟩ ?_
        refine oVal tt rfl rfl rfl rfl rfl trivial ?_
        refine vNil ?_
        change VC _ _ _ _
        refine vCond rfl (fun hb14 => ?_) (fun hb14 => ?_)
        · replace h := cnd_t hb14 h
          refine vSeq ?_
          refine vRegion ?_
          refine oVal tt rfl rfl rfl rfl rfl trivial ?_
          refine vNil ?_
          change VC _ _ _ _
          refine vRet ?_
          change ∃ _, _
          cases h
          exact ⟨[], _, rfl, trivial, rfl, rfl, rfl⟩
        · replace h := cnd_f hb14 h
          refine vSkip ?_
          change VC _ _ _ _
          iterate 2 refine vSeq ?_
          refine vRegion ?_
          iterate 2 refine oVal tt rfl rfl rfl rfl rfl trivial ?_
          obtain ⟨v33, hc15, h⟩ := bind_inv h
          refine oCall (L_toIntS_w N aAnchors_1 v33 hc15) rfl rfl rfl rfl rfl rfl rfl rfl ⟨rfl, trivial⟩ ?_
          obtain ⟨v34, hc16, h⟩ := bind_inv h
          refine oCall (L_eqIntS_w N v28 v33 v34 hc16) rfl rfl rfl rfl rfl rfl rfl rfl ⟨(.inl ⟨rfl, rfl⟩), (.inl ⟨rfl, rfl⟩), trivial⟩ ?_
          refine oVal tt rfl rfl rfl rfl rfl trivial ?_
          refine vNil ?_
          change VC _ _ _ _
          refine vCond rfl (fun hb17 => ?_) (fun hb17 => ?_)
          · replace h := cnd_t hb17 h
            refine vSeq ?_
            refine vRegion ?_
            refine oVal tt rfl rfl rfl rfl rfl trivial ?_
            refine vNil ?_
            change VC _ _ _ _
            refine vRet ?_
            change ∃ _, _
            cases h
            exact ⟨[], _, rfl, trivial, rfl, rfl, rfl⟩
          · replace h := cnd_f hb17 h
            refine vSkip ?_
            change VC _ _ _ _
            refine vSeq ?_
            refine vRegion ?_
            refine oVal tt rfl rfl rfl rfl rfl trivial ?_
            refine vNil ?_
            change VC _ _ _ _
            refine vSeq ?_
            refine vRegion ?_
            iterate 2 refine oVal tt rfl rfl rfl rfl rfl trivial ?_
            obtain ⟨v35, hc18, h⟩ := bind_inv h
            refine oMCall (L_markGraph_w N (⟨v27.n, v27.bars⟩ : Grf) (1 : Int) v35 hc18) [1280] [] [1280] rfl rfl rfl rfl rfl rfl ⟨rfl, trivial⟩ trivial ⟨⟨⟨rfl, rfl⟩, ⟨rfl, rfl⟩, trivial⟩, ⟨rfl, rfl⟩, trivial⟩ ?_
            refine oVal tt rfl rfl rfl rfl rfl trivial ?_
            refine vNil ?_
            change VC _ _ _ _
            refine vSeq ?_
            refine vRegion ?_
            iterate 2 refine oVal tt rfl rfl rfl rfl rfl trivial ?_
            obtain ⟨v36, hc19, h⟩ := bind_inv h
            refine oMCall (L_markIntS_w N v28 v35.1 v36 hc19) [1300] [] [1300] rfl rfl rfl rfl rfl rfl ⟨rfl, trivial⟩ trivial ⟨⟨rfl, rfl⟩, ⟨rfl, rfl⟩, trivial⟩ ?_
            refine oVal tt rfl rfl rfl rfl rfl trivial ?_
            refine vNil ?_
            change VC _ _ _ _
            iterate 2 refine vSeq ?_
            refine vRegion ?_
            iterate 3 refine oVal tt rfl rfl rfl rfl rfl trivial ?_
            refine oSplit rfl rfl rfl (fun hb20 => ?_) (fun hb20 => ?_)
            · replace h := cnd_t hb20 h
              iterate 4 refine oNoF rfl rfl rfl rfl hb20 rfl rfl ?_
              refine oPick rfl rfl rfl rfl rfl hb20 rfl ?_
              refine vNil ?_
              change VC _ _ _ _
              refine vCondT rfl rfl ?_
              refine vSeq ?_
              refine vRegion ?_
              refine oVal tt rfl rfl rfl rfl rfl trivial ?_
              refine vNil ?_
              change VC _ _ _ _
              refine vRet ?_
              change ∃ _, _
              cases h
              exact ⟨[], _, rfl, trivial, rfl, rfl, rfl⟩
            · replace h := cnd_f hb20 h
              iterate 2 refine oValG tt rfl rfl rfl rfl rfl hb20 rfl rfl rfl trivial ?_
              obtain ⟨v37, hc21, h⟩ := bind_inv h
              refine oCallG (L_eqIntS_w N v29 v26 v37 hc21) rfl rfl rfl rfl hb20 rfl rfl rfl rfl rfl rfl rfl ⟨(.inl ⟨rfl, rfl⟩), (.inl ⟨rfl, rfl⟩), trivial⟩ ?_
              refine oValG tt rfl rfl rfl rfl rfl hb20 rfl rfl rfl trivial ?_
              refine oPickF rfl rfl rfl rfl rfl hb20 rfl ?_
              refine vNil ?_
              change VC _ _ _ _
              refine vCond rfl (fun hb22 => ?_) (fun hb22 => ?_)
              · replace h := cnd_t hb22 h
                refine vSeq ?_
                refine vRegion ?_
                refine oVal tt rfl rfl rfl rfl rfl trivial ?_
                refine vNil ?_
                change VC _ _ _ _
                refine vRet ?_
                change ∃ _, _
                cases h
                exact ⟨[], _, rfl, trivial, rfl, rfl, rfl⟩
              · replace h := cnd_f hb22 h
                refine vSkip ?_
                change VC _ _ _ _
                refine vSeq ?_
                refine vRegion ?_
                refine oVal tt rfl rfl rfl rfl rfl trivial ?_
                refine vNil ?_
                change VC _ _ _ _
                refine vSeq ?_
                refine vRegion ?_
                iterate 2 refine oVal tt rfl rfl rfl rfl rfl trivial ?_
                obtain ⟨v38, hc23, h⟩ := bind_inv h
                refine oMCall (L_markIntS_w N v29 (1 : Int) v38 hc23) [1330] [] [1330] rfl rfl rfl rfl rfl rfl ⟨rfl, trivial⟩ trivial ⟨⟨rfl, rfl⟩, ⟨rfl, rfl⟩, trivial⟩ ?_
                refine oVal tt rfl rfl rfl rfl rfl trivial ?_
                refine vNil ?_
                change VC _ _ _ _
                refine vSeq ?_
                refine vRegion ?_
                refine oVal tt rfl rfl rfl rfl rfl trivial ?_
                refine vNil ?_
                change VC _ _ _ _
                refine vSeq ?_
                refine vRegion ?_
                iterate 2 refine oVal tt rfl rfl rfl rfl rfl trivial ?_
                obtain ⟨hg24, h⟩ := grd_inv h
                obtain ⟨v39, hc25, h⟩ := bind_inv h
                refine oCall (L_heldIntS_w N v38.2 (1 : Int) v39 hc25) rfl rfl rfl rfl rfl rfl rfl rfl ⟨(.inl ⟨hg24, rfl⟩), rfl, trivial⟩ ?_
                refine oVal tt rfl rfl rfl rfl rfl trivial ?_
                refine vNil ?_
                change VC _ _ _ _
                iterate 2 refine vSeq ?_
                refine vRegion ?_
                iterate 2 refine oVal tt rfl rfl rfl rfl rfl trivial ?_
                refine vNil ?_
                change VC _ _ _ _
                refine vCond rfl (fun hb26 => ?_) (fun hb26 => ?_)
                · replace h := cnd_t hb26 h
                  refine vSeq ?_
                  refine vRegion ?_
                  refine oVal tt rfl rfl rfl rfl rfl trivial ?_
                  refine vNil ?_
                  change VC _ _ _ _
                  refine vRet ?_
                  change ∃ _, _
                  cases h
                  exact ⟨[], _, rfl, trivial, rfl, rfl, rfl⟩
                · replace h := cnd_f hb26 h
                  refine vSkip ?_
                  change VC _ _ _ _
                  iterate 2 refine vSeq ?_
                  refine vRegion ?_
                  iterate 3 refine oVal tt rfl rfl rfl rfl rfl trivial ?_
                  refine vNil ?_
                  change VC _ _ _ _
                  refine vCond rfl (fun hb27 => ?_) (fun hb27 => ?_)
                  · replace h := cnd_t hb27 h
                    refine vSeq ?_
                    refine vRegion ?_
                    refine oVal tt rfl rfl rfl rfl rfl trivial ?_
                    refine vNil ?_
                    change VC _ _ _ _
                    refine vRet ?_
                    change ∃ _, _
                    cases h
                    exact ⟨[], _, rfl, trivial, rfl, rfl, rfl⟩
                  · replace h := cnd_f hb27 h
                    refine vSkip ?_
                    change VC _ _ _ _
                    refine vSeq ?_
                    refine vRegion ?_
                    refine oVal tt rfl rfl rfl rfl rfl trivial ?_
                    obtain ⟨v40, hc28, h⟩ := bind_inv h
                    refine oCall (L_toGraph_w N aG_0 v40 hc28) rfl rfl rfl rfl rfl rfl rfl rfl ⟨⟨rfl, rfl, trivial⟩, trivial⟩ ?_
                    refine oVal tt rfl rfl rfl rfl rfl trivial ?_
                    obtain ⟨v41, hc29, h⟩ := bind_inv h
                    refine oCall (L_toIntS_w N aAnchors_1 v41 hc29) rfl rfl rfl rfl rfl rfl rfl rfl ⟨rfl, trivial⟩ ?_
                    obtain ⟨v42, hc30, h⟩ := bind_inv h
                    refine oCall (I_TrilaterationOrder_w N v40 v41 v42 hc30) rfl rfl rfl rfl rfl rfl rfl rfl ⟨⟨rfl, (.inl ⟨rfl, rfl⟩), trivial⟩, (.inl ⟨rfl, rfl⟩), trivial⟩ ?_
                    refine oVal tt rfl rfl rfl rfl rfl trivial ?_
                    refine vNil ?_
                    change VC _ _ _ _
                    iterate 2 refine vSeq ?_
                    refine vRegion ?_
                    iterate 2 refine oVal tt rfl rfl rfl rfl rfl trivial ?_
                    obtain ⟨v43, hc31, h⟩ := bind_inv h
                    refine oCall (L_eqIntS_w N v42 v26 v43 hc31) rfl rfl rfl rfl rfl rfl rfl rfl ⟨(.inl ⟨rfl, rfl⟩), (.inl ⟨rfl, rfl⟩), trivial⟩ ?_
                    refine oVal tt rfl rfl rfl rfl rfl trivial ?_
                    refine vNil ?_
                    change VC _ _ _ _
                    refine vCond rfl (fun hb32 => ?_) (fun hb32 => ?_)
                    · replace h := cnd_t hb32 h
                      refine vSeq ?_
                      refine vRegion ?_
                      refine oVal tt rfl rfl rfl rfl rfl trivial ?_
                      refine vNil ?_
                      change VC _ _ _ _
                      refine vRet ?_
                      change ∃ _, _
                      cases h
                      exact ⟨[], _, rfl, trivial, rfl, rfl, rfl⟩
                    · replace h := cnd_f hb32 h
                      refine vSkip ?_
                      change VC _ _ _ _
                      refine vSeq ?_
                      refine vRegion ?_
                      refine oVal tt rfl rfl rfl rfl rfl trivial ?_
                      refine vNil ?_
                      change VC _ _ _ _
                      refine vSeq ?_
                      refine vRegion ?_
                      iterate 2 refine oVal tt rfl rfl rfl rfl rfl trivial ?_
                      obtain ⟨v44, hc33, h⟩ := bind_inv h
                      refine oCall (L_heldIntS_w N v38.2 (1 : Int) v44 hc33) rfl rfl rfl rfl rfl rfl rfl rfl ⟨(.inl ⟨hg24, rfl⟩), rfl, trivial⟩ ?_
                      refine oVal tt rfl rfl rfl rfl rfl trivial ?_
                      refine vNil ?_
                      change VC _ _ _ _
                      iterate 2 refine vSeq ?_
                      refine vRegion ?_
                      iterate 2 refine oVal tt rfl rfl rfl rfl rfl trivial ?_
                      refine vNil ?_
                      change VC _ _ _ _
                      refine vCond rfl (fun hb34 => ?_) (fun hb34 => ?_)
                      · replace h := cnd_t hb34 h
                        refine vSeq ?_
                        refine vRegion ?_
                        refine oVal tt rfl rfl rfl rfl rfl trivial ?_
                        refine vNil ?_
                        change VC _ _ _ _
                        refine vRet ?_
                        change ∃ _, _
                        cases h
                        exact ⟨[], _, rfl, trivial, rfl, rfl, rfl⟩
                      · replace h := cnd_f hb34 h
                        refine vSkip ?_
                        change VC _ _ _ _
                        iterate 2 refine vSeq ?_
                        refine vRegion ?_
                        iterate 3 refine oVal tt rfl rfl rfl rfl rfl trivial ?_
                        refine vNil ?_
                        change VC _ _ _ _
                        refine vCond rfl (fun hb35 => ?_) (fun hb35 => ?_)
                        · replace h := cnd_t hb35 h
                          refine vSeq ?_
                          refine vRegion ?_
                          refine oVal tt rfl rfl rfl rfl rfl trivial ?_
                          refine vNil ?_
                          change VC _ _ _ _
                          refine vRet ?_
                          change ∃ _, _
                          cases h
                          exact ⟨[], _, rfl, trivial, rfl, rfl, rfl⟩
                        · replace h := cnd_f hb35 h
                          refine vSkip ?_
                          change VC _ _ _ _
                          refine vSeq ?_
                          refine vRegion ?_
                          refine oVal tt rfl rfl rfl rfl rfl trivial ?_
                          refine vNil ?_
                          change VC _ _ _ _
                          refine vRet ?_
                          change ∃ _, _
                          cases h
                          exact ⟨[], _, rfl, trivial, rfl, rfl, rfl⟩
end Go.Proofs.Ytlmlfbjcpajinaa
