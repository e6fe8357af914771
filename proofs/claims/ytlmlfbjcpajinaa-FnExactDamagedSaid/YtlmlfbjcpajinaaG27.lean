/- Plain texts of functions, and that the program computes them (printed by gen.py). -/
import Derived.Test.YtlmlfbjcpajinaaShb
import Derived.Test.YtlmlfbjcpajinaaG1
import Derived.Test.YtlmlfbjcpajinaaG2
import Derived.Test.YtlmlfbjcpajinaaG14
import Derived.Test.YtlmlfbjcpajinaaG15
import Derived.Test.YtlmlfbjcpajinaaG19
import Derived.Test.YtlmlfbjcpajinaaG23
import Derived.Test.YtlmlfbjcpajinaaG24
import Derived.Test.YtlmlfbjcpajinaaG26
namespace Go.Proofs.Ytlmlfbjcpajinaa
open Go.RowKit
set_option linter.unusedVariables false
set_option linter.unusedSimpArgs false
def L_FnExactDamaged (N : Nat) (aP_0 : Pin) (aBroken_1 : List Int) : Option (Bool) :=
  cnd (decide ((aBroken_1.length : Int) > (1048576 : Int))) (
    some true) (
    (L_szPinned N aP_0 (1048576 : Int)).bind fun v23 =>
    cnd (decide (v23 < (0 : Int))) (
      some true) (
      (L_toPinned N aP_0).bind fun v24 =>
      (L_toIntS N aBroken_1).bind fun v25 =>
      (S_Damaged N v24 v25).bind fun v26 =>
      (L_toPinned N aP_0).bind fun v27 =>
      (L_toIntS N aBroken_1).bind fun v28 =>
      (I_Damaged N v27 v28).bind fun v29 =>
      (L_eqPinned N v29.1 v26.1).bind fun v30 =>
      cnd (!v30) (
        some false) (
        cnd (v29.2 != v26.2) (
          some false) (
          (L_toPinned N aP_0).bind fun v31 =>
          (L_eqPinned N v27 v31).bind fun v32 =>
          cnd (!v32) (
            some false) (
            (L_toIntS N aBroken_1).bind fun v33 =>
            (L_eqIntS N v28 v33).bind fun v34 =>
            cnd (!v34) (
              some false) (
              (L_markPinned N (⟨⟨v27.g.n, v27.g.bars⟩, v27.ground⟩ : Pin) (1 : Int)).bind fun v35 =>
              (L_markIntS N v28 v35.1).bind fun v36 =>
              cnd (decide (v36.1 < (0 : Int))) (
                some false) (
                (L_eqPinned N v29.1 v26.1).bind fun v37 =>
                cnd (!v37) (
                  some false) (
                  (L_markPinned N (⟨⟨v29.1.g.n, v29.1.g.bars⟩, v29.1.ground⟩ : Pin) (1 : Int)).bind fun v38 =>
                  grd (v29.1.g.bars.length = v38.2.1.length) <|
                  grd (v29.1.ground.length = v38.2.2.length) <|
                  (L_heldPinned N (⟨⟨v29.1.g.n, v38.2.1⟩, v38.2.2⟩ : Pin) (1 : Int)).bind fun v39 =>
                  cnd (decide (v39 < (0 : Int))) (
                    some false) (
                    cnd (v39 != v38.1) (
                      some false) (
                      (L_toPinned N aP_0).bind fun v40 =>
                      (L_toIntS N aBroken_1).bind fun v41 =>
                      (I_Damaged N v40 v41).bind fun v42 =>
                      (L_eqPinned N v42.1 v26.1).bind fun v43 =>
                      cnd (!v43) (
                        some false) (
                        cnd (v42.2 != v26.2) (
                          some false) (
                          (L_heldPinned N (⟨⟨v29.1.g.n, v38.2.1⟩, v38.2.2⟩ : Pin) (1 : Int)).bind fun v44 =>
                          cnd (decide (v44 < (0 : Int))) (
                            some false) (
                            cnd (v44 != v38.1) (
                              some false) (
                              some true))))))))))))))
set_option maxRecDepth 20000 in
set_option maxHeartbeats 1600000 in
theorem L_FnExactDamaged_w (N : Nat) (aP_0 : Pin) (aBroken_1 : List Int) (r : Bool) (h : L_FnExactDamaged N aP_0 aBroken_1 = some r) : PCall Try.prog 11 [pD aP_0, .ro false (.ints aBroken_1)] [] (.bool r) := by
  unfold L_FnExactDamaged at h
  refine pcall_intro (TT := TT) tt Try.func11 rfl rfl Try.ntmps11 (congrArg Array.toList Try.results11) rfl rfl fun w0 => ?_
  refine vSeq ?_
  refine vRegion ?_
  refine oBox rfl rfl rfl rfl rfl rfl rfl rfl rfl ?_
  refine oVal tt rfl rfl rfl rfl rfl trivial ?_
  refine vNil ?_
  change VC _ _ _ _
  iterate 2 refine vSeq ?_
  refine vRegion ?_
  iterate 3 refine oVal tt rfl rfl rfl rfl rfl trivial ?_
  refine vNil ?_
  change VC _ _ _ _
  refine vCond rfl (fun hb1 => ?_) (fun hb1 => ?_)
  · replace h := cnd_t hb1 h
    refine vSeq ?_
    refine vRegion ?_
    refine oVal tt rfl rfl rfl rfl rfl trivial ?_
    refine vNil ?_
    change VC _ _ _ _
    refine vRet ?_
    change ∃ _, _
    cases h
    exact ⟨[], _, rfl, trivial, rfl, rfl, rfl⟩
  · replace h := cnd_f hb1 h
    refine vSkip ?_
    change VC _ _ _ _
    refine vSeq ?_
    refine vRegion ?_
    refine oVal tt rfl rfl rfl rfl rfl trivial ?_
    refine vNil ?_
    change VC _ _ _ _
    refine vSeq ?_
    refine vRegion ?_
    iterate 2 refine oVal tt rfl rfl rfl rfl rfl trivial ?_
    obtain ⟨v23, hc2, h⟩ := bind_inv h
    refine oCall (L_szPinned_w N aP_0 (1048576 : Int) v23 hc2) rfl rfl rfl rfl rfl rfl rfl rfl ⟨⟨rfl, rfl, rfl, trivial⟩, rfl, trivial⟩ ?_
    refine oVal tt rfl rfl rfl rfl rfl trivial ?_
    refine vNil ?_
    change VC _ _ _ _
    iterate 2 refine vSeq ?_
    refine vRegion ?_
    iterate 2 refine oVal tt rfl rfl rfl rfl rfl trivial ?_
    refine vNil ?_
    change VC _ _ _ _
    refine vCond rfl (fun hb3 => ?_) (fun hb3 => ?_)
    · replace h := cnd_t hb3 h
      refine vSeq ?_
      refine vRegion ?_
      refine oVal tt rfl rfl rfl rfl rfl trivial ?_
      refine vNil ?_
      change VC _ _ _ _
      refine vRet ?_
      change ∃ _, _
      cases h
      exact ⟨[], _, rfl, trivial, rfl, rfl, rfl⟩
    · replace h := cnd_f hb3 h
      refine vSkip ?_
      change VC _ _ _ _
      refine vSeq ?_
      refine vRegion ?_
      refine oVal tt rfl rfl rfl rfl rfl trivial ?_
      obtain ⟨v24, hc4, h⟩ := bind_inv h
      refine oCall (L_toPinned_w N aP_0 v24 hc4) rfl rfl rfl rfl rfl rfl rfl rfl ⟨⟨rfl, rfl, rfl, trivial⟩, trivial⟩ ?_
      refine oVal tt rfl rfl rfl rfl rfl trivial ?_
      obtain ⟨v25, hc5, h⟩ := bind_inv h
      refine oCall (L_toIntS_w N aBroken_1 v25 hc5) rfl rfl rfl rfl rfl rfl rfl rfl ⟨rfl, trivial⟩ ?_
      obtain ⟨v26, hc6, h⟩ := bind_inv h
      refine oCall (S_Damaged_w N v24 v25 v26 hc6) rfl rfl rfl rfl rfl rfl rfl rfl ⟨⟨rfl, (.inl ⟨rfl, rfl⟩), (.inl ⟨rfl, rfl⟩), trivial⟩, (.inl ⟨rfl, rfl⟩), trivial⟩ ?_
      iterate 3 refine oVal tt rfl rfl rfl rfl rfl trivial ?_
      refine oAlloc tt rfl rfl rfl rfl rfl rfl rfl rfl rfl ?_
      refine oStore tt rfl rfl rfl rfl rfl rfl rfl rfl rfl rfl rfl ⟨trivial, trivial, trivial, trivial⟩ ?_
      refine oVal tt rfl rfl rfl rfl rfl trivial ?_
      refine vNil ?_
      change VC _ _ _ _
      refine vSeq ?_
      refine vRegion ?_
      refine oVal tt rfl rfl rfl rfl rfl trivial ?_
      obtain ⟨v27, hc7, h⟩ := bind_inv h
      refine oCall (L_toPinned_w N aP_0 v27 hc7) rfl rfl rfl rfl rfl rfl rfl rfl ⟨⟨rfl, rfl, rfl, trivial⟩, trivial⟩ ?_
      refine oAlloc tt rfl rfl rfl rfl rfl rfl rfl rfl rfl ?_
      refine oStore tt rfl rfl rfl rfl rfl rfl rfl rfl rfl rfl rfl ⟨trivial, trivial, trivial, trivial⟩ ?_
      refine vNil ?_
      change VC _ _ _ _
      refine vSeq ?_
      refine vRegion ?_
      refine oVal tt rfl rfl rfl rfl rfl trivial ?_
      obtain ⟨v28, hc8, h⟩ := bind_inv h
      refine oCall (L_toIntS_w N aBroken_1 v28 hc8) rfl rfl rfl rfl rfl rfl rfl rfl ⟨rfl, trivial⟩ ?_
      refine oVal tt rfl rfl rfl rfl rfl trivial ?_
      refine vNil ?_
      change VC _ _ _ _
      refine vSeq ?_
      refine vRegion ?_
      iterate 2 refine oVal tt rfl rfl rfl rfl rfl trivial ?_
      obtain ⟨v29, hc9, h⟩ := bind_inv h
      refine oCall (I_Damaged_w N v27 v28 v29 hc9) rfl rfl rfl rfl rfl rfl rfl rfl ⟨⟨rfl, (.inl ⟨rfl, rfl⟩), (.inl ⟨rfl, rfl⟩), trivial⟩, (.inl ⟨rfl, rfl⟩), trivial⟩ ?_
      iterate 3 refine oVal tt rfl rfl rfl rfl rfl trivial ?_
      refine oAlloc tt rfl rfl rfl rfl rfl rfl rfl rfl rfl ?_
      refine oStore tt rfl rfl rfl rfl rfl rfl rfl rfl rfl rfl rfl ⟨trivial, trivial, trivial, trivial⟩ ?_
      refine oVal tt rfl rfl rfl rfl rfl trivial ?_
      refine vNil ?_
      change VC _ _ _ _
      iterate 2 refine vSeq ?_
      refine vRegion ?_
      iterate 2 refine oVal tt rfl rfl rfl rfl rfl trivial ?_
      obtain ⟨v30, hc10, h⟩ := bind_inv h
      refine oCall (L_eqPinned_w N v29.1 v26.1 v30 hc10) rfl rfl rfl rfl rfl rfl rfl rfl ⟨⟨rfl, (.inl ⟨rfl, rfl⟩), (.inl ⟨rfl, rfl⟩), trivial⟩, ⟨rfl, (.inl ⟨rfl, rfl⟩), (.inl ⟨rfl, rfl⟩), trivial⟩, trivial⟩ ?_
      iterate 2 refine oVal tt rfl rfl rfl rfl rfl trivial ?_
      refine oSplit rfl rfl rfl (fun hb11 => ?_) (fun hb11 => ?_)
      · replace h := cnd_t hb11 h
        iterate 3 refine oNoF rfl rfl rfl rfl hb11 rfl rfl ?_
        refine oPick rfl rfl rfl rfl rfl hb11 rfl ?_
        refine vNil ?_
        change VC _ _ _ _
        refine vCondT rfl rfl ?_
        refine vSeq ?_
        refine vRegion ?_
        refine oVal tt rfl rfl rfl rfl rfl trivial ?_
        refine vNil ?_
        change VC _ _ _ _
        refine vRet ?_
        change ∃ _, _
        cases h
        exact ⟨[], _, rfl, trivial, rfl, rfl, rfl⟩
      · replace h := cnd_f hb11 h
        iterate 2 refine oValG tt rfl rfl rfl rfl rfl hb11 rfl rfl rfl trivial ?_
        refine oPure (wSome rfl rfl rfl rfl hb11) (pNeB Try.underlying4 rfl rfl rfl) rfl rfl ?_
        refine oPickF rfl rfl rfl rfl rfl hb11 rfl ?_
        refine vNil ?_
        change VC _ _ _ _
        refine vCond rfl (fun hb12 => ?_) (fun hb12 => ?_)
        · replace h := cnd_t hb12 h
          refine vSeq ?_
          refine vRegion ?_
          refine oVal tt rfl rfl rfl rfl rfl trivial ?_
          refine vNil ?_
          change VC _ _ _ _
          refine vRet ?_
          change ∃ _, _
          cases h
          exact ⟨[], _, rfl, trivial, rfl, rfl, rfl⟩
        · replace h := cnd_f hb12 h
          refine vSkip ?_
          change VC _ _ _ _
          iterate 2 refine vSeq ?_
          refine vRegionN 3 [2] [0, 0, 2, 7, 15] (by kernel_rfl) (by kernel_rfl) (by kernel_rfl) (by kernel_rfl) (by kernel_rfl) rfl (by rfl) ?_
          iterate 2 refine nVal tt rfl (wNone rfl) rfl rfl rfl rfl rfl trivial ?_
          obtain ⟨v31, hc13, h⟩ := bind_inv h
          refine nCallR (L_toPinned_w N aP_0 v31 hc13) rfl (wNone rfl) rfl rfl rfl rfl rfl rfl rfl rfl (by first | rfl | kernel_rfl | (simp [chkE, nrL, nm, gdst, nmT, rowB, hid, ment, mentA, mentS]; done) | (simp [chkE, nrL, nm, gdst, nmT, rowB, hid, ment, mentA, mentS]; decide)) ⟨⟨rfl, rfl, rfl, trivial⟩, trivial⟩ ?_
          refine nNil ?_
          change VO _ _ _ _ _
          obtain ⟨v32, hc14, h⟩ := bind_inv h
          refine oCall (L_eqPinned_w N v27 v31 v32 hc14) rfl rfl rfl rfl rfl rfl rfl rfl ⟨⟨rfl, (.inl ⟨rfl, rfl⟩), (.inl ⟨rfl, rfl⟩), trivial⟩, ⟨rfl, (.inl ⟨rfl, rfl⟩), (.inl ⟨rfl, rfl⟩), trivial⟩, trivial⟩ ?_
          refine oVal tt rfl rfl rfl rfl rfl trivial ?_
          refine vNil ?_
          change VC _ _ _ _
          refine vCond rfl (fun hb15 => ?_) (fun hb15 => ?_)
          · replace h := cnd_t hb15 h
            refine vSeq ?_
            refine vRegion ?_
            refine oVal tt rfl rfl rfl rfl rfl trivial ?_
            refine vNil ?_
            change VC _ _ _ _
            refine vRet ?_
            change ∃ _, _
            cases h
            exact ⟨[], _, rfl, trivial, rfl, rfl, rfl⟩
          · replace h := cnd_f hb15 h
            refine vSkip ?_
            change VC _ _ _ _
            iterate 2 refine vSeq ?_
            refine vRegion ?_
            iterate 2 refine oVal tt rfl rfl rfl rfl rfl trivial ?_
            obtain ⟨v33, hc16, h⟩ := bind_inv h
            refine oCall (L_toIntS_w N aBroken_1 v33 hc16) rfl rfl rfl rfl rfl rfl rfl rfl ⟨rfl, trivial⟩ ?_
            obtain ⟨v34, hc17, h⟩ := bind_inv h
            refine oCall (L_eqIntS_w N v28 v33 v34 hc17) rfl rfl rfl rfl rfl rfl rfl rfl ⟨(.inl ⟨rfl, rfl⟩), (.inl ⟨rfl, rfl⟩), trivial⟩ ?_
            refine oVal tt rfl rfl rfl rfl rfl trivial ?_
            refine vNil ?_
            change VC _ _ _ _
            refine vCond rfl (fun hb18 => ?_) (fun hb18 => ?_)
            · replace h := cnd_t hb18 h
              refine vSeq ?_
              refine vRegion ?_
              refine oVal tt rfl rfl rfl rfl rfl trivial ?_
              refine vNil ?_
              change VC _ _ _ _
              refine vRet ?_
              change ∃ _, _
              cases h
              exact ⟨[], _, rfl, trivial, rfl, rfl, rfl⟩
            · replace h := cnd_f hb18 h
              refine vSkip ?_
              change VC _ _ _ _
              refine vSeq ?_
              refine vRegion ?_
              refine oVal tt rfl rfl rfl rfl rfl trivial ?_
              refine vNil ?_
              change VC _ _ _ _
              refine vSeq ?_
              refine vRegion ?_
              iterate 2 refine oVal tt rfl rfl rfl rfl rfl trivial ?_
              obtain ⟨v35, hc19, h⟩ := bind_inv h
              refine oMCall (L_markPinned_w N (⟨⟨v27.g.n, v27.g.bars⟩, v27.ground⟩ : Pin) (1 : Int) v35 hc19) [1340, 1341] [] [1340, 1341] rfl rfl rfl rfl rfl rfl ⟨rfl, rfl, trivial⟩ trivial ⟨⟨⟨rfl, rfl⟩, ⟨rfl, rfl⟩, ⟨rfl, rfl⟩, trivial⟩, ⟨rfl, rfl⟩, trivial⟩ ?_
              refine oVal tt rfl rfl rfl rfl rfl trivial ?_
              refine vNil ?_
              change VC _ _ _ _
              refine vSeq ?_
              refine vRegion ?_
              iterate 2 refine oVal tt rfl rfl rfl rfl rfl trivial ?_
              obtain ⟨v36, hc20, h⟩ := bind_inv h
              refine oMCall (L_markIntS_w N v28 v35.1 v36 hc20) [1360] [] [1360] rfl rfl rfl rfl rfl rfl ⟨rfl, trivial⟩ trivial ⟨⟨rfl, rfl⟩, ⟨rfl, rfl⟩, trivial⟩ ?_
              refine oVal tt rfl rfl rfl rfl rfl trivial ?_
              refine vNil ?_
              change VC _ _ _ _
              iterate 2 refine vSeq ?_
              refine vRegion ?_
              iterate 3 refine oVal tt rfl rfl rfl rfl rfl trivial ?_
              refine oSplit rfl rfl rfl (fun hb21 => ?_) (fun hb21 => ?_)
              · replace h := cnd_t hb21 h
                iterate 4 refine oNoF rfl rfl rfl rfl hb21 rfl rfl ?_
                refine oPick rfl rfl rfl rfl rfl hb21 rfl ?_
                refine oVal tt rfl rfl rfl rfl rfl trivial ?_
                iterate 3 refine oNoF rfl rfl rfl rfl rfl rfl rfl ?_
                refine oPick rfl rfl rfl rfl rfl rfl rfl ?_
                refine vNil ?_
                change VC _ _ _ _
                refine vCondT rfl rfl ?_
                refine vSeq ?_
                refine vRegion ?_
                refine oVal tt rfl rfl rfl rfl rfl trivial ?_
                refine vNil ?_
                change VC _ _ _ _
                refine vRet ?_
                change ∃ _, _
                cases h
                exact ⟨[], _, rfl, trivial, rfl, rfl, rfl⟩
              · replace h := cnd_f hb21 h
                iterate 2 refine oValG tt rfl rfl rfl rfl rfl hb21 rfl rfl rfl trivial ?_
                obtain ⟨v37, hc22, h⟩ := bind_inv h
                refine oCallG (L_eqPinned_w N v29.1 v26.1 v37 hc22) rfl rfl rfl rfl hb21 rfl rfl rfl rfl rfl rfl rfl ⟨⟨rfl, (.inl ⟨rfl, rfl⟩), (.inl ⟨rfl, rfl⟩), trivial⟩, ⟨rfl, (.inl ⟨rfl, rfl⟩), (.inl ⟨rfl, rfl⟩), trivial⟩, trivial⟩ ?_
                refine oValG tt rfl rfl rfl rfl rfl hb21 rfl rfl rfl trivial ?_
                refine oPickF rfl rfl rfl rfl rfl hb21 rfl ?_
                refine oVal tt rfl rfl rfl rfl rfl trivial ?_
                refine oSplit rfl rfl rfl (fun hb23 => ?_) (fun hb23 => ?_)
                · replace h := cnd_t hb23 h
                  iterate 3 refine oNoF rfl rfl rfl rfl hb23 rfl rfl ?_
                  refine oPick rfl rfl rfl rfl rfl hb23 rfl ?_
                  refine vNil ?_
                  change VC _ _ _ _
                  refine vCondT rfl rfl ?_
                  refine vSeq ?_
                  refine vRegion ?_
                  refine oVal tt rfl rfl rfl rfl rfl trivial ?_
                  refine vNil ?_
                  change VC _ _ _ _
                  refine vRet ?_
                  change ∃ _, _
                  cases h
                  exact ⟨[], _, rfl, trivial, rfl, rfl, rfl⟩
                · replace h := cnd_f hb23 h
                  iterate 2 refine oValG tt rfl rfl rfl rfl rfl hb23 rfl rfl rfl trivial ?_
                  refine oPure (wSome rfl rfl rfl rfl hb23) (pNeB Try.underlying4 rfl rfl rfl) rfl rfl ?_
                  refine oPickF rfl rfl rfl rfl rfl hb23 rfl ?_
                  refine vNil ?_
                  change VC _ _ _ _
                  refine vCondF rfl hb12 ?_
                  refine vSkip ?_
                  change VC _ _ _ _
                  refine vSeq ?_
                  refine vRegion ?_
                  refine oVal tt rfl rfl rfl rfl rfl trivial ?_
                  refine vNil ?_
                  change VC _ _ _ _
                  refine vSeq ?_
                  refine vRegion ?_
                  iterate 2 refine oVal tt rfl rfl rfl rfl rfl trivial ?_
                  obtain ⟨v38, hc24, h⟩ := bind_inv h
                  refine oMCall (L_markPinned_w N (⟨⟨v29.1.g.n, v29.1.g.bars⟩, v29.1.ground⟩ : Pin) (1 : Int) v38 hc24) [1400, 1401] [] [1400, 1401] rfl rfl rfl rfl rfl rfl ⟨rfl, rfl, trivial⟩ trivial ⟨⟨⟨rfl, rfl⟩, ⟨rfl, rfl⟩, ⟨rfl, rfl⟩, trivial⟩, ⟨rfl, rfl⟩, trivial⟩ ?_
                  refine oVal tt rfl rfl rfl rfl rfl trivial ?_
                  refine vNil ?_
                  change VC _ _ _ _
                  refine vSeq ?_
                  refine vRegion ?_
                  refine oVal tt rfl rfl rfl rfl rfl trivial ?_
                  refine vNil ?_
                  change VC _ _ _ _
                  refine vSeq ?_
                  refine vRegion ?_
                  iterate 2 refine oVal tt rfl rfl rfl rfl rfl trivial ?_
                  obtain ⟨hg25, h⟩ := grd_inv h
                  obtain ⟨hg26, h⟩ := grd_inv h
                  obtain ⟨v39, hc27, h⟩ := bind_inv h
                  refine oCall (L_heldPinned_w N (⟨⟨v29.1.g.n, v38.2.1⟩, v38.2.2⟩ : Pin) (1 : Int) v39 hc27) rfl rfl rfl rfl rfl rfl rfl rfl ⟨⟨rfl, (.inl ⟨hg25, rfl⟩), (.inl ⟨hg26, rfl⟩), trivial⟩, rfl, trivial⟩ ?_
                  refine oVal tt rfl rfl rfl rfl rfl trivial ?_
                  refine vNil ?_
                  change VC _ _ _ _
                  iterate 2 refine vSeq ?_
                  refine vRegion ?_
                  iterate 2 refine oVal tt rfl rfl rfl rfl rfl trivial ?_
                  refine vNil ?_
                  change VC _ _ _ _
                  refine vCond rfl (fun hb28 => ?_) (fun hb28 => ?_)
                  · replace h := cnd_t hb28 h
                    refine vSeq ?_
                    refine vRegion ?_
                    refine oVal tt rfl rfl rfl rfl rfl trivial ?_
                    refine vNil ?_
                    change VC _ _ _ _
                    refine vRet ?_
                    change ∃ _, _
                    cases h
                    exact ⟨[], _, rfl, trivial, rfl, rfl, rfl⟩
                  · replace h := cnd_f hb28 h
                    refine vSkip ?_
                    change VC _ _ _ _
                    iterate 2 refine vSeq ?_
                    refine vRegion ?_
                    iterate 3 refine oVal tt rfl rfl rfl rfl rfl trivial ?_
                    refine vNil ?_
                    change VC _ _ _ _
                    refine vCond rfl (fun hb29 => ?_) (fun hb29 => ?_)
                    · replace h := cnd_t hb29 h
                      refine vSeq ?_
                      refine vRegion ?_
                      refine oVal tt rfl rfl rfl rfl rfl trivial ?_
                      refine vNil ?_
                      change VC _ _ _ _
                      refine vRet ?_
                      change ∃ _, _
                      cases h
                      exact ⟨[], _, rfl, trivial, rfl, rfl, rfl⟩
                    · replace h := cnd_f hb29 h
                      refine vSkip ?_
                      change VC _ _ _ _
                      refine vSeq ?_
                      refine vRegion ?_
                      refine oVal tt rfl rfl rfl rfl rfl trivial ?_
                      obtain ⟨v40, hc30, h⟩ := bind_inv h
                      refine oCall (L_toPinned_w N aP_0 v40 hc30) rfl rfl rfl rfl rfl rfl rfl rfl ⟨⟨rfl, rfl, rfl, trivial⟩, trivial⟩ ?_
                      refine oVal tt rfl rfl rfl rfl rfl trivial ?_
                      obtain ⟨v41, hc31, h⟩ := bind_inv h
                      refine oCall (L_toIntS_w N aBroken_1 v41 hc31) rfl rfl rfl rfl rfl rfl rfl rfl ⟨rfl, trivial⟩ ?_
                      obtain ⟨v42, hc32, h⟩ := bind_inv h
                      refine oCall (I_Damaged_w N v40 v41 v42 hc32) rfl rfl rfl rfl rfl rfl rfl rfl ⟨⟨rfl, (.inl ⟨rfl, rfl⟩), (.inl ⟨rfl, rfl⟩), trivial⟩, (.inl ⟨rfl, rfl⟩), trivial⟩ ?_
                      iterate 3 refine oVal tt rfl rfl rfl rfl rfl trivial ?_
                      refine oAlloc tt rfl rfl rfl rfl rfl rfl rfl rfl rfl ?_
                      refine oStore tt rfl rfl rfl rfl rfl rfl rfl rfl rfl rfl rfl ⟨trivial, trivial, trivial, trivial⟩ ?_
                      refine oVal tt rfl rfl rfl rfl rfl trivial ?_
                      refine vNil ?_
                      change VC _ _ _ _
                      iterate 2 refine vSeq ?_
                      refine vRegion ?_
                      iterate 2 refine oVal tt rfl rfl rfl rfl rfl trivial ?_
                      obtain ⟨v43, hc33, h⟩ := bind_inv h
                      refine oCall (L_eqPinned_w N v42.1 v26.1 v43 hc33) rfl rfl rfl rfl rfl rfl rfl rfl ⟨⟨rfl, (.inl ⟨rfl, rfl⟩), (.inl ⟨rfl, rfl⟩), trivial⟩, ⟨rfl, (.inl ⟨rfl, rfl⟩), (.inl ⟨rfl, rfl⟩), trivial⟩, trivial⟩ ?_
                      iterate 2 refine oVal tt rfl rfl rfl rfl rfl trivial ?_
                      refine oSplit rfl rfl rfl (fun hb34 => ?_) (fun hb34 => ?_)
                      · replace h := cnd_t hb34 h
                        iterate 3 refine oNoF rfl rfl rfl rfl hb34 rfl rfl ?_
                        refine oPick rfl rfl rfl rfl rfl hb34 rfl ?_
                        refine vNil ?_
                        change VC _ _ _ _
                        refine vCondT rfl rfl ?_
                        refine vSeq ?_
                        refine vRegion ?_
                        refine oVal tt rfl rfl rfl rfl rfl trivial ?_
                        refine vNil ?_
                        change VC _ _ _ _
                        refine vRet ?_
                        change ∃ _, _
                        cases h
                        exact ⟨[], _, rfl, trivial, rfl, rfl, rfl⟩
                      · replace h := cnd_f hb34 h
                        iterate 2 refine oValG tt rfl rfl rfl rfl rfl hb34 rfl rfl rfl trivial ?_
                        refine oPure (wSome rfl rfl rfl rfl hb34) (pNeB Try.underlying4 rfl rfl rfl) rfl rfl ?_
                        refine oPickF rfl rfl rfl rfl rfl hb34 rfl ?_
                        refine vNil ?_
                        change VC _ _ _ _
                        refine vCond rfl (fun hb35 => ?_) (fun hb35 => ?_)
                        · replace h := cnd_t hb35 h
                          refine vSeq ?_
                          refine vRegion ?_
                          refine oVal tt rfl rfl rfl rfl rfl trivial ?_
                          refine vNil ?_
                          change VC _ _ _ _
                          refine vRet ?_
                          change ∃ _, _
                          cases h
                          exact ⟨[], _, rfl, trivial, rfl, rfl, rfl⟩
                        · replace h := cnd_f hb35 h
                          refine vSkip ?_
                          change VC _ _ _ _
                          refine vSeq ?_
                          refine vRegion ?_
                          refine oVal tt rfl rfl rfl rfl rfl trivial ?_
                          refine vNil ?_
                          change VC _ _ _ _
                          refine vSeq ?_
                          refine vRegion ?_
                          iterate 2 refine oVal tt rfl rfl rfl rfl rfl trivial ?_
                          obtain ⟨v44, hc36, h⟩ := bind_inv h
                          refine oCall (L_heldPinned_w N (⟨⟨v29.1.g.n, v38.2.1⟩, v38.2.2⟩ : Pin) (1 : Int) v44 hc36) rfl rfl rfl rfl rfl rfl rfl rfl ⟨⟨rfl, (.inl ⟨hg25, rfl⟩), (.inl ⟨hg26, rfl⟩), trivial⟩, rfl, trivial⟩ ?_
                          refine oVal tt rfl rfl rfl rfl rfl trivial ?_
                          refine vNil ?_
                          change VC _ _ _ _
                          iterate 2 refine vSeq ?_
                          refine vRegion ?_
                          iterate 2 refine oVal tt rfl rfl rfl rfl rfl trivial ?_
                          refine vNil ?_
                          change VC _ _ _ _
                          refine vCond rfl (fun hb37 => ?_) (fun hb37 => ?_)
                          · replace h := cnd_t hb37 h
                            refine vSeq ?_
                            refine vRegion ?_
                            refine oVal tt rfl rfl rfl rfl rfl trivial ?_
                            refine vNil ?_
                            change VC _ _ _ _
                            refine vRet ?_
                            change ∃ _, _
                            cases h
                            exact ⟨[], _, rfl, trivial, rfl, rfl, rfl⟩
                          · replace h := cnd_f hb37 h
                            refine vSkip ?_
                            change VC _ _ _ _
                            iterate 2 refine vSeq ?_
                            refine vRegion ?_
                            iterate 3 refine oVal tt rfl rfl rfl rfl rfl trivial ?_
                            refine vNil ?_
                            change VC _ _ _ _
                            refine vCond rfl (fun hb38 => ?_) (fun hb38 => ?_)
                            · replace h := cnd_t hb38 h
                              refine vSeq ?_
                              refine vRegion ?_
                              refine oVal tt rfl rfl rfl rfl rfl trivial ?_
                              refine vNil ?_
                              change VC _ _ _ _
                              refine vRet ?_
                              change ∃ _, _
                              cases h
                              exact ⟨[], _, rfl, trivial, rfl, rfl, rfl⟩
                            · replace h := cnd_f hb38 h
                              refine vSkip ?_
                              change VC _ _ _ _
                              refine vSeq ?_
                              refine vRegion ?_
                              refine oVal tt rfl rfl rfl rfl rfl trivial ?_
                              refine vNil ?_
                              change VC _ _ _ _
                              refine vRet ?_
                              change ∃ _, _
                              cases h
                              exact ⟨[], _, rfl, trivial, rfl, rfl, rfl⟩
end Go.Proofs.Ytlmlfbjcpajinaa
