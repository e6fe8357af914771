/- Texts that the proof needs, put together: G50 G52 G53. -/
import Derived.Test.YtkpmijmlbpdknaaBRm3
import Derived.Test.YtkpmijmlbpdknaaBRm4
import Derived.Test.YtkpmijmlbpdknaaBRm6
namespace Go.Proofs.Ytkpmijmlbpdknaa
open Go.RowKit
set_option linter.unusedVariables false
set_option linter.unusedSimpArgs false
def L_FnExactFallsWith (N : Nat) (aP_0 : Pin) (aBar_1 : Int) : Option (Bool) :=
  (L_szPinned N aP_0 (1048576 : Int)).bind fun v1 =>
  cnd (decide (v1 < (0 : Int))) (
    some true) (
    (L_toPinned N aP_0).bind fun v2 =>
    (S_FallsWith N v2 aBar_1).bind fun v3 =>
    (L_toPinned N aP_0).bind fun v4 =>
    (I_FallsWith N v4 aBar_1).bind fun v5 =>
    (L_eqIntS N v5 v3).bind fun v6 =>
    cnd (!v6) (
      some false) (
      (L_toPinned N aP_0).bind fun v7 =>
      (L_eqPinned N v4 v7).bind fun v8 =>
      cnd (!v8) (
        some false) (
        (L_markPinned N (⟨⟨v4.g.n, v4.g.bars⟩, v4.ground⟩ : Pin) (1 : Int)).bind fun v9 =>
        cnd (decide (v9.1 < (0 : Int))) (
          some false) (
          (L_eqIntS N v5 v3).bind fun v10 =>
          cnd (!v10) (
            some false) (
            (L_markIntS N v5 (1 : Int)).bind fun v11 =>
            grd (v5.length = v11.2.length) <|
            (L_heldIntS N v11.2 (1 : Int)).bind fun v12 =>
            cnd (decide (v12 < (0 : Int))) (
              some false) (
              cnd (v12 != v11.1) (
                some false) (
                (L_toPinned N aP_0).bind fun v13 =>
                (I_FallsWith N v13 aBar_1).bind fun v14 =>
                (L_eqIntS N v14 v3).bind fun v15 =>
                cnd (!v15) (
                  some false) (
                  (L_heldIntS N v11.2 (1 : Int)).bind fun v16 =>
                  cnd (decide (v16 < (0 : Int))) (
                    some false) (
                    cnd (v16 != v11.1) (
                      some false) (
                      some true))))))))))
set_option maxRecDepth 20000 in
set_option maxHeartbeats 1600000 in
theorem L_FnExactFallsWith_w (N : Nat) (aP_0 : Pin) (aBar_1 : Int) (r : Bool) (h : L_FnExactFallsWith N aP_0 aBar_1 = some r) : PCall Try.prog 10 [pD aP_0, .int aBar_1] [] (.bool r) := by
  unfold L_FnExactFallsWith at h
  refine pcall_intro (TT := TT) tt Try.func10 rfl rfl Try.ntmps10 (congrArg Array.toList Try.results10) rfl rfl fun w0 => ?_
  refine vSeq ?_
  refine vRegion ?_
  refine oBox rfl rfl rfl rfl rfl rfl rfl rfl rfl ?_
  refine oVal tt rfl rfl rfl rfl rfl trivial ?_
  refine vNil ?_
  change VC _ _ _ _
  refine vSeq ?_
  refine vRegion ?_
  refine oVal tt rfl rfl rfl rfl rfl trivial ?_
  refine vNil ?_
  change VC _ _ _ _
  refine vSeq ?_
  refine vRegion ?_
  iterate 2 refine oVal tt rfl rfl rfl rfl rfl trivial ?_
  obtain ⟨v1, hc1, h⟩ := bind_inv h
  refine oCall (L_szPinned_w N aP_0 (1048576 : Int) v1 hc1) rfl rfl rfl rfl rfl rfl rfl rfl ⟨⟨rfl, rfl, rfl, trivial⟩, rfl, trivial⟩ ?_
  refine oVal tt rfl rfl rfl rfl rfl trivial ?_
  refine vNil ?_
  change VC _ _ _ _
  iterate 2 refine vSeq ?_
  refine vRegion ?_
  iterate 2 refine oVal tt rfl rfl rfl rfl rfl trivial ?_
  refine vNil ?_
  change VC _ _ _ _
  refine vCond rfl (fun hb2 => ?_) (fun hb2 => ?_)
  · replace h := cnd_t hb2 h
    refine vSeq ?_
    refine vRegion ?_
    refine oVal tt rfl rfl rfl rfl rfl trivial ?_
    refine vNil ?_
    change VC _ _ _ _
    refine vRet ?_
    change ∃ _, _
    cases h
    exact ⟨[], _, rfl, trivial, rfl, (.eq rfl), rfl⟩
  · replace h := cnd_f hb2 h
    refine vSkip ?_
    change VC _ _ _ _
    refine vSeq ?_
    refine vRegion ?_
    refine oVal tt rfl rfl rfl rfl rfl trivial ?_
    obtain ⟨v2, hc3, h⟩ := bind_inv h
    refine oCall (L_toPinned_w N aP_0 v2 hc3) rfl rfl rfl rfl rfl rfl rfl rfl ⟨⟨rfl, rfl, rfl, trivial⟩, trivial⟩ ?_
    refine oVal tt rfl rfl rfl rfl rfl trivial ?_
    obtain ⟨v3, hc4, h⟩ := bind_inv h
    refine oCall (S_FallsWith_w N v2 aBar_1 v3 hc4) rfl rfl rfl rfl rfl rfl rfl rfl ⟨⟨rfl, (.inl ⟨rfl, rfl⟩), (.inl ⟨rfl, rfl⟩), trivial⟩, rfl, trivial⟩ ?_
    refine oVal tt rfl rfl rfl rfl rfl trivial ?_
    refine vNil ?_
    change VC _ _ _ _
    refine vSeq ?_
    refine vRegion ?_
    refine oVal tt rfl rfl rfl rfl rfl trivial ?_
    obtain ⟨v4, hc5, h⟩ := bind_inv h
    refine oCall (L_toPinned_w N aP_0 v4 hc5) rfl rfl rfl rfl rfl rfl rfl rfl ⟨⟨rfl, rfl, rfl, trivial⟩, trivial⟩ ?_
    refine oAlloc tt rfl rfl rfl rfl rfl rfl rfl rfl rfl ?_
    refine oStore tt rfl rfl rfl rfl rfl rfl rfl rfl rfl rfl rfl ⟨trivial, trivial, trivial, trivial⟩ ?_
    refine vNil ?_
    change VC _ _ _ _
    refine vSeq ?_
    refine vRegion ?_
    iterate 2 refine oVal tt rfl rfl rfl rfl rfl trivial ?_
    obtain ⟨v5, hc6, h⟩ := bind_inv h
    refine oCall (I_FallsWith_w N v4 aBar_1 v5 hc6) rfl rfl rfl rfl rfl rfl rfl rfl ⟨⟨rfl, (.inl ⟨rfl, rfl⟩), (.inl ⟨rfl, rfl⟩), trivial⟩, rfl, trivial⟩ ?_
    refine oVal tt rfl rfl rfl rfl rfl trivial ?_
    refine vNil ?_
    change VC _ _ _ _
    iterate 2 refine vSeq ?_
    refine vRegion ?_
    iterate 2 refine oVal tt rfl rfl rfl rfl rfl trivial ?_
    obtain ⟨v6, hc7, h⟩ := bind_inv h
    refine oCall (L_eqIntS_w N v5 v3 v6 hc7) rfl rfl rfl rfl rfl rfl rfl rfl ⟨(.inl ⟨rfl, rfl⟩), (.inl ⟨rfl, rfl⟩), trivial⟩ ?_
    refine oVal tt rfl rfl rfl rfl rfl trivial ?_
    refine vNil ?_
    change VC _ _ _ _
    refine vCond rfl (fun hb8 => ?_) (fun hb8 => ?_)
    · replace h := cnd_t hb8 h
      refine vSeq ?_
      refine vRegion ?_
      refine oVal tt rfl rfl rfl rfl rfl trivial ?_
      refine vNil ?_
      change VC _ _ _ _
      refine vRet ?_
      change ∃ _, _
      cases h
      exact ⟨[], _, rfl, trivial, rfl, (.eq rfl), rfl⟩
    · replace h := cnd_f hb8 h
      refine vSkip ?_
      change VC _ _ _ _
      iterate 2 refine vSeq ?_
      refine vRegionN 3 [2] [0, 0, 2, 7, 15] (by kernel_rfl) (by kernel_rfl) (by kernel_rfl) (by kernel_rfl) (by kernel_rfl) rfl (by rfl) ?_
      iterate 2 refine nVal tt rfl (wNone rfl) rfl rfl rfl rfl rfl trivial ?_
      obtain ⟨v7, hc9, h⟩ := bind_inv h
      refine nCallR (L_toPinned_w N aP_0 v7 hc9) rfl (wNone rfl) rfl rfl rfl rfl rfl rfl (by first | rfl | kernel_rfl | (simp [nrL, nm, gdst, nmT, rowB]; done)) rfl (by first | rfl | kernel_rfl | (simp [chkE, nrL, nm, gdst, nmT, rowB, hid, ment, mentA, mentS]; done) | (simp [chkE, nrL, nm, gdst, nmT, rowB, hid, ment, mentA, mentS]; decide)) ⟨⟨rfl, rfl, rfl, trivial⟩, trivial⟩ ?_
      refine nNil ?_
      change VO _ _ _ _ _
      obtain ⟨v8, hc10, h⟩ := bind_inv h
      refine oCall (L_eqPinned_w N v4 v7 v8 hc10) rfl rfl rfl rfl rfl rfl rfl rfl ⟨⟨rfl, (.inl ⟨rfl, rfl⟩), (.inl ⟨rfl, rfl⟩), trivial⟩, ⟨rfl, (.inl ⟨rfl, rfl⟩), (.inl ⟨rfl, rfl⟩), trivial⟩, trivial⟩ ?_
      refine oVal tt rfl rfl rfl rfl rfl trivial ?_
      refine vNil ?_
      change VC _ _ _ _
      refine vCond rfl (fun hb11 => ?_) (fun hb11 => ?_)
      · replace h := cnd_t hb11 h
        refine vSeq ?_
        refine vRegion ?_
        refine oVal tt rfl rfl rfl rfl rfl trivial ?_
        refine vNil ?_
        change VC _ _ _ _
        refine vRet ?_
        change ∃ _, _
        cases h
        exact ⟨[], _, rfl, trivial, rfl, (.eq rfl), rfl⟩
      · replace h := cnd_f hb11 h
        refine vSkip ?_
        change VC _ _ _ _
        refine vSeq ?_
        refine vRegion ?_
        refine oVal tt rfl rfl rfl rfl rfl trivial ?_
        refine vNil ?_
        change VC _ _ _ _
        refine vSeq ?_
        refine vRegion ?_
        iterate 2 refine oVal tt rfl rfl rfl rfl rfl trivial ?_
        obtain ⟨v9, hc12, h⟩ := bind_inv h
        refine oMCall (L_markPinned_w N (⟨⟨v4.g.n, v4.g.bars⟩, v4.ground⟩ : Pin) (1 : Int) v9 hc12) [1230, 1231] [] [1230, 1231] rfl rfl rfl rfl rfl rfl ⟨rfl, rfl, trivial⟩ trivial ⟨⟨⟨rfl, rfl⟩, ⟨rfl, rfl⟩, ⟨rfl, rfl⟩, trivial⟩, ⟨rfl, rfl⟩, trivial⟩ ?_
        refine oVal tt rfl rfl rfl rfl rfl trivial ?_
        refine vNil ?_
        change VC _ _ _ _
        iterate 2 refine vSeq ?_
        refine vRegion ?_
        iterate 3 refine oVal tt rfl rfl rfl rfl rfl trivial ?_
        refine oSplit rfl rfl rfl (fun hb13 => ?_) (fun hb13 => ?_)
        · replace h := cnd_t hb13 h
          iterate 4 refine oNoF rfl rfl rfl rfl hb13 rfl rfl ?_
          refine oPick rfl rfl rfl rfl rfl hb13 rfl ?_
          refine vNil ?_
          change VC _ _ _ _
          refine vCondT rfl rfl ?_
          refine vSeq ?_
          refine vRegion ?_
          refine oVal tt rfl rfl rfl rfl rfl trivial ?_
          refine vNil ?_
          change VC _ _ _ _
          refine vRet ?_
          change ∃ _, _
          cases h
          exact ⟨[], _, rfl, trivial, rfl, (.eq rfl), rfl⟩
        · replace h := cnd_f hb13 h
          iterate 2 refine oValG tt rfl rfl rfl rfl rfl hb13 rfl rfl rfl trivial ?_
          obtain ⟨v10, hc14, h⟩ := bind_inv h
          refine oCallG (L_eqIntS_w N v5 v3 v10 hc14) rfl rfl rfl rfl hb13 rfl rfl rfl rfl rfl rfl rfl ⟨(.inl ⟨rfl, rfl⟩), (.inl ⟨rfl, rfl⟩), trivial⟩ ?_
          refine oValG tt rfl rfl rfl rfl rfl hb13 rfl rfl rfl trivial ?_
          refine oPickF rfl rfl rfl rfl rfl hb13 rfl ?_
          refine vNil ?_
          change VC _ _ _ _
          refine vCond rfl (fun hb15 => ?_) (fun hb15 => ?_)
          · replace h := cnd_t hb15 h
            refine vSeq ?_
            refine vRegion ?_
            refine oVal tt rfl rfl rfl rfl rfl trivial ?_
            refine vNil ?_
            change VC _ _ _ _
            refine vRet ?_
            change ∃ _, _
            cases h
            exact ⟨[], _, rfl, trivial, rfl, (.eq rfl), rfl⟩
          · replace h := cnd_f hb15 h
            refine vSkip ?_
            change VC _ _ _ _
            refine vSeq ?_
            refine vRegion ?_
            refine oVal tt rfl rfl rfl rfl rfl trivial ?_
            refine vNil ?_
            change VC _ _ _ _
            refine vSeq ?_
            refine vRegion ?_
            iterate 2 refine oVal tt rfl rfl rfl rfl rfl trivial ?_
            obtain ⟨v11, hc16, h⟩ := bind_inv h
            refine oMCall (L_markIntS_w N v5 (1 : Int) v11 hc16) [1260] [] [1260] rfl rfl rfl rfl rfl rfl ⟨rfl, trivial⟩ trivial ⟨⟨rfl, rfl⟩, ⟨rfl, rfl⟩, trivial⟩ ?_
            refine oVal tt rfl rfl rfl rfl rfl trivial ?_
            refine vNil ?_
            change VC _ _ _ _
            refine vSeq ?_
            refine vRegion ?_
            refine oVal tt rfl rfl rfl rfl rfl trivial ?_
            refine vNil ?_
            change VC _ _ _ _
            refine vSeq ?_
            refine vRegion ?_
            iterate 2 refine oVal tt rfl rfl rfl rfl rfl trivial ?_
            obtain ⟨hg17, h⟩ := grd_inv h
            obtain ⟨v12, hc18, h⟩ := bind_inv h
            refine oCall (L_heldIntS_w N v11.2 (1 : Int) v12 hc18) rfl rfl rfl rfl rfl rfl rfl rfl ⟨(.inl ⟨hg17, rfl⟩), rfl, trivial⟩ ?_
            refine oVal tt rfl rfl rfl rfl rfl trivial ?_
            refine vNil ?_
            change VC _ _ _ _
            iterate 2 refine vSeq ?_
            refine vRegion ?_
            iterate 2 refine oVal tt rfl rfl rfl rfl rfl trivial ?_
            refine vNil ?_
            change VC _ _ _ _
            refine vCond rfl (fun hb19 => ?_) (fun hb19 => ?_)
            · replace h := cnd_t hb19 h
              refine vSeq ?_
              refine vRegion ?_
              refine oVal tt rfl rfl rfl rfl rfl trivial ?_
              refine vNil ?_
              change VC _ _ _ _
              refine vRet ?_
              change ∃ _, _
              cases h
              exact ⟨[], _, rfl, trivial, rfl, (.eq rfl), rfl⟩
            · replace h := cnd_f hb19 h
              refine vSkip ?_
              change VC _ _ _ _
              iterate 2 refine vSeq ?_
              refine vRegion ?_
              iterate 3 refine oVal tt rfl rfl rfl rfl rfl trivial ?_
              refine vNil ?_
              change VC _ _ _ _
              refine vCond rfl (fun hb20 => ?_) (fun hb20 => ?_)
              · replace h := cnd_t hb20 h
                refine vSeq ?_
                refine vRegion ?_
                refine oVal tt rfl rfl rfl rfl rfl trivial ?_
                refine vNil ?_
                change VC _ _ _ _
                refine vRet ?_
                change ∃ _, _
                cases h
                exact ⟨[], _, rfl, trivial, rfl, (.eq rfl), rfl⟩
              · replace h := cnd_f hb20 h
                refine vSkip ?_
                change VC _ _ _ _
                refine vSeq ?_
                refine vRegion ?_
                refine oVal tt rfl rfl rfl rfl rfl trivial ?_
                obtain ⟨v13, hc21, h⟩ := bind_inv h
                refine oCall (L_toPinned_w N aP_0 v13 hc21) rfl rfl rfl rfl rfl rfl rfl rfl ⟨⟨rfl, rfl, rfl, trivial⟩, trivial⟩ ?_
                refine oVal tt rfl rfl rfl rfl rfl trivial ?_
                obtain ⟨v14, hc22, h⟩ := bind_inv h
                refine oCall (I_FallsWith_w N v13 aBar_1 v14 hc22) rfl rfl rfl rfl rfl rfl rfl rfl ⟨⟨rfl, (.inl ⟨rfl, rfl⟩), (.inl ⟨rfl, rfl⟩), trivial⟩, rfl, trivial⟩ ?_
                refine oVal tt rfl rfl rfl rfl rfl trivial ?_
                refine vNil ?_
                change VC _ _ _ _
                iterate 2 refine vSeq ?_
                refine vRegion ?_
                iterate 2 refine oVal tt rfl rfl rfl rfl rfl trivial ?_
                obtain ⟨v15, hc23, h⟩ := bind_inv h
                refine oCall (L_eqIntS_w N v14 v3 v15 hc23) rfl rfl rfl rfl rfl rfl rfl rfl ⟨(.inl ⟨rfl, rfl⟩), (.inl ⟨rfl, rfl⟩), trivial⟩ ?_
                refine oVal tt rfl rfl rfl rfl rfl trivial ?_
                refine vNil ?_
                change VC _ _ _ _
                refine vCond rfl (fun hb24 => ?_) (fun hb24 => ?_)
                · replace h := cnd_t hb24 h
                  refine vSeq ?_
                  refine vRegion ?_
                  refine oVal tt rfl rfl rfl rfl rfl trivial ?_
                  refine vNil ?_
                  change VC _ _ _ _
                  refine vRet ?_
                  change ∃ _, _
                  cases h
                  exact ⟨[], _, rfl, trivial, rfl, (.eq rfl), rfl⟩
                · replace h := cnd_f hb24 h
                  refine vSkip ?_
                  change VC _ _ _ _
                  refine vSeq ?_
                  refine vRegion ?_
                  refine oVal tt rfl rfl rfl rfl rfl trivial ?_
                  refine vNil ?_
                  change VC _ _ _ _
                  refine vSeq ?_
                  refine vRegion ?_
                  iterate 2 refine oVal tt rfl rfl rfl rfl rfl trivial ?_
                  obtain ⟨v16, hc25, h⟩ := bind_inv h
                  refine oCall (L_heldIntS_w N v11.2 (1 : Int) v16 hc25) rfl rfl rfl rfl rfl rfl rfl rfl ⟨(.inl ⟨hg17, rfl⟩), rfl, trivial⟩ ?_
                  refine oVal tt rfl rfl rfl rfl rfl trivial ?_
                  refine vNil ?_
                  change VC _ _ _ _
                  iterate 2 refine vSeq ?_
                  refine vRegion ?_
                  iterate 2 refine oVal tt rfl rfl rfl rfl rfl trivial ?_
                  refine vNil ?_
                  change VC _ _ _ _
                  refine vCond rfl (fun hb26 => ?_) (fun hb26 => ?_)
                  · replace h := cnd_t hb26 h
                    refine vSeq ?_
                    refine vRegion ?_
                    refine oVal tt rfl rfl rfl rfl rfl trivial ?_
                    refine vNil ?_
                    change VC _ _ _ _
                    refine vRet ?_
                    change ∃ _, _
                    cases h
                    exact ⟨[], _, rfl, trivial, rfl, (.eq rfl), rfl⟩
                  · replace h := cnd_f hb26 h
                    refine vSkip ?_
                    change VC _ _ _ _
                    iterate 2 refine vSeq ?_
                    refine vRegion ?_
                    iterate 3 refine oVal tt rfl rfl rfl rfl rfl trivial ?_
                    refine vNil ?_
                    change VC _ _ _ _
                    refine vCond rfl (fun hb27 => ?_) (fun hb27 => ?_)
                    · replace h := cnd_t hb27 h
                      refine vSeq ?_
                      refine vRegion ?_
                      refine oVal tt rfl rfl rfl rfl rfl trivial ?_
                      refine vNil ?_
                      change VC _ _ _ _
                      refine vRet ?_
                      change ∃ _, _
                      cases h
                      exact ⟨[], _, rfl, trivial, rfl, (.eq rfl), rfl⟩
                    · replace h := cnd_f hb27 h
                      refine vSkip ?_
                      change VC _ _ _ _
                      refine vSeq ?_
                      refine vRegion ?_
                      refine oVal tt rfl rfl rfl rfl rfl trivial ?_
                      refine vNil ?_
                      change VC _ _ _ _
                      refine vRet ?_
                      change ∃ _, _
                      cases h
                      exact ⟨[], _, rfl, trivial, rfl, (.eq rfl), rfl⟩
end Go.Proofs.Ytkpmijmlbpdknaa

namespace Go.Proofs.Ytkpmijmlbpdknaa
open Go.RowKit
set_option linter.unusedVariables false
set_option linter.unusedSimpArgs false
def L_FnExactLeastKept (N : Nat) (aP_0 : Pin) : Option (Bool) :=
  (L_szPinned N aP_0 (1048576 : Int)).bind fun v1 =>
  cnd (decide (v1 < (0 : Int))) (
    some true) (
    (L_toPinned N aP_0).bind fun v2 =>
    (S_LeastKept N v2).bind fun v3 =>
    (L_toPinned N aP_0).bind fun v4 =>
    (I_LeastKept N v4).bind fun v5 =>
    (L_eqIntS N v5 v3).bind fun v6 =>
    cnd (!v6) (
      some false) (
      (L_toPinned N aP_0).bind fun v7 =>
      (L_eqPinned N v4 v7).bind fun v8 =>
      cnd (!v8) (
        some false) (
        (L_markPinned N (⟨⟨v4.g.n, v4.g.bars⟩, v4.ground⟩ : Pin) (1 : Int)).bind fun v9 =>
        cnd (decide (v9.1 < (0 : Int))) (
          some false) (
          (L_eqIntS N v5 v3).bind fun v10 =>
          cnd (!v10) (
            some false) (
            (L_markIntS N v5 (1 : Int)).bind fun v11 =>
            grd (v5.length = v11.2.length) <|
            (L_heldIntS N v11.2 (1 : Int)).bind fun v12 =>
            cnd (decide (v12 < (0 : Int))) (
              some false) (
              cnd (v12 != v11.1) (
                some false) (
                (L_toPinned N aP_0).bind fun v13 =>
                (I_LeastKept N v13).bind fun v14 =>
                (L_eqIntS N v14 v3).bind fun v15 =>
                cnd (!v15) (
                  some false) (
                  (L_heldIntS N v11.2 (1 : Int)).bind fun v16 =>
                  cnd (decide (v16 < (0 : Int))) (
                    some false) (
                    cnd (v16 != v11.1) (
                      some false) (
                      some true))))))))))
set_option maxRecDepth 20000 in
set_option maxHeartbeats 1600000 in
theorem L_FnExactLeastKept_w (N : Nat) (aP_0 : Pin) (r : Bool) (h : L_FnExactLeastKept N aP_0 = some r) : PCall Try.prog 11 [pD aP_0] [] (.bool r) := by
  unfold L_FnExactLeastKept at h
  refine pcall_intro (TT := TT) tt Try.func11 rfl rfl Try.ntmps11 (congrArg Array.toList Try.results11) rfl rfl fun w0 => ?_
  refine vSeq ?_
  refine vRegion ?_
  refine oBox rfl rfl rfl rfl rfl rfl rfl rfl rfl ?_
  refine oVal tt rfl rfl rfl rfl rfl trivial ?_
  refine vNil ?_
  change VC _ _ _ _
  refine vSeq ?_
  refine vRegion ?_
  refine oVal tt rfl rfl rfl rfl rfl trivial ?_
  refine vNil ?_
  change VC _ _ _ _
  refine vSeq ?_
  refine vRegion ?_
  iterate 2 refine oVal tt rfl rfl rfl rfl rfl trivial ?_
  obtain ⟨v1, hc1, h⟩ := bind_inv h
  refine oCall (L_szPinned_w N aP_0 (1048576 : Int) v1 hc1) rfl rfl rfl rfl rfl rfl rfl rfl ⟨⟨rfl, rfl, rfl, trivial⟩, rfl, trivial⟩ ?_
  refine oVal tt rfl rfl rfl rfl rfl trivial ?_
  refine vNil ?_
  change VC _ _ _ _
  iterate 2 refine vSeq ?_
  refine vRegion ?_
  iterate 2 refine oVal tt rfl rfl rfl rfl rfl trivial ?_
  refine vNil ?_
  change VC _ _ _ _
  refine vCond rfl (fun hb2 => ?_) (fun hb2 => ?_)
  · replace h := cnd_t hb2 h
    refine vSeq ?_
    refine vRegion ?_
    refine oVal tt rfl rfl rfl rfl rfl trivial ?_
    refine vNil ?_
    change VC _ _ _ _
    refine vRet ?_
    change ∃ _, _
    cases h
    exact ⟨[], _, rfl, trivial, rfl, (.eq rfl), rfl⟩
  · replace h := cnd_f hb2 h
    refine vSkip ?_
    change VC _ _ _ _
    refine vSeq ?_
    refine vRegion ?_
    refine oVal tt rfl rfl rfl rfl rfl trivial ?_
    obtain ⟨v2, hc3, h⟩ := bind_inv h
    refine oCall (L_toPinned_w N aP_0 v2 hc3) rfl rfl rfl rfl rfl rfl rfl rfl ⟨⟨rfl, rfl, rfl, trivial⟩, trivial⟩ ?_
    obtain ⟨v3, hc4, h⟩ := bind_inv h
    refine oCall (S_LeastKept_w N v2 v3 hc4) rfl rfl rfl rfl rfl rfl rfl rfl ⟨⟨rfl, (.inl ⟨rfl, rfl⟩), (.inl ⟨rfl, rfl⟩), trivial⟩, trivial⟩ ?_
    refine oVal tt rfl rfl rfl rfl rfl trivial ?_
    refine vNil ?_
    change VC _ _ _ _
    refine vSeq ?_
    refine vRegion ?_
    refine oVal tt rfl rfl rfl rfl rfl trivial ?_
    obtain ⟨v4, hc5, h⟩ := bind_inv h
    refine oCall (L_toPinned_w N aP_0 v4 hc5) rfl rfl rfl rfl rfl rfl rfl rfl ⟨⟨rfl, rfl, rfl, trivial⟩, trivial⟩ ?_
    refine oAlloc tt rfl rfl rfl rfl rfl rfl rfl rfl rfl ?_
    refine oStore tt rfl rfl rfl rfl rfl rfl rfl rfl rfl rfl rfl ⟨trivial, trivial, trivial, trivial⟩ ?_
    refine vNil ?_
    change VC _ _ _ _
    refine vSeq ?_
    refine vRegion ?_
    refine oVal tt rfl rfl rfl rfl rfl trivial ?_
    obtain ⟨v5, hc6, h⟩ := bind_inv h
    refine oCall (I_LeastKept_w N v4 v5 hc6) rfl rfl rfl rfl rfl rfl rfl rfl ⟨⟨rfl, (.inl ⟨rfl, rfl⟩), (.inl ⟨rfl, rfl⟩), trivial⟩, trivial⟩ ?_
    refine oVal tt rfl rfl rfl rfl rfl trivial ?_
    refine vNil ?_
    change VC _ _ _ _
    iterate 2 refine vSeq ?_
    refine vRegion ?_
    iterate 2 refine oVal tt rfl rfl rfl rfl rfl trivial ?_
    obtain ⟨v6, hc7, h⟩ := bind_inv h
    refine oCall (L_eqIntS_w N v5 v3 v6 hc7) rfl rfl rfl rfl rfl rfl rfl rfl ⟨(.inl ⟨rfl, rfl⟩), (.inl ⟨rfl, rfl⟩), trivial⟩ ?_
    refine oVal tt rfl rfl rfl rfl rfl trivial ?_
    refine vNil ?_
    change VC _ _ _ _
    refine vCond rfl (fun hb8 => ?_) (fun hb8 => ?_)
    · replace h := cnd_t hb8 h
      refine vSeq ?_
      refine vRegion ?_
      refine oVal tt rfl rfl rfl rfl rfl trivial ?_
      refine vNil ?_
      change VC _ _ _ _
      refine vRet ?_
      change ∃ _, _
      cases h
      exact ⟨[], _, rfl, trivial, rfl, (.eq rfl), rfl⟩
    · replace h := cnd_f hb8 h
      refine vSkip ?_
      change VC _ _ _ _
      iterate 2 refine vSeq ?_
      refine vRegionN 3 [2] [0, 0, 2, 7, 15] (by kernel_rfl) (by kernel_rfl) (by kernel_rfl) (by kernel_rfl) (by kernel_rfl) rfl (by rfl) ?_
      iterate 2 refine nVal tt rfl (wNone rfl) rfl rfl rfl rfl rfl trivial ?_
      obtain ⟨v7, hc9, h⟩ := bind_inv h
      refine nCallR (L_toPinned_w N aP_0 v7 hc9) rfl (wNone rfl) rfl rfl rfl rfl rfl rfl (by first | rfl | kernel_rfl | (simp [nrL, nm, gdst, nmT, rowB]; done)) rfl (by first | rfl | kernel_rfl | (simp [chkE, nrL, nm, gdst, nmT, rowB, hid, ment, mentA, mentS]; done) | (simp [chkE, nrL, nm, gdst, nmT, rowB, hid, ment, mentA, mentS]; decide)) ⟨⟨rfl, rfl, rfl, trivial⟩, trivial⟩ ?_
      refine nNil ?_
      change VO _ _ _ _ _
      obtain ⟨v8, hc10, h⟩ := bind_inv h
      refine oCall (L_eqPinned_w N v4 v7 v8 hc10) rfl rfl rfl rfl rfl rfl rfl rfl ⟨⟨rfl, (.inl ⟨rfl, rfl⟩), (.inl ⟨rfl, rfl⟩), trivial⟩, ⟨rfl, (.inl ⟨rfl, rfl⟩), (.inl ⟨rfl, rfl⟩), trivial⟩, trivial⟩ ?_
      refine oVal tt rfl rfl rfl rfl rfl trivial ?_
      refine vNil ?_
      change VC _ _ _ _
      refine vCond rfl (fun hb11 => ?_) (fun hb11 => ?_)
      · replace h := cnd_t hb11 h
        refine vSeq ?_
        refine vRegion ?_
        refine oVal tt rfl rfl rfl rfl rfl trivial ?_
        refine vNil ?_
        change VC _ _ _ _
        refine vRet ?_
        change ∃ _, _
        cases h
        exact ⟨[], _, rfl, trivial, rfl, (.eq rfl), rfl⟩
      · replace h := cnd_f hb11 h
        refine vSkip ?_
        change VC _ _ _ _
        refine vSeq ?_
        refine vRegion ?_
        refine oVal tt rfl rfl rfl rfl rfl trivial ?_
        refine vNil ?_
        change VC _ _ _ _
        refine vSeq ?_
        refine vRegion ?_
        iterate 2 refine oVal tt rfl rfl rfl rfl rfl trivial ?_
        obtain ⟨v9, hc12, h⟩ := bind_inv h
        refine oMCall (L_markPinned_w N (⟨⟨v4.g.n, v4.g.bars⟩, v4.ground⟩ : Pin) (1 : Int) v9 hc12) [1200, 1201] [] [1200, 1201] rfl rfl rfl rfl rfl rfl ⟨rfl, rfl, trivial⟩ trivial ⟨⟨⟨rfl, rfl⟩, ⟨rfl, rfl⟩, ⟨rfl, rfl⟩, trivial⟩, ⟨rfl, rfl⟩, trivial⟩ ?_
        refine oVal tt rfl rfl rfl rfl rfl trivial ?_
        refine vNil ?_
        change VC _ _ _ _
        iterate 2 refine vSeq ?_
        refine vRegion ?_
        iterate 3 refine oVal tt rfl rfl rfl rfl rfl trivial ?_
        refine oSplit rfl rfl rfl (fun hb13 => ?_) (fun hb13 => ?_)
        · replace h := cnd_t hb13 h
          iterate 4 refine oNoF rfl rfl rfl rfl hb13 rfl rfl ?_
          refine oPick rfl rfl rfl rfl rfl hb13 rfl ?_
          refine vNil ?_
          change VC _ _ _ _
          refine vCondT rfl rfl ?_
          refine vSeq ?_
          refine vRegion ?_
          refine oVal tt rfl rfl rfl rfl rfl trivial ?_
          refine vNil ?_
          change VC _ _ _ _
          refine vRet ?_
          change ∃ _, _
          cases h
          exact ⟨[], _, rfl, trivial, rfl, (.eq rfl), rfl⟩
        · replace h := cnd_f hb13 h
          iterate 2 refine oValG tt rfl rfl rfl rfl rfl hb13 rfl rfl rfl trivial ?_
          obtain ⟨v10, hc14, h⟩ := bind_inv h
          refine oCallG (L_eqIntS_w N v5 v3 v10 hc14) rfl rfl rfl rfl hb13 rfl rfl rfl rfl rfl rfl rfl ⟨(.inl ⟨rfl, rfl⟩), (.inl ⟨rfl, rfl⟩), trivial⟩ ?_
          refine oValG tt rfl rfl rfl rfl rfl hb13 rfl rfl rfl trivial ?_
          refine oPickF rfl rfl rfl rfl rfl hb13 rfl ?_
          refine vNil ?_
          change VC _ _ _ _
          refine vCond rfl (fun hb15 => ?_) (fun hb15 => ?_)
          · replace h := cnd_t hb15 h
            refine vSeq ?_
            refine vRegion ?_
            refine oVal tt rfl rfl rfl rfl rfl trivial ?_
            refine vNil ?_
            change VC _ _ _ _
            refine vRet ?_
            change ∃ _, _
            cases h
            exact ⟨[], _, rfl, trivial, rfl, (.eq rfl), rfl⟩
          · replace h := cnd_f hb15 h
            refine vSkip ?_
            change VC _ _ _ _
            refine vSeq ?_
            refine vRegion ?_
            refine oVal tt rfl rfl rfl rfl rfl trivial ?_
            refine vNil ?_
            change VC _ _ _ _
            refine vSeq ?_
            refine vRegion ?_
            iterate 2 refine oVal tt rfl rfl rfl rfl rfl trivial ?_
            obtain ⟨v11, hc16, h⟩ := bind_inv h
            refine oMCall (L_markIntS_w N v5 (1 : Int) v11 hc16) [1220] [] [1220] rfl rfl rfl rfl rfl rfl ⟨rfl, trivial⟩ trivial ⟨⟨rfl, rfl⟩, ⟨rfl, rfl⟩, trivial⟩ ?_
            refine oVal tt rfl rfl rfl rfl rfl trivial ?_
            refine vNil ?_
            change VC _ _ _ _
            refine vSeq ?_
            refine vRegion ?_
            refine oVal tt rfl rfl rfl rfl rfl trivial ?_
            refine vNil ?_
            change VC _ _ _ _
            refine vSeq ?_
            refine vRegion ?_
            iterate 2 refine oVal tt rfl rfl rfl rfl rfl trivial ?_
            obtain ⟨hg17, h⟩ := grd_inv h
            obtain ⟨v12, hc18, h⟩ := bind_inv h
            refine oCall (L_heldIntS_w N v11.2 (1 : Int) v12 hc18) rfl rfl rfl rfl rfl rfl rfl rfl ⟨(.inl ⟨hg17, rfl⟩), rfl, trivial⟩ ?_
            refine oVal tt rfl rfl rfl rfl rfl trivial ?_
            refine vNil ?_
            change VC _ _ _ _
            iterate 2 refine vSeq ?_
            refine vRegion ?_
            iterate 2 refine oVal tt rfl rfl rfl rfl rfl trivial ?_
            refine vNil ?_
            change VC _ _ _ _
            refine vCond rfl (fun hb19 => ?_) (fun hb19 => ?_)
            · replace h := cnd_t hb19 h
              refine vSeq ?_
              refine vRegion ?_
              refine oVal tt rfl rfl rfl rfl rfl trivial ?_
              refine vNil ?_
              change VC _ _ _ _
              refine vRet ?_
              change ∃ _, _
              cases h
              exact ⟨[], _, rfl, trivial, rfl, (.eq rfl), rfl⟩
            · replace h := cnd_f hb19 h
              refine vSkip ?_
              change VC _ _ _ _
              iterate 2 refine vSeq ?_
              refine vRegion ?_
              iterate 3 refine oVal tt rfl rfl rfl rfl rfl trivial ?_
              refine vNil ?_
              change VC _ _ _ _
              refine vCond rfl (fun hb20 => ?_) (fun hb20 => ?_)
              · replace h := cnd_t hb20 h
                refine vSeq ?_
                refine vRegion ?_
                refine oVal tt rfl rfl rfl rfl rfl trivial ?_
                refine vNil ?_
                change VC _ _ _ _
                refine vRet ?_
                change ∃ _, _
                cases h
                exact ⟨[], _, rfl, trivial, rfl, (.eq rfl), rfl⟩
              · replace h := cnd_f hb20 h
                refine vSkip ?_
                change VC _ _ _ _
                refine vSeq ?_
                refine vRegion ?_
                refine oVal tt rfl rfl rfl rfl rfl trivial ?_
                obtain ⟨v13, hc21, h⟩ := bind_inv h
                refine oCall (L_toPinned_w N aP_0 v13 hc21) rfl rfl rfl rfl rfl rfl rfl rfl ⟨⟨rfl, rfl, rfl, trivial⟩, trivial⟩ ?_
                obtain ⟨v14, hc22, h⟩ := bind_inv h
                refine oCall (I_LeastKept_w N v13 v14 hc22) rfl rfl rfl rfl rfl rfl rfl rfl ⟨⟨rfl, (.inl ⟨rfl, rfl⟩), (.inl ⟨rfl, rfl⟩), trivial⟩, trivial⟩ ?_
                refine oVal tt rfl rfl rfl rfl rfl trivial ?_
                refine vNil ?_
                change VC _ _ _ _
                iterate 2 refine vSeq ?_
                refine vRegion ?_
                iterate 2 refine oVal tt rfl rfl rfl rfl rfl trivial ?_
                obtain ⟨v15, hc23, h⟩ := bind_inv h
                refine oCall (L_eqIntS_w N v14 v3 v15 hc23) rfl rfl rfl rfl rfl rfl rfl rfl ⟨(.inl ⟨rfl, rfl⟩), (.inl ⟨rfl, rfl⟩), trivial⟩ ?_
                refine oVal tt rfl rfl rfl rfl rfl trivial ?_
                refine vNil ?_
                change VC _ _ _ _
                refine vCond rfl (fun hb24 => ?_) (fun hb24 => ?_)
                · replace h := cnd_t hb24 h
                  refine vSeq ?_
                  refine vRegion ?_
                  refine oVal tt rfl rfl rfl rfl rfl trivial ?_
                  refine vNil ?_
                  change VC _ _ _ _
                  refine vRet ?_
                  change ∃ _, _
                  cases h
                  exact ⟨[], _, rfl, trivial, rfl, (.eq rfl), rfl⟩
                · replace h := cnd_f hb24 h
                  refine vSkip ?_
                  change VC _ _ _ _
                  refine vSeq ?_
                  refine vRegion ?_
                  refine oVal tt rfl rfl rfl rfl rfl trivial ?_
                  refine vNil ?_
                  change VC _ _ _ _
                  refine vSeq ?_
                  refine vRegion ?_
                  iterate 2 refine oVal tt rfl rfl rfl rfl rfl trivial ?_
                  obtain ⟨v16, hc25, h⟩ := bind_inv h
                  refine oCall (L_heldIntS_w N v11.2 (1 : Int) v16 hc25) rfl rfl rfl rfl rfl rfl rfl rfl ⟨(.inl ⟨hg17, rfl⟩), rfl, trivial⟩ ?_
                  refine oVal tt rfl rfl rfl rfl rfl trivial ?_
                  refine vNil ?_
                  change VC _ _ _ _
                  iterate 2 refine vSeq ?_
                  refine vRegion ?_
                  iterate 2 refine oVal tt rfl rfl rfl rfl rfl trivial ?_
                  refine vNil ?_
                  change VC _ _ _ _
                  refine vCond rfl (fun hb26 => ?_) (fun hb26 => ?_)
                  · replace h := cnd_t hb26 h
                    refine vSeq ?_
                    refine vRegion ?_
                    refine oVal tt rfl rfl rfl rfl rfl trivial ?_
                    refine vNil ?_
                    change VC _ _ _ _
                    refine vRet ?_
                    change ∃ _, _
                    cases h
                    exact ⟨[], _, rfl, trivial, rfl, (.eq rfl), rfl⟩
                  · replace h := cnd_f hb26 h
                    refine vSkip ?_
                    change VC _ _ _ _
                    iterate 2 refine vSeq ?_
                    refine vRegion ?_
                    iterate 3 refine oVal tt rfl rfl rfl rfl rfl trivial ?_
                    refine vNil ?_
                    change VC _ _ _ _
                    refine vCond rfl (fun hb27 => ?_) (fun hb27 => ?_)
                    · replace h := cnd_t hb27 h
                      refine vSeq ?_
                      refine vRegion ?_
                      refine oVal tt rfl rfl rfl rfl rfl trivial ?_
                      refine vNil ?_
                      change VC _ _ _ _
                      refine vRet ?_
                      change ∃ _, _
                      cases h
                      exact ⟨[], _, rfl, trivial, rfl, (.eq rfl), rfl⟩
                    · replace h := cnd_f hb27 h
                      refine vSkip ?_
                      change VC _ _ _ _
                      refine vSeq ?_
                      refine vRegion ?_
                      refine oVal tt rfl rfl rfl rfl rfl trivial ?_
                      refine vNil ?_
                      change VC _ _ _ _
                      refine vRet ?_
                      change ∃ _, _
                      cases h
                      exact ⟨[], _, rfl, trivial, rfl, (.eq rfl), rfl⟩
end Go.Proofs.Ytkpmijmlbpdknaa

namespace Go.Proofs.Ytkpmijmlbpdknaa
open Go.RowKit
set_option linter.unusedVariables false
set_option linter.unusedSimpArgs false
def L_FnExactRemoveAll (N : Nat) (aP_0 : Pin) : Option (Bool) :=
  (L_szPinned N aP_0 (1048576 : Int)).bind fun v1 =>
  cnd (decide (v1 < (0 : Int))) (
    some true) (
    (L_toPinned N aP_0).bind fun v2 =>
    (S_RemoveAll N v2).bind fun v3 =>
    (L_toPinned N aP_0).bind fun v4 =>
    (I_RemoveAll N v4).bind fun v5 =>
    (L_eqIntS N v5.1 v3.1).bind fun v6 =>
    cnd (!v6) (
      some false) (
      (L_eqPinned N v5.2 v3.2).bind fun v7 =>
      cnd (!v7) (
        some false) (
        (L_toPinned N aP_0).bind fun v8 =>
        (L_eqPinned N v4 v8).bind fun v9 =>
        cnd (!v9) (
          some false) (
          (L_markPinned N (⟨⟨v4.g.n, v4.g.bars⟩, v4.ground⟩ : Pin) (1 : Int)).bind fun v10 =>
          cnd (decide (v10.1 < (0 : Int))) (
            some false) (
            (L_eqIntS N v5.1 v3.1).bind fun v11 =>
            cnd (!v11) (
              some false) (
              (L_eqPinned N v5.2 v3.2).bind fun v12 =>
              cnd (!v12) (
                some false) (
                (L_markIntS N v5.1 (1 : Int)).bind fun v13 =>
                (L_markPinned N (⟨⟨v5.2.g.n, v5.2.g.bars⟩, v5.2.ground⟩ : Pin) v13.1).bind fun v14 =>
                grd (v5.1.length = v13.2.length) <|
                (L_heldIntS N v13.2 (1 : Int)).bind fun v15 =>
                cnd (decide (v15 < (0 : Int))) (
                  some false) (
                  grd (v5.2.g.bars.length = v14.2.1.length) <|
                  grd (v5.2.ground.length = v14.2.2.length) <|
                  (L_heldPinned N (⟨⟨v5.2.g.n, v14.2.1⟩, v14.2.2⟩ : Pin) v15).bind fun v16 =>
                  cnd (decide (v16 < (0 : Int))) (
                    some false) (
                    cnd (v16 != v14.1) (
                      some false) (
                      (L_toPinned N aP_0).bind fun v17 =>
                      (I_RemoveAll N v17).bind fun v18 =>
                      (L_eqIntS N v18.1 v3.1).bind fun v19 =>
                      cnd (!v19) (
                        some false) (
                        (L_eqPinned N v18.2 v3.2).bind fun v20 =>
                        cnd (!v20) (
                          some false) (
                          (L_heldIntS N v13.2 (1 : Int)).bind fun v21 =>
                          cnd (decide (v21 < (0 : Int))) (
                            some false) (
                            (L_heldPinned N (⟨⟨v5.2.g.n, v14.2.1⟩, v14.2.2⟩ : Pin) v21).bind fun v22 =>
                            cnd (decide (v22 < (0 : Int))) (
                              some false) (
                              cnd (v22 != v14.1) (
                                some false) (
                                some true)))))))))))))))
set_option maxRecDepth 20000 in
set_option maxHeartbeats 1600000 in
theorem L_FnExactRemoveAll_w (N : Nat) (aP_0 : Pin) (r : Bool) (h : L_FnExactRemoveAll N aP_0 = some r) : PCall Try.prog 12 [pD aP_0] [] (.bool r) := by
  unfold L_FnExactRemoveAll at h
  refine pcall_intro (TT := TT) tt Try.func12 rfl rfl Try.ntmps12 (congrArg Array.toList Try.results12) rfl rfl fun w0 => ?_
  refine vSeq ?_
  refine vRegion ?_
  refine oBox rfl rfl rfl rfl rfl rfl rfl rfl rfl ?_
  refine oVal tt rfl rfl rfl rfl rfl trivial ?_
  refine vNil ?_
  change VC _ _ _ _
  refine vSeq ?_
  refine vRegion ?_
  refine oVal tt rfl rfl rfl rfl rfl trivial ?_
  refine vNil ?_
  change VC _ _ _ _
  refine vSeq ?_
  refine vRegion ?_
  iterate 2 refine oVal tt rfl rfl rfl rfl rfl trivial ?_
  obtain ⟨v1, hc1, h⟩ := bind_inv h
  refine oCall (L_szPinned_w N aP_0 (1048576 : Int) v1 hc1) rfl rfl rfl rfl rfl rfl rfl rfl ⟨⟨rfl, rfl, rfl, trivial⟩, rfl, trivial⟩ ?_
  refine oVal tt rfl rfl rfl rfl rfl trivial ?_
  refine vNil ?_
  change VC _ _ _ _
  iterate 2 refine vSeq ?_
  refine vRegion ?_
  iterate 2 refine oVal tt rfl rfl rfl rfl rfl trivial ?_
  refine vNil ?_
  change VC _ _ _ _
  refine vCond rfl (fun hb2 => ?_) (fun hb2 => ?_)
  · replace h := cnd_t hb2 h
    refine vSeq ?_
    refine vRegion ?_
    refine oVal tt rfl rfl rfl rfl rfl trivial ?_
    refine vNil ?_
    change VC _ _ _ _
    refine vRet ?_
    change ∃ _, _
    cases h
    exact ⟨[], _, rfl, trivial, rfl, (.eq rfl), rfl⟩
  · replace h := cnd_f hb2 h
    refine vSkip ?_
    change VC _ _ _ _
    refine vSeq ?_
    refine vRegion ?_
    refine oVal tt rfl rfl rfl rfl rfl trivial ?_
    obtain ⟨v2, hc3, h⟩ := bind_inv h
    refine oCall (L_toPinned_w N aP_0 v2 hc3) rfl rfl rfl rfl rfl rfl rfl rfl ⟨⟨rfl, rfl, rfl, trivial⟩, trivial⟩ ?_
    obtain ⟨v3, hc4, h⟩ := bind_inv h
    refine oCall (S_RemoveAll_w N v2 v3 hc4) rfl rfl rfl rfl rfl rfl rfl rfl ⟨⟨rfl, (.inl ⟨rfl, rfl⟩), (.inl ⟨rfl, rfl⟩), trivial⟩, trivial⟩ ?_
    iterate 3 refine oVal tt rfl rfl rfl rfl rfl trivial ?_
    refine oAlloc tt rfl rfl rfl rfl rfl rfl rfl rfl rfl ?_
    refine oVal tt rfl rfl rfl rfl rfl trivial ?_
    refine oStore tt rfl rfl rfl rfl rfl rfl rfl rfl rfl rfl rfl ⟨trivial, trivial, trivial, trivial⟩ ?_
    refine vNil ?_
    change VC _ _ _ _
    refine vSeq ?_
    refine vRegion ?_
    refine oVal tt rfl rfl rfl rfl rfl trivial ?_
    obtain ⟨v4, hc5, h⟩ := bind_inv h
    refine oCall (L_toPinned_w N aP_0 v4 hc5) rfl rfl rfl rfl rfl rfl rfl rfl ⟨⟨rfl, rfl, rfl, trivial⟩, trivial⟩ ?_
    refine oAlloc tt rfl rfl rfl rfl rfl rfl rfl rfl rfl ?_
    refine oStore tt rfl rfl rfl rfl rfl rfl rfl rfl rfl rfl rfl ⟨trivial, trivial, trivial, trivial⟩ ?_
    refine vNil ?_
    change VC _ _ _ _
    refine vSeq ?_
    refine vRegion ?_
    refine oVal tt rfl rfl rfl rfl rfl trivial ?_
    obtain ⟨v5, hc6, h⟩ := bind_inv h
    refine oCall (I_RemoveAll_w N v4 v5 hc6) rfl rfl rfl rfl rfl rfl rfl rfl ⟨⟨rfl, (.inl ⟨rfl, rfl⟩), (.inl ⟨rfl, rfl⟩), trivial⟩, trivial⟩ ?_
    iterate 3 refine oVal tt rfl rfl rfl rfl rfl trivial ?_
    refine oAlloc tt rfl rfl rfl rfl rfl rfl rfl rfl rfl ?_
    refine oVal tt rfl rfl rfl rfl rfl trivial ?_
    refine oStore tt rfl rfl rfl rfl rfl rfl rfl rfl rfl rfl rfl ⟨trivial, trivial, trivial, trivial⟩ ?_
    refine vNil ?_
    change VC _ _ _ _
    iterate 2 refine vSeq ?_
    refine vRegion ?_
    iterate 2 refine oVal tt rfl rfl rfl rfl rfl trivial ?_
    obtain ⟨v6, hc7, h⟩ := bind_inv h
    refine oCall (L_eqIntS_w N v5.1 v3.1 v6 hc7) rfl rfl rfl rfl rfl rfl rfl rfl ⟨(.inl ⟨rfl, rfl⟩), (.inl ⟨rfl, rfl⟩), trivial⟩ ?_
    iterate 2 refine oVal tt rfl rfl rfl rfl rfl trivial ?_
    refine oSplit rfl rfl rfl (fun hb8 => ?_) (fun hb8 => ?_)
    · replace h := cnd_t hb8 h
      iterate 4 refine oNoF rfl rfl rfl rfl hb8 rfl rfl ?_
      refine oPick rfl rfl rfl rfl rfl hb8 rfl ?_
      refine vNil ?_
      change VC _ _ _ _
      refine vCondT rfl rfl ?_
      refine vSeq ?_
      refine vRegion ?_
      refine oVal tt rfl rfl rfl rfl rfl trivial ?_
      refine vNil ?_
      change VC _ _ _ _
      refine vRet ?_
      change ∃ _, _
      cases h
      exact ⟨[], _, rfl, trivial, rfl, (.eq rfl), rfl⟩
    · replace h := cnd_f hb8 h
      iterate 2 refine oValG tt rfl rfl rfl rfl rfl hb8 rfl rfl rfl trivial ?_
      obtain ⟨v7, hc9, h⟩ := bind_inv h
      refine oCallG (L_eqPinned_w N v5.2 v3.2 v7 hc9) rfl rfl rfl rfl hb8 rfl rfl rfl rfl rfl rfl rfl ⟨⟨rfl, (.inl ⟨rfl, rfl⟩), (.inl ⟨rfl, rfl⟩), trivial⟩, ⟨rfl, (.inl ⟨rfl, rfl⟩), (.inl ⟨rfl, rfl⟩), trivial⟩, trivial⟩ ?_
      refine oValG tt rfl rfl rfl rfl rfl hb8 rfl rfl rfl trivial ?_
      refine oPickF rfl rfl rfl rfl rfl hb8 rfl ?_
      refine vNil ?_
      change VC _ _ _ _
      refine vCond rfl (fun hb10 => ?_) (fun hb10 => ?_)
      · replace h := cnd_t hb10 h
        refine vSeq ?_
        refine vRegion ?_
        refine oVal tt rfl rfl rfl rfl rfl trivial ?_
        refine vNil ?_
        change VC _ _ _ _
        refine vRet ?_
        change ∃ _, _
        cases h
        exact ⟨[], _, rfl, trivial, rfl, (.eq rfl), rfl⟩
      · replace h := cnd_f hb10 h
        refine vSkip ?_
        change VC _ _ _ _
        iterate 2 refine vSeq ?_
        refine vRegionN 3 [2] [0, 0, 2, 7, 15] (by kernel_rfl) (by kernel_rfl) (by kernel_rfl) (by kernel_rfl) (by kernel_rfl) rfl (by rfl) ?_
        iterate 2 refine nVal tt rfl (wNone rfl) rfl rfl rfl rfl rfl trivial ?_
        obtain ⟨v8, hc11, h⟩ := bind_inv h
        refine nCallR (L_toPinned_w N aP_0 v8 hc11) rfl (wNone rfl) rfl rfl rfl rfl rfl rfl (by first | rfl | kernel_rfl | (simp [nrL, nm, gdst, nmT, rowB]; done)) rfl (by first | rfl | kernel_rfl | (simp [chkE, nrL, nm, gdst, nmT, rowB, hid, ment, mentA, mentS]; done) | (simp [chkE, nrL, nm, gdst, nmT, rowB, hid, ment, mentA, mentS]; decide)) ⟨⟨rfl, rfl, rfl, trivial⟩, trivial⟩ ?_
        refine nNil ?_
        change VO _ _ _ _ _
        obtain ⟨v9, hc12, h⟩ := bind_inv h
        refine oCall (L_eqPinned_w N v4 v8 v9 hc12) rfl rfl rfl rfl rfl rfl rfl rfl ⟨⟨rfl, (.inl ⟨rfl, rfl⟩), (.inl ⟨rfl, rfl⟩), trivial⟩, ⟨rfl, (.inl ⟨rfl, rfl⟩), (.inl ⟨rfl, rfl⟩), trivial⟩, trivial⟩ ?_
        refine oVal tt rfl rfl rfl rfl rfl trivial ?_
        refine vNil ?_
        change VC _ _ _ _
        refine vCond rfl (fun hb13 => ?_) (fun hb13 => ?_)
        · replace h := cnd_t hb13 h
          refine vSeq ?_
          refine vRegion ?_
          refine oVal tt rfl rfl rfl rfl rfl trivial ?_
          refine vNil ?_
          change VC _ _ _ _
          refine vRet ?_
          change ∃ _, _
          cases h
          exact ⟨[], _, rfl, trivial, rfl, (.eq rfl), rfl⟩
        · replace h := cnd_f hb13 h
          refine vSkip ?_
          change VC _ _ _ _
          refine vSeq ?_
          refine vRegion ?_
          refine oVal tt rfl rfl rfl rfl rfl trivial ?_
          refine vNil ?_
          change VC _ _ _ _
          refine vSeq ?_
          refine vRegion ?_
          iterate 2 refine oVal tt rfl rfl rfl rfl rfl trivial ?_
          obtain ⟨v10, hc14, h⟩ := bind_inv h
          refine oMCall (L_markPinned_w N (⟨⟨v4.g.n, v4.g.bars⟩, v4.ground⟩ : Pin) (1 : Int) v10 hc14) [1260, 1261] [] [1260, 1261] rfl rfl rfl rfl rfl rfl ⟨rfl, rfl, trivial⟩ trivial ⟨⟨⟨rfl, rfl⟩, ⟨rfl, rfl⟩, ⟨rfl, rfl⟩, trivial⟩, ⟨rfl, rfl⟩, trivial⟩ ?_
          refine oVal tt rfl rfl rfl rfl rfl trivial ?_
          refine vNil ?_
          change VC _ _ _ _
          iterate 2 refine vSeq ?_
          refine vRegion ?_
          iterate 3 refine oVal tt rfl rfl rfl rfl rfl trivial ?_
          refine oSplit rfl rfl rfl (fun hb15 => ?_) (fun hb15 => ?_)
          · replace h := cnd_t hb15 h
            iterate 4 refine oNoF rfl rfl rfl rfl hb15 rfl rfl ?_
            refine oPick rfl rfl rfl rfl rfl hb15 rfl ?_
            refine oVal tt rfl rfl rfl rfl rfl trivial ?_
            iterate 4 refine oNoF rfl rfl rfl rfl rfl rfl rfl ?_
            refine oPick rfl rfl rfl rfl rfl rfl rfl ?_
            refine vNil ?_
            change VC _ _ _ _
            refine vCondT rfl rfl ?_
            refine vSeq ?_
            refine vRegion ?_
            refine oVal tt rfl rfl rfl rfl rfl trivial ?_
            refine vNil ?_
            change VC _ _ _ _
            refine vRet ?_
            change ∃ _, _
            cases h
            exact ⟨[], _, rfl, trivial, rfl, (.eq rfl), rfl⟩
          · replace h := cnd_f hb15 h
            iterate 2 refine oValG tt rfl rfl rfl rfl rfl hb15 rfl rfl rfl trivial ?_
            obtain ⟨v11, hc16, h⟩ := bind_inv h
            refine oCallG (L_eqIntS_w N v5.1 v3.1 v11 hc16) rfl rfl rfl rfl hb15 rfl rfl rfl rfl rfl rfl rfl ⟨(.inl ⟨rfl, rfl⟩), (.inl ⟨rfl, rfl⟩), trivial⟩ ?_
            refine oValG tt rfl rfl rfl rfl rfl hb15 rfl rfl rfl trivial ?_
            refine oPickF rfl rfl rfl rfl rfl hb15 rfl ?_
            refine oVal tt rfl rfl rfl rfl rfl trivial ?_
            refine oSplit rfl rfl rfl (fun hb17 => ?_) (fun hb17 => ?_)
            · replace h := cnd_t hb17 h
              iterate 4 refine oNoF rfl rfl rfl rfl hb17 rfl rfl ?_
              refine oPick rfl rfl rfl rfl rfl hb17 rfl ?_
              refine vNil ?_
              change VC _ _ _ _
              refine vCondT rfl rfl ?_
              refine vSeq ?_
              refine vRegion ?_
              refine oVal tt rfl rfl rfl rfl rfl trivial ?_
              refine vNil ?_
              change VC _ _ _ _
              refine vRet ?_
              change ∃ _, _
              cases h
              exact ⟨[], _, rfl, trivial, rfl, (.eq rfl), rfl⟩
            · replace h := cnd_f hb17 h
              iterate 2 refine oValG tt rfl rfl rfl rfl rfl hb17 rfl rfl rfl trivial ?_
              obtain ⟨v12, hc18, h⟩ := bind_inv h
              refine oCallG (L_eqPinned_w N v5.2 v3.2 v12 hc18) rfl rfl rfl rfl hb17 rfl rfl rfl rfl rfl rfl rfl ⟨⟨rfl, (.inl ⟨rfl, rfl⟩), (.inl ⟨rfl, rfl⟩), trivial⟩, ⟨rfl, (.inl ⟨rfl, rfl⟩), (.inl ⟨rfl, rfl⟩), trivial⟩, trivial⟩ ?_
              refine oValG tt rfl rfl rfl rfl rfl hb17 rfl rfl rfl trivial ?_
              refine oPickF rfl rfl rfl rfl rfl hb17 rfl ?_
              refine vNil ?_
              change VC _ _ _ _
              refine vCond rfl (fun hb19 => ?_) (fun hb19 => ?_)
              · replace h := cnd_t hb19 h
                refine vSeq ?_
                refine vRegion ?_
                refine oVal tt rfl rfl rfl rfl rfl trivial ?_
                refine vNil ?_
                change VC _ _ _ _
                refine vRet ?_
                change ∃ _, _
                cases h
                exact ⟨[], _, rfl, trivial, rfl, (.eq rfl), rfl⟩
              · replace h := cnd_f hb19 h
                refine vSkip ?_
                change VC _ _ _ _
                refine vSeq ?_
                refine vRegion ?_
                refine oVal tt rfl rfl rfl rfl rfl trivial ?_
                refine vNil ?_
                change VC _ _ _ _
                refine vSeq ?_
                refine vRegion ?_
                iterate 2 refine oVal tt rfl rfl rfl rfl rfl trivial ?_
                obtain ⟨v13, hc20, h⟩ := bind_inv h
                refine oMCall (L_markIntS_w N v5.1 (1 : Int) v13 hc20) [1290] [] [1290] rfl rfl rfl rfl rfl rfl ⟨rfl, trivial⟩ trivial ⟨⟨rfl, rfl⟩, ⟨rfl, rfl⟩, trivial⟩ ?_
                refine oVal tt rfl rfl rfl rfl rfl trivial ?_
                refine vNil ?_
                change VC _ _ _ _
                refine vSeq ?_
                refine vRegion ?_
                iterate 2 refine oVal tt rfl rfl rfl rfl rfl trivial ?_
                obtain ⟨v14, hc21, h⟩ := bind_inv h
                refine oMCall (L_markPinned_w N (⟨⟨v5.2.g.n, v5.2.g.bars⟩, v5.2.ground⟩ : Pin) v13.1 v14 hc21) [1291, 1292] [] [1291, 1292] rfl rfl rfl rfl rfl rfl ⟨rfl, rfl, trivial⟩ trivial ⟨⟨⟨rfl, rfl⟩, ⟨rfl, rfl⟩, ⟨rfl, rfl⟩, trivial⟩, ⟨rfl, rfl⟩, trivial⟩ ?_
                refine oVal tt rfl rfl rfl rfl rfl trivial ?_
                refine vNil ?_
                change VC _ _ _ _
                refine vSeq ?_
                refine vRegion ?_
                refine oVal tt rfl rfl rfl rfl rfl trivial ?_
                refine vNil ?_
                change VC _ _ _ _
                refine vSeq ?_
                refine vRegion ?_
                iterate 2 refine oVal tt rfl rfl rfl rfl rfl trivial ?_
                obtain ⟨hg22, h⟩ := grd_inv h
                obtain ⟨v15, hc23, h⟩ := bind_inv h
                refine oCall (L_heldIntS_w N v13.2 (1 : Int) v15 hc23) rfl rfl rfl rfl rfl rfl rfl rfl ⟨(.inl ⟨hg22, rfl⟩), rfl, trivial⟩ ?_
                refine oVal tt rfl rfl rfl rfl rfl trivial ?_
                refine vNil ?_
                change VC _ _ _ _
                iterate 2 refine vSeq ?_
                refine vRegion ?_
                iterate 2 refine oVal tt rfl rfl rfl rfl rfl trivial ?_
                refine vNil ?_
                change VC _ _ _ _
                refine vCond rfl (fun hb24 => ?_) (fun hb24 => ?_)
                · replace h := cnd_t hb24 h
                  refine vSeq ?_
                  refine vRegion ?_
                  refine oVal tt rfl rfl rfl rfl rfl trivial ?_
                  refine vNil ?_
                  change VC _ _ _ _
                  refine vRet ?_
                  change ∃ _, _
                  cases h
                  exact ⟨[], _, rfl, trivial, rfl, (.eq rfl), rfl⟩
                · replace h := cnd_f hb24 h
                  refine vSkip ?_
                  change VC _ _ _ _
                  refine vSeq ?_
                  refine vRegion ?_
                  iterate 2 refine oVal tt rfl rfl rfl rfl rfl trivial ?_
                  obtain ⟨hg25, h⟩ := grd_inv h
                  obtain ⟨hg26, h⟩ := grd_inv h
                  obtain ⟨v16, hc27, h⟩ := bind_inv h
                  refine oCall (L_heldPinned_w N (⟨⟨v5.2.g.n, v14.2.1⟩, v14.2.2⟩ : Pin) v15 v16 hc27) rfl rfl rfl rfl rfl rfl rfl rfl ⟨⟨rfl, (.inl ⟨hg25, rfl⟩), (.inl ⟨hg26, rfl⟩), trivial⟩, rfl, trivial⟩ ?_
                  refine oVal tt rfl rfl rfl rfl rfl trivial ?_
                  refine vNil ?_
                  change VC _ _ _ _
                  iterate 2 refine vSeq ?_
                  refine vRegion ?_
                  iterate 2 refine oVal tt rfl rfl rfl rfl rfl trivial ?_
                  refine vNil ?_
                  change VC _ _ _ _
                  refine vCond rfl (fun hb28 => ?_) (fun hb28 => ?_)
                  · replace h := cnd_t hb28 h
                    refine vSeq ?_
                    refine vRegion ?_
                    refine oVal tt rfl rfl rfl rfl rfl trivial ?_
                    refine vNil ?_
                    change VC _ _ _ _
                    refine vRet ?_
                    change ∃ _, _
                    cases h
                    exact ⟨[], _, rfl, trivial, rfl, (.eq rfl), rfl⟩
                  · replace h := cnd_f hb28 h
                    refine vSkip ?_
                    change VC _ _ _ _
                    iterate 2 refine vSeq ?_
                    refine vRegion ?_
                    iterate 3 refine oVal tt rfl rfl rfl rfl rfl trivial ?_
                    refine vNil ?_
                    change VC _ _ _ _
                    refine vCond rfl (fun hb29 => ?_) (fun hb29 => ?_)
                    · replace h := cnd_t hb29 h
                      refine vSeq ?_
                      refine vRegion ?_
                      refine oVal tt rfl rfl rfl rfl rfl trivial ?_
                      refine vNil ?_
                      change VC _ _ _ _
                      refine vRet ?_
                      change ∃ _, _
                      cases h
                      exact ⟨[], _, rfl, trivial, rfl, (.eq rfl), rfl⟩
                    · replace h := cnd_f hb29 h
                      refine vSkip ?_
                      change VC _ _ _ _
                      refine vSeq ?_
                      refine vRegion ?_
                      refine oVal tt rfl rfl rfl rfl rfl trivial ?_
                      obtain ⟨v17, hc30, h⟩ := bind_inv h
                      refine oCall (L_toPinned_w N aP_0 v17 hc30) rfl rfl rfl rfl rfl rfl rfl rfl ⟨⟨rfl, rfl, rfl, trivial⟩, trivial⟩ ?_
                      obtain ⟨v18, hc31, h⟩ := bind_inv h
                      refine oCall (I_RemoveAll_w N v17 v18 hc31) rfl rfl rfl rfl rfl rfl rfl rfl ⟨⟨rfl, (.inl ⟨rfl, rfl⟩), (.inl ⟨rfl, rfl⟩), trivial⟩, trivial⟩ ?_
                      iterate 3 refine oVal tt rfl rfl rfl rfl rfl trivial ?_
                      refine oAlloc tt rfl rfl rfl rfl rfl rfl rfl rfl rfl ?_
                      refine oVal tt rfl rfl rfl rfl rfl trivial ?_
                      refine oStore tt rfl rfl rfl rfl rfl rfl rfl rfl rfl rfl rfl ⟨trivial, trivial, trivial, trivial⟩ ?_
                      refine vNil ?_
                      change VC _ _ _ _
                      iterate 2 refine vSeq ?_
                      refine vRegion ?_
                      iterate 2 refine oVal tt rfl rfl rfl rfl rfl trivial ?_
                      obtain ⟨v19, hc32, h⟩ := bind_inv h
                      refine oCall (L_eqIntS_w N v18.1 v3.1 v19 hc32) rfl rfl rfl rfl rfl rfl rfl rfl ⟨(.inl ⟨rfl, rfl⟩), (.inl ⟨rfl, rfl⟩), trivial⟩ ?_
                      iterate 2 refine oVal tt rfl rfl rfl rfl rfl trivial ?_
                      refine oSplit rfl rfl rfl (fun hb33 => ?_) (fun hb33 => ?_)
                      · replace h := cnd_t hb33 h
                        iterate 4 refine oNoF rfl rfl rfl rfl hb33 rfl rfl ?_
                        refine oPick rfl rfl rfl rfl rfl hb33 rfl ?_
                        refine vNil ?_
                        change VC _ _ _ _
                        refine vCondT rfl rfl ?_
                        refine vSeq ?_
                        refine vRegion ?_
                        refine oVal tt rfl rfl rfl rfl rfl trivial ?_
                        refine vNil ?_
                        change VC _ _ _ _
                        refine vRet ?_
                        change ∃ _, _
                        cases h
                        exact ⟨[], _, rfl, trivial, rfl, (.eq rfl), rfl⟩
                      · replace h := cnd_f hb33 h
                        iterate 2 refine oValG tt rfl rfl rfl rfl rfl hb33 rfl rfl rfl trivial ?_
                        obtain ⟨v20, hc34, h⟩ := bind_inv h
                        refine oCallG (L_eqPinned_w N v18.2 v3.2 v20 hc34) rfl rfl rfl rfl hb33 rfl rfl rfl rfl rfl rfl rfl ⟨⟨rfl, (.inl ⟨rfl, rfl⟩), (.inl ⟨rfl, rfl⟩), trivial⟩, ⟨rfl, (.inl ⟨rfl, rfl⟩), (.inl ⟨rfl, rfl⟩), trivial⟩, trivial⟩ ?_
                        refine oValG tt rfl rfl rfl rfl rfl hb33 rfl rfl rfl trivial ?_
                        refine oPickF rfl rfl rfl rfl rfl hb33 rfl ?_
                        refine vNil ?_
                        change VC _ _ _ _
                        refine vCond rfl (fun hb35 => ?_) (fun hb35 => ?_)
                        · replace h := cnd_t hb35 h
                          refine vSeq ?_
                          refine vRegion ?_
                          refine oVal tt rfl rfl rfl rfl rfl trivial ?_
                          refine vNil ?_
                          change VC _ _ _ _
                          refine vRet ?_
                          change ∃ _, _
                          cases h
                          exact ⟨[], _, rfl, trivial, rfl, (.eq rfl), rfl⟩
                        · replace h := cnd_f hb35 h
                          refine vSkip ?_
                          change VC _ _ _ _
                          refine vSeq ?_
                          refine vRegion ?_
                          refine oVal tt rfl rfl rfl rfl rfl trivial ?_
                          refine vNil ?_
                          change VC _ _ _ _
                          refine vSeq ?_
                          refine vRegion ?_
                          iterate 2 refine oVal tt rfl rfl rfl rfl rfl trivial ?_
                          obtain ⟨v21, hc36, h⟩ := bind_inv h
                          refine oCall (L_heldIntS_w N v13.2 (1 : Int) v21 hc36) rfl rfl rfl rfl rfl rfl rfl rfl ⟨(.inl ⟨hg22, rfl⟩), rfl, trivial⟩ ?_
                          refine oVal tt rfl rfl rfl rfl rfl trivial ?_
                          refine vNil ?_
                          change VC _ _ _ _
                          iterate 2 refine vSeq ?_
                          refine vRegion ?_
                          iterate 2 refine oVal tt rfl rfl rfl rfl rfl trivial ?_
                          refine vNil ?_
                          change VC _ _ _ _
                          refine vCond rfl (fun hb37 => ?_) (fun hb37 => ?_)
                          · replace h := cnd_t hb37 h
                            refine vSeq ?_
                            refine vRegion ?_
                            refine oVal tt rfl rfl rfl rfl rfl trivial ?_
                            refine vNil ?_
                            change VC _ _ _ _
                            refine vRet ?_
                            change ∃ _, _
                            cases h
                            exact ⟨[], _, rfl, trivial, rfl, (.eq rfl), rfl⟩
                          · replace h := cnd_f hb37 h
                            refine vSkip ?_
                            change VC _ _ _ _
                            refine vSeq ?_
                            refine vRegion ?_
                            iterate 2 refine oVal tt rfl rfl rfl rfl rfl trivial ?_
                            obtain ⟨v22, hc38, h⟩ := bind_inv h
                            refine oCall (L_heldPinned_w N (⟨⟨v5.2.g.n, v14.2.1⟩, v14.2.2⟩ : Pin) v21 v22 hc38) rfl rfl rfl rfl rfl rfl rfl rfl ⟨⟨rfl, (.inl ⟨hg25, rfl⟩), (.inl ⟨hg26, rfl⟩), trivial⟩, rfl, trivial⟩ ?_
                            refine oVal tt rfl rfl rfl rfl rfl trivial ?_
                            refine vNil ?_
                            change VC _ _ _ _
                            iterate 2 refine vSeq ?_
                            refine vRegion ?_
                            iterate 2 refine oVal tt rfl rfl rfl rfl rfl trivial ?_
                            refine vNil ?_
                            change VC _ _ _ _
                            refine vCond rfl (fun hb39 => ?_) (fun hb39 => ?_)
                            · replace h := cnd_t hb39 h
                              refine vSeq ?_
                              refine vRegion ?_
                              refine oVal tt rfl rfl rfl rfl rfl trivial ?_
                              refine vNil ?_
                              change VC _ _ _ _
                              refine vRet ?_
                              change ∃ _, _
                              cases h
                              exact ⟨[], _, rfl, trivial, rfl, (.eq rfl), rfl⟩
                            · replace h := cnd_f hb39 h
                              refine vSkip ?_
                              change VC _ _ _ _
                              iterate 2 refine vSeq ?_
                              refine vRegion ?_
                              iterate 3 refine oVal tt rfl rfl rfl rfl rfl trivial ?_
                              refine vNil ?_
                              change VC _ _ _ _
                              refine vCond rfl (fun hb40 => ?_) (fun hb40 => ?_)
                              · replace h := cnd_t hb40 h
                                refine vSeq ?_
                                refine vRegion ?_
                                refine oVal tt rfl rfl rfl rfl rfl trivial ?_
                                refine vNil ?_
                                change VC _ _ _ _
                                refine vRet ?_
                                change ∃ _, _
                                cases h
                                exact ⟨[], _, rfl, trivial, rfl, (.eq rfl), rfl⟩
                              · replace h := cnd_f hb40 h
                                refine vSkip ?_
                                change VC _ _ _ _
                                refine vSeq ?_
                                refine vRegion ?_
                                refine oVal tt rfl rfl rfl rfl rfl trivial ?_
                                refine vNil ?_
                                change VC _ _ _ _
                                refine vRet ?_
                                change ∃ _, _
                                cases h
                                exact ⟨[], _, rfl, trivial, rfl, (.eq rfl), rfl⟩
end Go.Proofs.Ytkpmijmlbpdknaa
