/- Plain texts of functions, and that the program computes them (printed by gen.py). -/
import Derived.Test.YtkpmijmlbpdknaaShb
import Derived.Test.YtkpmijmlbpdknaaG2
import Derived.Test.YtkpmijmlbpdknaaG3
import Derived.Test.YtkpmijmlbpdknaaG14
import Derived.Test.YtkpmijmlbpdknaaG15
import Derived.Test.YtkpmijmlbpdknaaG24
import Derived.Test.YtkpmijmlbpdknaaG26
import Derived.Test.YtkpmijmlbpdknaaG40
import Derived.Test.YtkpmijmlbpdknaaG41
namespace Go.Proofs.Ytkpmijmlbpdknaa
open Go.RowKit
set_option linter.unusedVariables false
set_option linter.unusedSimpArgs false
def L_FnExactSteadyPoints (N : Nat) (aP_0 : Pin) : Option (Bool) :=
  (L_szPinned N aP_0 (1048576 : Int)).bind fun v1 =>
  cnd (decide (v1 < (0 : Int))) (
    some true) (
    (L_toPinned N aP_0).bind fun v2 =>
    (S_SteadyPoints N v2).bind fun v3 =>
    (L_toPinned N aP_0).bind fun v4 =>
    (I_SteadyPoints N v4).bind fun v5 =>
    (L_eqIntS N v5 v3).bind fun v6 =>
    cnd (!v6) (
      some false) (
      (L_toPinned N aP_0).bind fun v7 =>
      (L_eqPinned N v4 v7).bind fun v8 =>
      cnd (!v8) (
        some false) (
        (L_markPinned N (⟨⟨v4.g.n, v4.g.bars⟩, v4.ground⟩ : Pin) (1 : Int)).bind fun v9 =>
        cnd (decide (v9.1 < (0 : Int))) (
          some false) (
          (L_eqIntS N v5 v3).bind fun v10 =>
          cnd (!v10) (
            some false) (
            (L_markIntS N v5 (1 : Int)).bind fun v11 =>
            grd (v5.length = v11.2.length) <|
            (L_heldIntS N v11.2 (1 : Int)).bind fun v12 =>
            cnd (decide (v12 < (0 : Int))) (
              some false) (
              cnd (v12 != v11.1) (
                some false) (
                (L_toPinned N aP_0).bind fun v13 =>
                (I_SteadyPoints N v13).bind fun v14 =>
                (L_eqIntS N v14 v3).bind fun v15 =>
                cnd (!v15) (
                  some false) (
                  (L_heldIntS N v11.2 (1 : Int)).bind fun v16 =>
                  cnd (decide (v16 < (0 : Int))) (
                    some false) (
                    cnd (v16 != v11.1) (
                      some false) (
                      some true))))))))))
set_option maxRecDepth 20000 in
set_option maxHeartbeats 1600000 in
theorem L_FnExactSteadyPoints_w (N : Nat) (aP_0 : Pin) (r : Bool) (h : L_FnExactSteadyPoints N aP_0 = some r) : PCall Try.prog 6 [pD aP_0] [] (.bool r) := by
  unfold L_FnExactSteadyPoints at h
  refine pcall_intro (TT := TT) tt Try.func6 rfl rfl Try.ntmps6 (congrArg Array.toList Try.results6) rfl rfl fun w0 => ?_
  refine vSeq ?_
  refine vRegion ?_
  refine oBox rfl rfl rfl rfl rfl rfl rfl rfl rfl ?_
  refine oVal tt rfl rfl rfl rfl rfl trivial ?_
  refine vNil ?_
  change VC _ _ _ _
  refine vSeq ?_
  refine vRegion ?_
  refine oVal tt rfl rfl rfl rfl rfl trivial ?_
  refine vNil ?_
  change VC _ _ _ _
  refine vSeq ?_
  refine vRegion ?_
  iterate 2 refine oVal tt rfl rfl rfl rfl rfl trivial ?_
  obtain ⟨v1, hc1, h⟩ := bind_inv h
  refine oCall (L_szPinned_w N aP_0 (1048576 : Int) v1 hc1) rfl rfl rfl rfl rfl rfl rfl rfl ⟨⟨rfl, rfl, rfl, trivial⟩, rfl, trivial⟩ ?_
  refine oVal tt rfl rfl rfl rfl rfl trivial ?_
  refine vNil ?_
  change VC _ _ _ _
  iterate 2 refine vSeq ?_
  refine vRegion ?_
  iterate 2 refine oVal tt rfl rfl rfl rfl rfl trivial ?_
  refine vNil ?_
  change VC _ _ _ _
  refine vCond rfl (fun hb2 => ?_) (fun hb2 => ?_)
  · replace h := cnd_t hb2 h
    refine vSeq ?_
    refine vRegion ?_
    refine oVal tt rfl rfl rfl rfl rfl trivial ?_
    refine vNil ?_
    change VC _ _ _ _
    refine vRet ?_
    change ∃ _, _
    cases h
    exact ⟨[], _, rfl, trivial, rfl, (.eq rfl), rfl⟩
  · replace h := cnd_f hb2 h
    refine vSkip ?_
    change VC _ _ _ _
    refine vSeq ?_
    refine vRegion ?_
    refine oVal tt rfl rfl rfl rfl rfl trivial ?_
    obtain ⟨v2, hc3, h⟩ := bind_inv h
    refine oCall (L_toPinned_w N aP_0 v2 hc3) rfl rfl rfl rfl rfl rfl rfl rfl ⟨⟨rfl, rfl, rfl, trivial⟩, trivial⟩ ?_
    obtain ⟨v3, hc4, h⟩ := bind_inv h
    refine oCall (S_SteadyPoints_w N v2 v3 hc4) rfl rfl rfl rfl rfl rfl rfl rfl ⟨⟨rfl, (.inl ⟨rfl, rfl⟩), (.inl ⟨rfl, rfl⟩), trivial⟩, trivial⟩ ?_
    refine oVal tt rfl rfl rfl rfl rfl trivial ?_
    refine vNil ?_
    change VC _ _ _ _
    refine vSeq ?_
    refine vRegion ?_
    refine oVal tt rfl rfl rfl rfl rfl trivial ?_
    obtain ⟨v4, hc5, h⟩ := bind_inv h
    refine oCall (L_toPinned_w N aP_0 v4 hc5) rfl rfl rfl rfl rfl rfl rfl rfl ⟨⟨rfl, rfl, rfl, trivial⟩, trivial⟩ ?_
    refine oAlloc tt rfl rfl rfl rfl rfl rfl rfl rfl rfl ?_
    refine oStore tt rfl rfl rfl rfl rfl rfl rfl rfl rfl rfl rfl ⟨trivial, trivial, trivial, trivial⟩ ?_
    refine vNil ?_
    change VC _ _ _ _
    refine vSeq ?_
    refine vRegion ?_
    refine oVal tt rfl rfl rfl rfl rfl trivial ?_
    obtain ⟨v5, hc6, h⟩ := bind_inv h
    refine oCall (I_SteadyPoints_w N v4 v5 hc6) rfl rfl rfl rfl rfl rfl rfl rfl ⟨⟨rfl, (.inl ⟨rfl, rfl⟩), (.inl ⟨rfl, rfl⟩), trivial⟩, trivial⟩ ?_
    refine oVal tt rfl rfl rfl rfl rfl trivial ?_
    refine vNil ?_
    change VC _ _ _ _
    iterate 2 refine vSeq ?_
    refine vRegion ?_
    iterate 2 refine oVal tt rfl rfl rfl rfl rfl trivial ?_
    obtain ⟨v6, hc7, h⟩ := bind_inv h
    refine oCall (L_eqIntS_w N v5 v3 v6 hc7) rfl rfl rfl rfl rfl rfl rfl rfl ⟨(.inl ⟨rfl, rfl⟩), (.inl ⟨rfl, rfl⟩), trivial⟩ ?_
    refine oVal tt rfl rfl rfl rfl rfl trivial ?_
    refine vNil ?_
    change VC _ _ _ _
    refine vCond rfl (fun hb8 => ?_) (fun hb8 => ?_)
    · replace h := cnd_t hb8 h
      refine vSeq ?_
      refine vRegion ?_
      refine oVal tt rfl rfl rfl rfl rfl trivial ?_
      refine vNil ?_
      change VC _ _ _ _
      refine vRet ?_
      change ∃ _, _
      cases h
      exact ⟨[], _, rfl, trivial, rfl, (.eq rfl), rfl⟩
    · replace h := cnd_f hb8 h
      refine vSkip ?_
      change VC _ _ _ _
      iterate 2 refine vSeq ?_
      refine vRegionN 3 [2] [0, 0, 2, 7, 15] (by kernel_rfl) (by kernel_rfl) (by kernel_rfl) (by kernel_rfl) (by kernel_rfl) rfl (by rfl) ?_
      iterate 2 refine nVal tt rfl (wNone rfl) rfl rfl rfl rfl rfl trivial ?_
      obtain ⟨v7, hc9, h⟩ := bind_inv h
      refine nCallR (L_toPinned_w N aP_0 v7 hc9) rfl (wNone rfl) rfl rfl rfl rfl rfl rfl (by first | rfl | kernel_rfl | (simp [nrL, nm, gdst, nmT, rowB]; done)) rfl (by first | rfl | kernel_rfl | (simp [chkE, nrL, nm, gdst, nmT, rowB, hid, ment, mentA, mentS]; done) | (simp [chkE, nrL, nm, gdst, nmT, rowB, hid, ment, mentA, mentS]; decide)) ⟨⟨rfl, rfl, rfl, trivial⟩, trivial⟩ ?_
      refine nNil ?_
      change VO _ _ _ _ _
      obtain ⟨v8, hc10, h⟩ := bind_inv h
      refine oCall (L_eqPinned_w N v4 v7 v8 hc10) rfl rfl rfl rfl rfl rfl rfl rfl ⟨⟨rfl, (.inl ⟨rfl, rfl⟩), (.inl ⟨rfl, rfl⟩), trivial⟩, ⟨rfl, (.inl ⟨rfl, rfl⟩), (.inl ⟨rfl, rfl⟩), trivial⟩, trivial⟩ ?_
      refine oVal tt rfl rfl rfl rfl rfl trivial ?_
      refine vNil ?_
      change VC _ _ _ _
      refine vCond rfl (fun hb11 => ?_) (fun hb11 => ?_)
      · replace h := cnd_t hb11 h
        refine vSeq ?_
        refine vRegion ?_
        refine oVal tt rfl rfl rfl rfl rfl trivial ?_
        refine vNil ?_
        change VC _ _ _ _
        refine vRet ?_
        change ∃ _, _
        cases h
        exact ⟨[], _, rfl, trivial, rfl, (.eq rfl), rfl⟩
      · replace h := cnd_f hb11 h
        refine vSkip ?_
        change VC _ _ _ _
        refine vSeq ?_
        refine vRegion ?_
        refine oVal tt rfl rfl rfl rfl rfl trivial ?_
        refine vNil ?_
        change VC _ _ _ _
        refine vSeq ?_
        refine vRegion ?_
        iterate 2 refine oVal tt rfl rfl rfl rfl rfl trivial ?_
        obtain ⟨v9, hc12, h⟩ := bind_inv h
        refine oMCall (L_markPinned_w N (⟨⟨v4.g.n, v4.g.bars⟩, v4.ground⟩ : Pin) (1 : Int) v9 hc12) [1200, 1201] [] [1200, 1201] rfl rfl rfl rfl rfl rfl ⟨rfl, rfl, trivial⟩ trivial ⟨⟨⟨rfl, rfl⟩, ⟨rfl, rfl⟩, ⟨rfl, rfl⟩, trivial⟩, ⟨rfl, rfl⟩, trivial⟩ ?_
        refine oVal tt rfl rfl rfl rfl rfl trivial ?_
        refine vNil ?_
        change VC _ _ _ _
        iterate 2 refine vSeq ?_
        refine vRegion ?_
        iterate 3 refine oVal tt rfl rfl rfl rfl rfl trivial ?_
        refine oSplit rfl rfl rfl (fun hb13 => ?_) (fun hb13 => ?_)
        · replace h := cnd_t hb13 h
          iterate 4 refine oNoF rfl rfl rfl rfl hb13 rfl rfl ?_
          refine oPick rfl rfl rfl rfl rfl hb13 rfl ?_
          refine vNil ?_
          change VC _ _ _ _
          refine vCondT rfl rfl ?_
          refine vSeq ?_
          refine vRegion ?_
          refine oVal tt rfl rfl rfl rfl rfl trivial ?_
          refine vNil ?_
          change VC _ _ _ _
          refine vRet ?_
          change ∃ _, _
          cases h
          exact ⟨[], _, rfl, trivial, rfl, (.eq rfl), rfl⟩
        · replace h := cnd_f hb13 h
          iterate 2 refine oValG tt rfl rfl rfl rfl rfl hb13 rfl rfl rfl trivial ?_
          obtain ⟨v10, hc14, h⟩ := bind_inv h
          refine oCallG (L_eqIntS_w N v5 v3 v10 hc14) rfl rfl rfl rfl hb13 rfl rfl rfl rfl rfl rfl rfl ⟨(.inl ⟨rfl, rfl⟩), (.inl ⟨rfl, rfl⟩), trivial⟩ ?_
          refine oValG tt rfl rfl rfl rfl rfl hb13 rfl rfl rfl trivial ?_
          refine oPickF rfl rfl rfl rfl rfl hb13 rfl ?_
          refine vNil ?_
          change VC _ _ _ _
          refine vCond rfl (fun hb15 => ?_) (fun hb15 => ?_)
          · replace h := cnd_t hb15 h
            refine vSeq ?_
            refine vRegion ?_
            refine oVal tt rfl rfl rfl rfl rfl trivial ?_
            refine vNil ?_
            change VC _ _ _ _
            refine vRet ?_
            change ∃ _, _
            cases h
            exact ⟨[], _, rfl, trivial, rfl, (.eq rfl), rfl⟩
          · replace h := cnd_f hb15 h
            refine vSkip ?_
            change VC _ _ _ _
            refine vSeq ?_
            refine vRegion ?_
            refine oVal tt rfl rfl rfl rfl rfl trivial ?_
            refine vNil ?_
            change VC _ _ _ _
            refine vSeq ?_
            refine vRegion ?_
            iterate 2 refine oVal tt rfl rfl rfl rfl rfl trivial ?_
            obtain ⟨v11, hc16, h⟩ := bind_inv h
            refine oMCall (L_markIntS_w N v5 (1 : Int) v11 hc16) [1220] [] [1220] rfl rfl rfl rfl rfl rfl ⟨rfl, trivial⟩ trivial ⟨⟨rfl, rfl⟩, ⟨rfl, rfl⟩, trivial⟩ ?_
            refine oVal tt rfl rfl rfl rfl rfl trivial ?_
            refine vNil ?_
            change VC _ _ _ _
            refine vSeq ?_
            refine vRegion ?_
            refine oVal tt rfl rfl rfl rfl rfl trivial ?_
            refine vNil ?_
            change VC _ _ _ _
            refine vSeq ?_
            refine vRegion ?_
            iterate 2 refine oVal tt rfl rfl rfl rfl rfl trivial ?_
            obtain ⟨hg17, h⟩ := grd_inv h
            obtain ⟨v12, hc18, h⟩ := bind_inv h
            refine oCall (L_heldIntS_w N v11.2 (1 : Int) v12 hc18) rfl rfl rfl rfl rfl rfl rfl rfl ⟨(.inl ⟨hg17, rfl⟩), rfl, trivial⟩ ?_
            refine oVal tt rfl rfl rfl rfl rfl trivial ?_
            refine vNil ?_
            change VC _ _ _ _
            iterate 2 refine vSeq ?_
            refine vRegion ?_
            iterate 2 refine oVal tt rfl rfl rfl rfl rfl trivial ?_
            refine vNil ?_
            change VC _ _ _ _
            refine vCond rfl (fun hb19 => ?_) (fun hb19 => ?_)
            · replace h := cnd_t hb19 h
              refine vSeq ?_
              refine vRegion ?_
              refine oVal tt rfl rfl rfl rfl rfl trivial ?_
              refine vNil ?_
              change VC _ _ _ _
              refine vRet ?_
              change ∃ _, _
              cases h
              exact ⟨[], _, rfl, trivial, rfl, (.eq rfl), rfl⟩
            · replace h := cnd_f hb19 h
              refine vSkip ?_
              change VC _ _ _ _
              iterate 2 refine vSeq ?_
              refine vRegion ?_
              iterate 3 refine oVal tt rfl rfl rfl rfl rfl trivial ?_
              refine vNil ?_
              change VC _ _ _ _
              refine vCond rfl (fun hb20 => ?_) (fun hb20 => ?_)
              · replace h := cnd_t hb20 h
                refine vSeq ?_
                refine vRegion ?_
                refine oVal tt rfl rfl rfl rfl rfl trivial ?_
                refine vNil ?_
                change VC _ _ _ _
                refine vRet ?_
                change ∃ _, _
                cases h
                exact ⟨[], _, rfl, trivial, rfl, (.eq rfl), rfl⟩
              · replace h := cnd_f hb20 h
                refine vSkip ?_
                change VC _ _ _ _
                refine vSeq ?_
                refine vRegion ?_
                refine oVal tt rfl rfl rfl rfl rfl trivial ?_
                obtain ⟨v13, hc21, h⟩ := bind_inv h
                refine oCall (L_toPinned_w N aP_0 v13 hc21) rfl rfl rfl rfl rfl rfl rfl rfl ⟨⟨rfl, rfl, rfl, trivial⟩, trivial⟩ ?_
                obtain ⟨v14, hc22, h⟩ := bind_inv h
                refine oCall (I_SteadyPoints_w N v13 v14 hc22) rfl rfl rfl rfl rfl rfl rfl rfl ⟨⟨rfl, (.inl ⟨rfl, rfl⟩), (.inl ⟨rfl, rfl⟩), trivial⟩, trivial⟩ ?_
                refine oVal tt rfl rfl rfl rfl rfl trivial ?_
                refine vNil ?_
                change VC _ _ _ _
                iterate 2 refine vSeq ?_
                refine vRegion ?_
                iterate 2 refine oVal tt rfl rfl rfl rfl rfl trivial ?_
                obtain ⟨v15, hc23, h⟩ := bind_inv h
                refine oCall (L_eqIntS_w N v14 v3 v15 hc23) rfl rfl rfl rfl rfl rfl rfl rfl ⟨(.inl ⟨rfl, rfl⟩), (.inl ⟨rfl, rfl⟩), trivial⟩ ?_
                refine oVal tt rfl rfl rfl rfl rfl trivial ?_
                refine vNil ?_
                change VC _ _ _ _
                refine vCond rfl (fun hb24 => ?_) (fun hb24 => ?_)
                · replace h := cnd_t hb24 h
                  refine vSeq ?_
                  refine vRegion ?_
                  refine oVal tt rfl rfl rfl rfl rfl trivial ?_
                  refine vNil ?_
                  change VC _ _ _ _
                  refine vRet ?_
                  change ∃ _, _
                  cases h
                  exact ⟨[], _, rfl, trivial, rfl, (.eq rfl), rfl⟩
                · replace h := cnd_f hb24 h
                  refine vSkip ?_
                  change VC _ _ _ _
                  refine vSeq ?_
                  refine vRegion ?_
                  refine oVal tt rfl rfl rfl rfl rfl trivial ?_
                  refine vNil ?_
                  change VC _ _ _ _
                  refine vSeq ?_
                  refine vRegion ?_
                  iterate 2 refine oVal tt rfl rfl rfl rfl rfl trivial ?_
                  obtain ⟨v16, hc25, h⟩ := bind_inv h
                  refine oCall (L_heldIntS_w N v11.2 (1 : Int) v16 hc25) rfl rfl rfl rfl rfl rfl rfl rfl ⟨(.inl ⟨hg17, rfl⟩), rfl, trivial⟩ ?_
                  refine oVal tt rfl rfl rfl rfl rfl trivial ?_
                  refine vNil ?_
                  change VC _ _ _ _
                  iterate 2 refine vSeq ?_
                  refine vRegion ?_
                  iterate 2 refine oVal tt rfl rfl rfl rfl rfl trivial ?_
                  refine vNil ?_
                  change VC _ _ _ _
                  refine vCond rfl (fun hb26 => ?_) (fun hb26 => ?_)
                  · replace h := cnd_t hb26 h
                    refine vSeq ?_
                    refine vRegion ?_
                    refine oVal tt rfl rfl rfl rfl rfl trivial ?_
                    refine vNil ?_
                    change VC _ _ _ _
                    refine vRet ?_
                    change ∃ _, _
                    cases h
                    exact ⟨[], _, rfl, trivial, rfl, (.eq rfl), rfl⟩
                  · replace h := cnd_f hb26 h
                    refine vSkip ?_
                    change VC _ _ _ _
                    iterate 2 refine vSeq ?_
                    refine vRegion ?_
                    iterate 3 refine oVal tt rfl rfl rfl rfl rfl trivial ?_
                    refine vNil ?_
                    change VC _ _ _ _
                    refine vCond rfl (fun hb27 => ?_) (fun hb27 => ?_)
                    · replace h := cnd_t hb27 h
                      refine vSeq ?_
                      refine vRegion ?_
                      refine oVal tt rfl rfl rfl rfl rfl trivial ?_
                      refine vNil ?_
                      change VC _ _ _ _
                      refine vRet ?_
                      change ∃ _, _
                      cases h
                      exact ⟨[], _, rfl, trivial, rfl, (.eq rfl), rfl⟩
                    · replace h := cnd_f hb27 h
                      refine vSkip ?_
                      change VC _ _ _ _
                      refine vSeq ?_
                      refine vRegion ?_
                      refine oVal tt rfl rfl rfl rfl rfl trivial ?_
                      refine vNil ?_
                      change VC _ _ _ _
                      refine vRet ?_
                      change ∃ _, _
                      cases h
                      exact ⟨[], _, rfl, trivial, rfl, (.eq rfl), rfl⟩
end Go.Proofs.Ytkpmijmlbpdknaa
