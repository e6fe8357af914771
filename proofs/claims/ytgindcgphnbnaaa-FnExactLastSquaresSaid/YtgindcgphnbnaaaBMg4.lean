/- Texts that the proof needs, put together: G63. -/
import Derived.Test.YtgindcgphnbnaaaBMg3
namespace Go.Proofs.Ytgindcgphnbnaaa
open Go.RowKit
set_option linter.unusedVariables false
set_option linter.unusedSimpArgs false
def L_FnExactLastSquares (N : Nat) (aD_0 : List Int) : Option (Bool) :=
  cnd (decide ((aD_0.length : Int) > (1048576 : Int))) (
    some true) (
    (L_toIntS N aD_0).bind fun v1 =>
    (S_LastSquares N v1).bind fun v2 =>
    (L_toIntS N aD_0).bind fun v3 =>
    (I_LastSquares N v3).bind fun v4 =>
    (L_eqIntS N v4 v2).bind fun v5 =>
    cnd (!v5) (
      some false) (
      (L_toIntS N aD_0).bind fun v6 =>
      (L_eqIntS N v3 v6).bind fun v7 =>
      cnd (!v7) (
        some false) (
        (L_markIntS N v3 (1 : Int)).bind fun v8 =>
        cnd (decide (v8.1 < (0 : Int))) (
          some false) (
          (L_eqIntS N v4 v2).bind fun v9 =>
          cnd (!v9) (
            some false) (
            (L_markIntS N v4 (1 : Int)).bind fun v10 =>
            grd (v4.length = v10.2.length) <|
            (L_heldIntS N v10.2 (1 : Int)).bind fun v11 =>
            cnd (decide (v11 < (0 : Int))) (
              some false) (
              cnd (v11 != v10.1) (
                some false) (
                (L_toIntS N aD_0).bind fun v12 =>
                (I_LastSquares N v12).bind fun v13 =>
                (L_eqIntS N v13 v2).bind fun v14 =>
                cnd (!v14) (
                  some false) (
                  (L_heldIntS N v10.2 (1 : Int)).bind fun v15 =>
                  cnd (decide (v15 < (0 : Int))) (
                    some false) (
                    cnd (v15 != v10.1) (
                      some false) (
                      some true))))))))))
set_option maxRecDepth 20000 in
set_option maxHeartbeats 1600000 in
theorem L_FnExactLastSquares_w (N : Nat) (aD_0 : List Int) (r : Bool) (h : L_FnExactLastSquares N aD_0 = some r) : PCall Try.prog 5 [.ro false (.ints aD_0)] [] (.bool r) := by
  unfold L_FnExactLastSquares at h
  refine pcall_intro (TT := TT) tt Try.func5 rfl rfl Try.ntmps5 (congrArg Array.toList Try.results5) rfl rfl fun w0 => ?_
  refine vSeq ?_
  refine vRegion ?_
  refine oVal tt rfl rfl rfl rfl rfl trivial ?_
  refine vNil ?_
  change VC _ _ _ _
  iterate 2 refine vSeq ?_
  refine vRegion ?_
  iterate 3 refine oVal tt rfl rfl rfl rfl rfl trivial ?_
  refine vNil ?_
  change VC _ _ _ _
  refine vCond rfl (fun hb1 => ?_) (fun hb1 => ?_)
  · replace h := cnd_t hb1 h
    refine vSeq ?_
    refine vRegion ?_
    refine oVal tt rfl rfl rfl rfl rfl trivial ?_
    refine vNil ?_
    change VC _ _ _ _
    refine vRet ?_
    change ∃ _, _
    cases h
    exact ⟨[], _, rfl, trivial, rfl, (.eq rfl), rfl⟩
  · replace h := cnd_f hb1 h
    refine vSkip ?_
    change VC _ _ _ _
    refine vSeq ?_
    refine vRegion ?_
    refine oVal tt rfl rfl rfl rfl rfl trivial ?_
    obtain ⟨v1, hc2, h⟩ := bind_inv h
    refine oCall (L_toIntS_w N aD_0 v1 hc2) rfl rfl rfl rfl rfl rfl rfl rfl ⟨rfl, trivial⟩ ?_
    obtain ⟨v2, hc3, h⟩ := bind_inv h
    refine oCall (S_LastSquares_w N v1 v2 hc3) rfl rfl rfl rfl rfl rfl rfl rfl ⟨(.inl ⟨rfl, rfl⟩), trivial⟩ ?_
    refine oVal tt rfl rfl rfl rfl rfl trivial ?_
    refine vNil ?_
    change VC _ _ _ _
    refine vSeq ?_
    refine vRegion ?_
    refine oVal tt rfl rfl rfl rfl rfl trivial ?_
    obtain ⟨v3, hc4, h⟩ := bind_inv h
    refine oCall (L_toIntS_w N aD_0 v3 hc4) rfl rfl rfl rfl rfl rfl rfl rfl ⟨rfl, trivial⟩ ?_
    refine oVal tt rfl rfl rfl rfl rfl trivial ?_
    refine vNil ?_
    change VC _ _ _ _
    refine vSeq ?_
    refine vRegion ?_
    refine oVal tt rfl rfl rfl rfl rfl trivial ?_
    obtain ⟨v4, hc5, h⟩ := bind_inv h
    refine oCall (I_LastSquares_w N v3 v4 hc5) rfl rfl rfl rfl rfl rfl rfl rfl ⟨(.inl ⟨rfl, rfl⟩), trivial⟩ ?_
    refine oVal tt rfl rfl rfl rfl rfl trivial ?_
    refine vNil ?_
    change VC _ _ _ _
    iterate 2 refine vSeq ?_
    refine vRegion ?_
    iterate 2 refine oVal tt rfl rfl rfl rfl rfl trivial ?_
    obtain ⟨v5, hc6, h⟩ := bind_inv h
    refine oCall (L_eqIntS_w N v4 v2 v5 hc6) rfl rfl rfl rfl rfl rfl rfl rfl ⟨(.inl ⟨rfl, rfl⟩), (.inl ⟨rfl, rfl⟩), trivial⟩ ?_
    refine oVal tt rfl rfl rfl rfl rfl trivial ?_
    refine vNil ?_
    change VC _ _ _ _
    refine vCond rfl (fun hb7 => ?_) (fun hb7 => ?_)
    · replace h := cnd_t hb7 h
      refine vSeq ?_
      refine vRegion ?_
      refine oVal tt rfl rfl rfl rfl rfl trivial ?_
      refine vNil ?_
      change VC _ _ _ _
      refine vRet ?_
      change ∃ _, _
      cases h
      exact ⟨[], _, rfl, trivial, rfl, (.eq rfl), rfl⟩
    · replace h := cnd_f hb7 h
      refine vSkip ?_
      change VC _ _ _ _
      iterate 2 refine vSeq ?_
      refine vRegion ?_
      iterate 2 refine oVal tt rfl rfl rfl rfl rfl trivial ?_
      obtain ⟨v6, hc8, h⟩ := bind_inv h
      refine oCall (L_toIntS_w N aD_0 v6 hc8) rfl rfl rfl rfl rfl rfl rfl rfl ⟨rfl, trivial⟩ ?_
      obtain ⟨v7, hc9, h⟩ := bind_inv h
      refine oCall (L_eqIntS_w N v3 v6 v7 hc9) rfl rfl rfl rfl rfl rfl rfl rfl ⟨(.inl ⟨rfl, rfl⟩), (.inl ⟨rfl, rfl⟩), trivial⟩ ?_
      refine oVal tt rfl rfl rfl rfl rfl trivial ?_
      refine vNil ?_
      change VC _ _ _ _
      refine vCond rfl (fun hb10 => ?_) (fun hb10 => ?_)
      · replace h := cnd_t hb10 h
        refine vSeq ?_
        refine vRegion ?_
        refine oVal tt rfl rfl rfl rfl rfl trivial ?_
        refine vNil ?_
        change VC _ _ _ _
        refine vRet ?_
        change ∃ _, _
        cases h
        exact ⟨[], _, rfl, trivial, rfl, (.eq rfl), rfl⟩
      · replace h := cnd_f hb10 h
        refine vSkip ?_
        change VC _ _ _ _
        refine vSeq ?_
        refine vRegion ?_
        refine oVal tt rfl rfl rfl rfl rfl trivial ?_
        refine vNil ?_
        change VC _ _ _ _
        refine vSeq ?_
        refine vRegion ?_
        iterate 2 refine oVal tt rfl rfl rfl rfl rfl trivial ?_
        obtain ⟨v8, hc11, h⟩ := bind_inv h
        refine oMCall (L_markIntS_w N v3 (1 : Int) v8 hc11) [1170] [] [1170] rfl rfl rfl rfl rfl rfl ⟨rfl, trivial⟩ trivial ⟨⟨rfl, rfl⟩, ⟨rfl, rfl⟩, trivial⟩ ?_
        refine oVal tt rfl rfl rfl rfl rfl trivial ?_
        refine vNil ?_
        change VC _ _ _ _
        iterate 2 refine vSeq ?_
        refine vRegion ?_
        iterate 3 refine oVal tt rfl rfl rfl rfl rfl trivial ?_
        refine oSplit rfl rfl rfl (fun hb12 => ?_) (fun hb12 => ?_)
        · replace h := cnd_t hb12 h
          iterate 4 refine oNoF rfl rfl rfl rfl hb12 rfl rfl ?_
          refine oPick rfl rfl rfl rfl rfl hb12 rfl ?_
          refine vNil ?_
          change VC _ _ _ _
          refine vCondT rfl rfl ?_
          refine vSeq ?_
          refine vRegion ?_
          refine oVal tt rfl rfl rfl rfl rfl trivial ?_
          refine vNil ?_
          change VC _ _ _ _
          refine vRet ?_
          change ∃ _, _
          cases h
          exact ⟨[], _, rfl, trivial, rfl, (.eq rfl), rfl⟩
        · replace h := cnd_f hb12 h
          iterate 2 refine oValG tt rfl rfl rfl rfl rfl hb12 rfl rfl rfl trivial ?_
          obtain ⟨v9, hc13, h⟩ := bind_inv h
          refine oCallG (L_eqIntS_w N v4 v2 v9 hc13) rfl rfl rfl rfl hb12 rfl rfl rfl rfl rfl rfl rfl ⟨(.inl ⟨rfl, rfl⟩), (.inl ⟨rfl, rfl⟩), trivial⟩ ?_
          refine oValG tt rfl rfl rfl rfl rfl hb12 rfl rfl rfl trivial ?_
          refine oPickF rfl rfl rfl rfl rfl hb12 rfl ?_
          refine vNil ?_
          change VC _ _ _ _
          refine vCond rfl (fun hb14 => ?_) (fun hb14 => ?_)
          · replace h := cnd_t hb14 h
            refine vSeq ?_
            refine vRegion ?_
            refine oVal tt rfl rfl rfl rfl rfl trivial ?_
            refine vNil ?_
            change VC _ _ _ _
            refine vRet ?_
            change ∃ _, _
            cases h
            exact ⟨[], _, rfl, trivial, rfl, (.eq rfl), rfl⟩
          · replace h := cnd_f hb14 h
            refine vSkip ?_
            change VC _ _ _ _
            refine vSeq ?_
            refine vRegion ?_
            refine oVal tt rfl rfl rfl rfl rfl trivial ?_
            refine vNil ?_
            change VC _ _ _ _
            refine vSeq ?_
            refine vRegion ?_
            iterate 2 refine oVal tt rfl rfl rfl rfl rfl trivial ?_
            obtain ⟨v10, hc15, h⟩ := bind_inv h
            refine oMCall (L_markIntS_w N v4 (1 : Int) v10 hc15) [1190] [] [1190] rfl rfl rfl rfl rfl rfl ⟨rfl, trivial⟩ trivial ⟨⟨rfl, rfl⟩, ⟨rfl, rfl⟩, trivial⟩ ?_
            refine oVal tt rfl rfl rfl rfl rfl trivial ?_
            refine vNil ?_
            change VC _ _ _ _
            refine vSeq ?_
            refine vRegion ?_
            refine oVal tt rfl rfl rfl rfl rfl trivial ?_
            refine vNil ?_
            change VC _ _ _ _
            refine vSeq ?_
            refine vRegion ?_
            iterate 2 refine oVal tt rfl rfl rfl rfl rfl trivial ?_
            obtain ⟨hg16, h⟩ := grd_inv h
            obtain ⟨v11, hc17, h⟩ := bind_inv h
            refine oCall (L_heldIntS_w N v10.2 (1 : Int) v11 hc17) rfl rfl rfl rfl rfl rfl rfl rfl ⟨(.inl ⟨hg16, rfl⟩), rfl, trivial⟩ ?_
            refine oVal tt rfl rfl rfl rfl rfl trivial ?_
            refine vNil ?_
            change VC _ _ _ _
            iterate 2 refine vSeq ?_
            refine vRegion ?_
            iterate 2 refine oVal tt rfl rfl rfl rfl rfl trivial ?_
            refine vNil ?_
            change VC _ _ _ _
            refine vCond rfl (fun hb18 => ?_) (fun hb18 => ?_)
            · replace h := cnd_t hb18 h
              refine vSeq ?_
              refine vRegion ?_
              refine oVal tt rfl rfl rfl rfl rfl trivial ?_
              refine vNil ?_
              change VC _ _ _ _
              refine vRet ?_
              change ∃ _, _
              cases h
              exact ⟨[], _, rfl, trivial, rfl, (.eq rfl), rfl⟩
            · replace h := cnd_f hb18 h
              refine vSkip ?_
              change VC _ _ _ _
              iterate 2 refine vSeq ?_
              refine vRegion ?_
              iterate 3 refine oVal tt rfl rfl rfl rfl rfl trivial ?_
              refine vNil ?_
              change VC _ _ _ _
              refine vCond rfl (fun hb19 => ?_) (fun hb19 => ?_)
              · replace h := cnd_t hb19 h
                refine vSeq ?_
                refine vRegion ?_
                refine oVal tt rfl rfl rfl rfl rfl trivial ?_
                refine vNil ?_
                change VC _ _ _ _
                refine vRet ?_
                change ∃ _, _
                cases h
                exact ⟨[], _, rfl, trivial, rfl, (.eq rfl), rfl⟩
              · replace h := cnd_f hb19 h
                refine vSkip ?_
                change VC _ _ _ _
                refine vSeq ?_
                refine vRegion ?_
                refine oVal tt rfl rfl rfl rfl rfl trivial ?_
                obtain ⟨v12, hc20, h⟩ := bind_inv h
                refine oCall (L_toIntS_w N aD_0 v12 hc20) rfl rfl rfl rfl rfl rfl rfl rfl ⟨rfl, trivial⟩ ?_
                obtain ⟨v13, hc21, h⟩ := bind_inv h
                refine oCall (I_LastSquares_w N v12 v13 hc21) rfl rfl rfl rfl rfl rfl rfl rfl ⟨(.inl ⟨rfl, rfl⟩), trivial⟩ ?_
                refine oVal tt rfl rfl rfl rfl rfl trivial ?_
                refine vNil ?_
                change VC _ _ _ _
                iterate 2 refine vSeq ?_
                refine vRegion ?_
                iterate 2 refine oVal tt rfl rfl rfl rfl rfl trivial ?_
                obtain ⟨v14, hc22, h⟩ := bind_inv h
                refine oCall (L_eqIntS_w N v13 v2 v14 hc22) rfl rfl rfl rfl rfl rfl rfl rfl ⟨(.inl ⟨rfl, rfl⟩), (.inl ⟨rfl, rfl⟩), trivial⟩ ?_
                refine oVal tt rfl rfl rfl rfl rfl trivial ?_
                refine vNil ?_
                change VC _ _ _ _
                refine vCond rfl (fun hb23 => ?_) (fun hb23 => ?_)
                · replace h := cnd_t hb23 h
                  refine vSeq ?_
                  refine vRegion ?_
                  refine oVal tt rfl rfl rfl rfl rfl trivial ?_
                  refine vNil ?_
                  change VC _ _ _ _
                  refine vRet ?_
                  change ∃ _, _
                  cases h
                  exact ⟨[], _, rfl, trivial, rfl, (.eq rfl), rfl⟩
                · replace h := cnd_f hb23 h
                  refine vSkip ?_
                  change VC _ _ _ _
                  refine vSeq ?_
                  refine vRegion ?_
                  refine oVal tt rfl rfl rfl rfl rfl trivial ?_
                  refine vNil ?_
                  change VC _ _ _ _
                  refine vSeq ?_
                  refine vRegion ?_
                  iterate 2 refine oVal tt rfl rfl rfl rfl rfl trivial ?_
                  obtain ⟨v15, hc24, h⟩ := bind_inv h
                  refine oCall (L_heldIntS_w N v10.2 (1 : Int) v15 hc24) rfl rfl rfl rfl rfl rfl rfl rfl ⟨(.inl ⟨hg16, rfl⟩), rfl, trivial⟩ ?_
                  refine oVal tt rfl rfl rfl rfl rfl trivial ?_
                  refine vNil ?_
                  change VC _ _ _ _
                  iterate 2 refine vSeq ?_
                  refine vRegion ?_
                  iterate 2 refine oVal tt rfl rfl rfl rfl rfl trivial ?_
                  refine vNil ?_
                  change VC _ _ _ _
                  refine vCond rfl (fun hb25 => ?_) (fun hb25 => ?_)
                  · replace h := cnd_t hb25 h
                    refine vSeq ?_
                    refine vRegion ?_
                    refine oVal tt rfl rfl rfl rfl rfl trivial ?_
                    refine vNil ?_
                    change VC _ _ _ _
                    refine vRet ?_
                    change ∃ _, _
                    cases h
                    exact ⟨[], _, rfl, trivial, rfl, (.eq rfl), rfl⟩
                  · replace h := cnd_f hb25 h
                    refine vSkip ?_
                    change VC _ _ _ _
                    iterate 2 refine vSeq ?_
                    refine vRegion ?_
                    iterate 3 refine oVal tt rfl rfl rfl rfl rfl trivial ?_
                    refine vNil ?_
                    change VC _ _ _ _
                    refine vCond rfl (fun hb26 => ?_) (fun hb26 => ?_)
                    · replace h := cnd_t hb26 h
                      refine vSeq ?_
                      refine vRegion ?_
                      refine oVal tt rfl rfl rfl rfl rfl trivial ?_
                      refine vNil ?_
                      change VC _ _ _ _
                      refine vRet ?_
                      change ∃ _, _
                      cases h
                      exact ⟨[], _, rfl, trivial, rfl, (.eq rfl), rfl⟩
                    · replace h := cnd_f hb26 h
                      refine vSkip ?_
                      change VC _ _ _ _
                      refine vSeq ?_
                      refine vRegion ?_
                      refine oVal tt rfl rfl rfl rfl rfl trivial ?_
                      refine vNil ?_
                      change VC _ _ _ _
                      refine vRet ?_
                      change ∃ _, _
                      cases h
                      exact ⟨[], _, rfl, trivial, rfl, (.eq rfl), rfl⟩
end Go.Proofs.Ytgindcgphnbnaaa
