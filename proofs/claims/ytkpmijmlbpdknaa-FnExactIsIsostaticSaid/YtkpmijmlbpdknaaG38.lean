/- Plain texts of functions, and that the program computes them (printed by gen.py). -/
import Derived.Test.YtkpmijmlbpdknaaShb
import Derived.Test.YtkpmijmlbpdknaaG35
namespace Go.Proofs.Ytkpmijmlbpdknaa
open Go.RowKit
set_option linter.unusedVariables false
set_option linter.unusedSimpArgs false
def S_IsPinnedRigid (N : Nat) (p_0 : Pin) : Option (Bool) :=
  (S_PinnedFreedom N p_0).bind fun v1 =>
  some (v1 == (0 : Int))
set_option maxRecDepth 20000 in
set_option maxHeartbeats 1600000 in
theorem S_IsPinnedRigid_w (N : Nat) (p_0 : Pin) (r : Bool) (h : S_IsPinnedRigid N p_0 = some r) : PCall Try.prog 58 [pD p_0] [] (.bool r) := by
  unfold S_IsPinnedRigid at h
  refine pcall_intro (TT := TT) tt Try.func58 rfl rfl Try.ntmps58 (congrArg Array.toList Try.results58) rfl rfl fun w0 => ?_
  refine vSeq ?_
  refine vRegion ?_
  refine oBox rfl rfl rfl rfl rfl rfl rfl rfl rfl ?_
  refine oVal tt rfl rfl rfl rfl rfl trivial ?_
  refine vNil ?_
  change VC _ _ _ _
  refine vSeq ?_
  refine vRegion ?_
  refine oVal tt rfl rfl rfl rfl rfl trivial ?_
  obtain ⟨v1, hc1, h⟩ := bind_inv h
  refine oCall (S_PinnedFreedom_w N p_0 v1 hc1) rfl rfl rfl rfl rfl rfl rfl rfl ⟨⟨rfl, rfl, rfl, trivial⟩, trivial⟩ ?_
  iterate 2 refine oVal tt rfl rfl rfl rfl rfl trivial ?_
  refine vNil ?_
  change VC _ _ _ _
  refine vRet ?_
  change ∃ _, _
  cases h
  exact ⟨[], _, rfl, trivial, rfl, (.eq rfl), rfl⟩
def S_IsIsostatic (N : Nat) (p_0 : Pin) : Option (Bool) :=
  (S_IsPinnedRigid N p_0).bind fun v1 =>
  cnd v1 (
    (S_PinnedRank N p_0).bind fun v2 =>
    some ((p_0.g.bars.length : Int) == v2)) (
    some false)
set_option maxRecDepth 20000 in
set_option maxHeartbeats 1600000 in
theorem S_IsIsostatic_w (N : Nat) (p_0 : Pin) (r : Bool) (h : S_IsIsostatic N p_0 = some r) : PCall Try.prog 20 [pD p_0] [] (.bool r) := by
  unfold S_IsIsostatic at h
  refine pcall_intro (TT := TT) tt Try.func20 rfl rfl Try.ntmps20 (congrArg Array.toList Try.results20) rfl rfl fun w0 => ?_
  refine vSeq ?_
  refine vRegion ?_
  refine oBox rfl rfl rfl rfl rfl rfl rfl rfl rfl ?_
  refine oVal tt rfl rfl rfl rfl rfl trivial ?_
  refine vNil ?_
  change VC _ _ _ _
  refine vSeq ?_
  refine vRegionD (by kernel_rfl) (by kernel_rfl) ?_
  refine cVal tt rfl (wNone rfl) rfl rfl rfl trivial ?_
  obtain ⟨v1, hc1, h⟩ := bind_inv h
  refine cCall (S_IsPinnedRigid_w N p_0 v1 hc1) rfl (wNone rfl) rfl rfl rfl rfl rfl rfl ⟨⟨rfl, rfl, rfl, trivial⟩, trivial⟩ ?_
  refine cVal tt rfl (wNone rfl) rfl rfl rfl trivial ?_
  refine cSplit rfl rfl rfl (fun hb2 => ?_) (fun hb2 => ?_)
  · replace h := cnd_t hb2 h
    iterate 5 refine cVal tt rfl (wSome rfl rfl rfl rfl hb2) rfl rfl rfl trivial ?_
    obtain ⟨v2, hc3, h⟩ := bind_inv h
    refine cCall (S_PinnedRank_w N p_0 v2 hc3) rfl (wSome rfl rfl rfl rfl hb2) rfl rfl rfl rfl rfl rfl ⟨⟨rfl, rfl, rfl, trivial⟩, trivial⟩ ?_
    refine cVal tt rfl (wSome rfl rfl rfl rfl hb2) rfl rfl rfl trivial ?_
    refine cPickT rfl (wNone rfl) rfl rfl rfl hb2 rfl ?_
    refine cVal tt rfl (wNone rfl) rfl rfl rfl trivial ?_
    refine cNil ?_
    change VC _ _ _ _
    refine vRet ?_
    change ∃ _, _
    cases h
    exact ⟨[], _, rfl, trivial, rfl, (.eq rfl), rfl⟩
  · replace h := cnd_f hb2 h
    iterate 7 refine cNoT rfl rfl rfl rfl hb2 rfl rfl ?_
    refine cPickF rfl (wNone rfl) rfl rfl rfl hb2 rfl ?_
    refine cVal tt rfl (wNone rfl) rfl rfl rfl trivial ?_
    refine cNil ?_
    change VC _ _ _ _
    refine vRet ?_
    change ∃ _, _
    cases h
    exact ⟨[], _, rfl, trivial, rfl, (.eq rfl), rfl⟩
def I_IsPinnedRigid (N : Nat) (p_0 : Pin) : Option (Bool) :=
  (I_PinnedFreedom N p_0).bind fun v1 =>
  some (v1 == (0 : Int))
set_option maxRecDepth 20000 in
set_option maxHeartbeats 1600000 in
theorem I_IsPinnedRigid_w (N : Nat) (p_0 : Pin) (r : Bool) (h : I_IsPinnedRigid N p_0 = some r) : PCall Try.prog 60 [pD p_0] [] (.bool r) := by
  unfold I_IsPinnedRigid at h
  refine pcall_intro (TT := TT) tt Try.func60 rfl rfl Try.ntmps60 (congrArg Array.toList Try.results60) rfl rfl fun w0 => ?_
  refine vSeq ?_
  refine vRegion ?_
  refine oBox rfl rfl rfl rfl rfl rfl rfl rfl rfl ?_
  refine oVal tt rfl rfl rfl rfl rfl trivial ?_
  refine vNil ?_
  change VC _ _ _ _
  refine vSeq ?_
  refine vRegion ?_
  refine oVal tt rfl rfl rfl rfl rfl trivial ?_
  obtain ⟨v1, hc1, h⟩ := bind_inv h
  refine oCall (I_PinnedFreedom_w N p_0 v1 hc1) rfl rfl rfl rfl rfl rfl rfl rfl ⟨⟨rfl, rfl, rfl, trivial⟩, trivial⟩ ?_
  iterate 2 refine oVal tt rfl rfl rfl rfl rfl trivial ?_
  refine vNil ?_
  change VC _ _ _ _
  refine vRet ?_
  change ∃ _, _
  cases h
  exact ⟨[], _, rfl, trivial, rfl, (.eq rfl), rfl⟩
def I_IsIsostatic (N : Nat) (p_0 : Pin) : Option (Bool) :=
  (I_IsPinnedRigid N p_0).bind fun v1 =>
  cnd v1 (
    (I_PinnedRank N p_0).bind fun v2 =>
    some (v2 == (p_0.g.bars.length : Int))) (
    some false)
set_option maxRecDepth 20000 in
set_option maxHeartbeats 1600000 in
theorem I_IsIsostatic_w (N : Nat) (p_0 : Pin) (r : Bool) (h : I_IsIsostatic N p_0 = some r) : PCall Try.prog 21 [pD p_0] [] (.bool r) := by
  unfold I_IsIsostatic at h
  refine pcall_intro (TT := TT) tt Try.func21 rfl rfl Try.ntmps21 (congrArg Array.toList Try.results21) rfl rfl fun w0 => ?_
  refine vSeq ?_
  refine vRegion ?_
  refine oBox rfl rfl rfl rfl rfl rfl rfl rfl rfl ?_
  refine oVal tt rfl rfl rfl rfl rfl trivial ?_
  refine vNil ?_
  change VC _ _ _ _
  refine vSeq ?_
  refine vRegionD (by kernel_rfl) (by kernel_rfl) ?_
  refine cVal tt rfl (wNone rfl) rfl rfl rfl trivial ?_
  obtain ⟨v1, hc1, h⟩ := bind_inv h
  refine cCall (I_IsPinnedRigid_w N p_0 v1 hc1) rfl (wNone rfl) rfl rfl rfl rfl rfl rfl ⟨⟨rfl, rfl, rfl, trivial⟩, trivial⟩ ?_
  refine cVal tt rfl (wNone rfl) rfl rfl rfl trivial ?_
  refine cSplit rfl rfl rfl (fun hb2 => ?_) (fun hb2 => ?_)
  · replace h := cnd_t hb2 h
    refine cVal tt rfl (wSome rfl rfl rfl rfl hb2) rfl rfl rfl trivial ?_
    obtain ⟨v2, hc3, h⟩ := bind_inv h
    refine cCall (I_PinnedRank_w N p_0 v2 hc3) rfl (wSome rfl rfl rfl rfl hb2) rfl rfl rfl rfl rfl rfl ⟨⟨rfl, rfl, rfl, trivial⟩, trivial⟩ ?_
    iterate 5 refine cVal tt rfl (wSome rfl rfl rfl rfl hb2) rfl rfl rfl trivial ?_
    refine cPickT rfl (wNone rfl) rfl rfl rfl hb2 rfl ?_
    refine cVal tt rfl (wNone rfl) rfl rfl rfl trivial ?_
    refine cNil ?_
    change VC _ _ _ _
    refine vRet ?_
    change ∃ _, _
    cases h
    exact ⟨[], _, rfl, trivial, rfl, (.eq rfl), rfl⟩
  · replace h := cnd_f hb2 h
    iterate 7 refine cNoT rfl rfl rfl rfl hb2 rfl rfl ?_
    refine cPickF rfl (wNone rfl) rfl rfl rfl hb2 rfl ?_
    refine cVal tt rfl (wNone rfl) rfl rfl rfl trivial ?_
    refine cNil ?_
    change VC _ _ _ _
    refine vRet ?_
    change ∃ _, _
    cases h
    exact ⟨[], _, rfl, trivial, rfl, (.eq rfl), rfl⟩
end Go.Proofs.Ytkpmijmlbpdknaa
