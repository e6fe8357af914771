/- The plain text of FnExactTrilaterationOrder. -/
import Derived.Test.YtlmlfbjcpajinaaPb
import Derived.Test.YtlmlfbjcpajinaaPmk
import Derived.Test.YtlmlfbjcpajinaaPk
import Derived.Test.YtlmlfbjcpajinaaG25
namespace Go.Proofs.Ytlmlfbjcpajinaa
open Go.RowKit
set_option linter.unusedVariables false
set_option linter.unusedSimpArgs false
set_option maxRecDepth 20000 in
set_option maxHeartbeats 1600000 in
theorem fnExactTrilaterationOrder_v (aG_0 : Grf) (aAnchors_1 : List Int) (h_aG_0 : BGraph aG_0) (h_aAnchors_1 : B63 aAnchors_1.length) : L_FnExactTrilaterationOrder 4000000 aG_0 aAnchors_1 = some true := by
  unfold L_FnExactTrilaterationOrder
  by_cases s_aAnchors_1 : 1048576 < (aAnchors_1.length : Int)
  · simp (disch := omega) only [Int.toNat_natCast, tk0, List.length_cons, List.length_nil, grd_pos, grd_T, grd_R, cnd_dt, cnd_df, cnd_true, cnd_false, Option.bind_some]
  · rw [cnd_df (by omega)]
    rw [szGraph_s 4000000 h_aG_0 (by omega) (by omega)]
    by_cases s_aG_0 : 1048576 < ((lnGraph aG_0 : Nat) : Int)
    · rw [szv_big s_aG_0]; simp (disch := omega) only [Int.toNat_natCast, tk0, List.length_cons, List.length_nil, grd_pos, grd_T, grd_R, cnd_dt, cnd_df, cnd_true, cnd_false, Option.bind_some]
    · rw [szv_ok s_aG_0, Option.bind_some, cnd_df (by omega)]
      have f_aG_0 : lnGraph aG_0 ≤ 1048576 := by omega
      have f_aG_0_bars : aG_0.bars.length ≤ 1048576 := by have := f_aG_0; simp only [lnRaise, lnGraph, lnPinned, lnFramework, lnLinkage] at this; omega
      have f_aAnchors_1 : aAnchors_1.length ≤ 1048576 := by omega
      have t1 := trilO_len aG_0 aAnchors_1
      simp (disch := omega) only [toGraph_s, eqGraph_s, toIntS_s, eqIntS_s, Option.bind_some, bne_self_eq_false, cnd_false, cnd_true, Bool.not_true, Bool.not_false, trilOS_s, trilOI_s, heldIntS_s, markGraph_s, markIntS_s, mkI_len, mkP_len, grf_eta, pin_eta, frm_eta, lnk_eta, cnd_df, grd_pos, grd_T]
end Go.Proofs.Ytlmlfbjcpajinaa
