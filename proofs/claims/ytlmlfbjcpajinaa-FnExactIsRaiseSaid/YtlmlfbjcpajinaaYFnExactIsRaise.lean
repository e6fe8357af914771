/- The plain text of FnExactIsRaise. -/
import Derived.Test.YtlmlfbjcpajinaaPb
import Derived.Test.YtlmlfbjcpajinaaPf
import Derived.Test.YtlmlfbjcpajinaaG18
namespace Go.Proofs.Ytlmlfbjcpajinaa
open Go.RowKit
set_option linter.unusedVariables false
set_option linter.unusedSimpArgs false
set_option maxRecDepth 20000 in
set_option maxHeartbeats 1600000 in
theorem fnExactIsRaise_v (aP_0 : Pin) (aDone_1 : List Int) (aR_2 : Rse) (h_aP_0 : BPinned aP_0) (h_aDone_1 : B63 aDone_1.length) (h_aR_2 : BRaise aR_2) : L_FnExactIsRaise 4000000 aP_0 aDone_1 aR_2 = some true := by
  unfold L_FnExactIsRaise
  by_cases s_aDone_1 : 1048576 < (aDone_1.length : Int)
  · simp (disch := omega) only [Int.toNat_natCast, tk0, List.length_cons, List.length_nil, grd_pos, grd_T, grd_R, cnd_dt, cnd_df, cnd_true, cnd_false, Option.bind_some]
  · rw [cnd_df (by omega)]
    rw [szPinned_s 4000000 h_aP_0 (by omega) (by omega)]
    by_cases s_aP_0 : 1048576 < ((lnPinned aP_0 : Nat) : Int)
    · rw [szv_big s_aP_0]; simp (disch := omega) only [Int.toNat_natCast, tk0, List.length_cons, List.length_nil, grd_pos, grd_T, grd_R, cnd_dt, cnd_df, cnd_true, cnd_false, Option.bind_some]
    · rw [szv_ok s_aP_0, Option.bind_some, cnd_df (by omega)]
      have f_aP_0 : lnPinned aP_0 ≤ 1048576 := by omega
      have f_aP_0_g_bars : aP_0.g.bars.length ≤ 1048576 := by have := f_aP_0; simp only [lnRaise, lnGraph, lnPinned, lnFramework, lnLinkage] at this; omega
      have f_aP_0_ground : aP_0.ground.length ≤ 1048576 := by have := f_aP_0; simp only [lnRaise, lnGraph, lnPinned, lnFramework, lnLinkage] at this; omega
      have f_aDone_1 : aDone_1.length ≤ 1048576 := by omega
      rw [szRaise_s 4000000 h_aR_2 (by omega) (by omega)]
      by_cases s_aR_2 : (1048576 - ((lnPinned aP_0 : Nat) : Int)) < ((lnRaise aR_2 : Nat) : Int)
      · rw [szv_big s_aR_2]; simp (disch := omega) only [Int.toNat_natCast, tk0, List.length_cons, List.length_nil, grd_pos, grd_T, grd_R, cnd_dt, cnd_df, cnd_true, cnd_false, Option.bind_some]
      · rw [szv_ok s_aR_2, Option.bind_some, cnd_df (by omega)]
        have f_aR_2 : lnRaise aR_2 ≤ 1048576 := by omega
        have f_aR_2_bars : aR_2.bars.length ≤ 1048576 := by have := f_aR_2; simp only [lnRaise, lnGraph, lnPinned, lnFramework, lnLinkage] at this; omega
        simp (disch := omega) only [toIntS_s, eqIntS_s, toPinned_s, eqPinned_s, toRaise_s, eqRaise_s, Option.bind_some, bne_self_eq_false, cnd_false, cnd_true, Bool.not_true, Bool.not_false, isRaiseS_s, isRaiseI_s]
end Go.Proofs.Ytlmlfbjcpajinaa
