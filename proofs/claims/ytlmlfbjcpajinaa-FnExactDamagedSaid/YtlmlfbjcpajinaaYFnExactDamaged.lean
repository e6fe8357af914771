/- The plain text of FnExactDamaged. -/
import Derived.Test.YtlmlfbjcpajinaaPb
import Derived.Test.YtlmlfbjcpajinaaPmk
import Derived.Test.YtlmlfbjcpajinaaPk
import Derived.Test.YtlmlfbjcpajinaaG27
namespace Go.Proofs.Ytlmlfbjcpajinaa
open Go.RowKit
set_option linter.unusedVariables false
set_option linter.unusedSimpArgs false
set_option maxRecDepth 20000 in
set_option maxHeartbeats 1600000 in
theorem fnExactDamaged_v (aP_0 : Pin) (aBroken_1 : List Int) (h_aP_0 : BPinned aP_0) (h_aBroken_1 : B63 aBroken_1.length) : L_FnExactDamaged 4000000 aP_0 aBroken_1 = some true := by
  unfold L_FnExactDamaged
  by_cases s_aBroken_1 : 1048576 < (aBroken_1.length : Int)
  · simp (disch := omega) only [Int.toNat_natCast, tk0, List.length_cons, List.length_nil, grd_pos, grd_T, grd_R, cnd_dt, cnd_df, cnd_true, cnd_false, Option.bind_some]
  · rw [cnd_df (by omega)]
    rw [szPinned_s 4000000 h_aP_0 (by omega) (by omega)]
    by_cases s_aP_0 : 1048576 < ((lnPinned aP_0 : Nat) : Int)
    · rw [szv_big s_aP_0]; simp (disch := omega) only [Int.toNat_natCast, tk0, List.length_cons, List.length_nil, grd_pos, grd_T, grd_R, cnd_dt, cnd_df, cnd_true, cnd_false, Option.bind_some]
    · rw [szv_ok s_aP_0, Option.bind_some, cnd_df (by omega)]
      have f_aP_0 : lnPinned aP_0 ≤ 1048576 := by omega
      have f_aP_0_g_bars : aP_0.g.bars.length ≤ 1048576 := by have := f_aP_0; simp only [lnRaise, lnGraph, lnPinned, lnFramework, lnLinkage] at this; omega
      have f_aP_0_ground : aP_0.ground.length ≤ 1048576 := by have := f_aP_0; simp only [lnRaise, lnGraph, lnPinned, lnFramework, lnLinkage] at this; omega
      have f_aBroken_1 : aBroken_1.length ≤ 1048576 := by omega
      have t1 := dmg_len aP_0 aBroken_1
      have m0 := f_aP_0
      simp only [lnPinned, lnGraph] at m0
      have m1 : lnPinned (dmg aP_0 aBroken_1).1 ≤ 1048576 := by simp only [lnPinned, lnGraph]; omega
      simp (disch := omega) only [toIntS_s, eqIntS_s, toPinned_s, eqPinned_s, Option.bind_some, bne_self_eq_false, cnd_false, cnd_true, Bool.not_true, Bool.not_false, dmgS_s, dmgI_s, heldPinned_s, markIntS_s, markPinned_s, mkI_len, mkP_len, grf_eta, pin_eta, frm_eta, lnk_eta, cnd_df, grd_pos, grd_T]
end Go.Proofs.Ytlmlfbjcpajinaa
