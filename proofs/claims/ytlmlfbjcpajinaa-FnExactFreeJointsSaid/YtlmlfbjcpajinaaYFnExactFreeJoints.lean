/- The plain text of FnExactFreeJoints. -/
import Derived.Test.YtlmlfbjcpajinaaPb
import Derived.Test.YtlmlfbjcpajinaaPmk
import Derived.Test.YtlmlfbjcpajinaaPk
import Derived.Test.YtlmlfbjcpajinaaG29
namespace Go.Proofs.Ytlmlfbjcpajinaa
open Go.RowKit
set_option linter.unusedVariables false
set_option linter.unusedSimpArgs false
set_option maxRecDepth 20000 in
set_option maxHeartbeats 1600000 in
theorem fnExactFreeJoints_v (aL_0 : Lnk) (h_aL_0 : BLinkage aL_0) : L_FnExactFreeJoints 4000000 aL_0 = some true := by
  unfold L_FnExactFreeJoints
  rw [szLinkage_s 4000000 h_aL_0 (by omega) (by omega)]
  by_cases s_aL_0 : 1048576 < ((lnLinkage aL_0 : Nat) : Int)
  · rw [szv_big s_aL_0]; simp (disch := omega) only [Int.toNat_natCast, tk0, List.length_cons, List.length_nil, grd_pos, grd_T, grd_R, cnd_dt, cnd_df, cnd_true, cnd_false, Option.bind_some]
  · rw [szv_ok s_aL_0, Option.bind_some, cnd_df (by omega)]
    have f_aL_0 : lnLinkage aL_0 ≤ 1048576 := by omega
    have f_aL_0_f_g_bars : aL_0.f.g.bars.length ≤ 1048576 := by have := f_aL_0; simp only [lnRaise, lnGraph, lnPinned, lnFramework, lnLinkage] at this; omega
    have f_aL_0_f_places : aL_0.f.places.length ≤ 1048576 := by have := f_aL_0; simp only [lnRaise, lnGraph, lnPinned, lnFramework, lnLinkage] at this; omega
    have f_aL_0_ground : aL_0.ground.length ≤ 1048576 := by have := f_aL_0; simp only [lnRaise, lnGraph, lnPinned, lnFramework, lnLinkage] at this; omega
    have t1 := freeJ_len aL_0
    have m0 := f_aL_0
    simp only [lnLinkage, lnFramework, lnGraph] at m0
    simp (disch := omega) only [eqIntS_s, eqLinkage_s, toLinkage_s, Option.bind_some, bne_self_eq_false, cnd_false, cnd_true, Bool.not_true, Bool.not_false, freeS_s, freeI_s, heldIntS_s, markIntS_s, markLinkage_s, mkI_len, mkP_len, grf_eta, pin_eta, frm_eta, lnk_eta, cnd_df, grd_pos, grd_T]
end Go.Proofs.Ytlmlfbjcpajinaa
