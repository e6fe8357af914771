/- The plain text of FnExactIsPose. -/
import Derived.Test.YtlmlfbjcpajinaaPb
import Derived.Test.YtlmlfbjcpajinaaPj
import Derived.Test.YtlmlfbjcpajinaaG21
namespace Go.Proofs.Ytlmlfbjcpajinaa
open Go.RowKit
set_option linter.unusedVariables false
set_option linter.unusedSimpArgs false
set_option maxRecDepth 20000 in
set_option maxHeartbeats 1600000 in
theorem fnExactIsPose_v (aL_0 : Lnk) (aP_1 : List (Int × Int)) (h_aL_0 : BLinkage aL_0) (h_aP_1 : B63 aP_1.length) : L_FnExactIsPose 4000000 aL_0 aP_1 = some true := by
  unfold L_FnExactIsPose
  rw [szLinkage_s 4000000 h_aL_0 (by omega) (by omega)]
  by_cases s_aL_0 : 1048576 < ((lnLinkage aL_0 : Nat) : Int)
  · rw [szv_big s_aL_0]; simp (disch := omega) only [Int.toNat_natCast, tk0, List.length_cons, List.length_nil, grd_pos, grd_T, grd_R, cnd_dt, cnd_df, cnd_true, cnd_false, Option.bind_some]
  · rw [szv_ok s_aL_0, Option.bind_some, cnd_df (by omega)]
    have f_aL_0 : lnLinkage aL_0 ≤ 1048576 := by omega
    have f_aL_0_f_g_bars : aL_0.f.g.bars.length ≤ 1048576 := by have := f_aL_0; simp only [lnRaise, lnGraph, lnPinned, lnFramework, lnLinkage] at this; omega
    have f_aL_0_f_places : aL_0.f.places.length ≤ 1048576 := by have := f_aL_0; simp only [lnRaise, lnGraph, lnPinned, lnFramework, lnLinkage] at this; omega
    have f_aL_0_ground : aL_0.ground.length ≤ 1048576 := by have := f_aL_0; simp only [lnRaise, lnGraph, lnPinned, lnFramework, lnLinkage] at this; omega
    rw [szPlaceS_s 4000000 h_aP_1 (by omega) (by omega)]
    by_cases s_aP_1 : (1048576 - ((lnLinkage aL_0 : Nat) : Int)) < ((aP_1.length : Nat) : Int)
    · rw [szv_big s_aP_1]; simp (disch := omega) only [Int.toNat_natCast, tk0, List.length_cons, List.length_nil, grd_pos, grd_T, grd_R, cnd_dt, cnd_df, cnd_true, cnd_false, Option.bind_some]
    · rw [szv_ok s_aP_1, Option.bind_some, cnd_df (by omega)]
      have f_aP_1 : aP_1.length ≤ 1048576 := by omega
      simp (disch := omega) only [toLinkage_s, eqLinkage_s, toPlaceS_s, eqPlaceS_s, Option.bind_some, bne_self_eq_false, cnd_false, cnd_true, Bool.not_true, Bool.not_false, isPoseS_s, isPoseI_s]
end Go.Proofs.Ytlmlfbjcpajinaa
