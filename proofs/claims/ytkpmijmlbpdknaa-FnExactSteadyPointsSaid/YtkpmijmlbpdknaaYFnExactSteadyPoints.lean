/- The plain text of FnExactSteadyPoints. -/
import Derived.Test.YtkpmijmlbpdknaaPb
import Derived.Test.YtkpmijmlbpdknaaPmk
import Derived.Test.YtkpmijmlbpdknaaPx
import Derived.Test.YtkpmijmlbpdknaaG42
namespace Go.Proofs.Ytkpmijmlbpdknaa
open Go.RowKit
set_option linter.unusedVariables false
set_option linter.unusedSimpArgs false
set_option maxRecDepth 20000 in
set_option maxHeartbeats 1600000 in
theorem fnExactSteadyPoints_v (aP_0 : Pin) (h_aP_0 : BPinned aP_0) : L_FnExactSteadyPoints 4000000 aP_0 = some true := by
  unfold L_FnExactSteadyPoints
  rw [szPinned_s 4000000 h_aP_0 (by omega) (by omega)]
  by_cases s_aP_0 : 1048576 < ((lnPinned aP_0 : Nat) : Int)
  · rw [szv_big s_aP_0]; simp (disch := omega) only [Int.toNat_natCast, tk0, List.length_cons, List.length_nil, grd_pos, grd_T, grd_R, cnd_dt, cnd_df, cnd_true, cnd_false, Option.bind_some]
  · rw [szv_ok s_aP_0, Option.bind_some, cnd_df (by omega)]
    have f_aP_0 : lnPinned aP_0 ≤ 1048576 := by omega
    have f_aP_0_g_bars : aP_0.g.bars.length ≤ 1048576 := by have := f_aP_0; simp only [lnRaise, lnGraph, lnPinned, lnFramework, lnLinkage] at this; omega
    have f_aP_0_ground : aP_0.ground.length ≤ 1048576 := by have := f_aP_0; simp only [lnRaise, lnGraph, lnPinned, lnFramework, lnLinkage] at this; omega
    obtain ⟨l, hl, hS, hI⟩ := steady_x (N := 4000000) (by omega) (p := aP_0) (by omega) (by omega)
    simp (disch := omega) only [eqIntS_s, eqPinned_s, toPinned_s, Option.bind_some, bne_self_eq_false, cnd_false, cnd_true, Bool.not_true, Bool.not_false, hS, hI, heldIntS_s, markIntS_s, markPinned_s, mkI_len, mkP_len, grf_eta, pin_eta, frm_eta, lnk_eta, cnd_df, grd_pos, grd_T]
end Go.Proofs.Ytkpmijmlbpdknaa
