/- FnExactTraceOf: whatever the input, the law returns true, and each argument reads as before. No condition. -/
import Derived.Test.YtmoamglpocjhgaaGreatRows
import Derived.WalkKit
import Derived.ProofKit
import Derived.OpenShut
import Derived.Test.YtmoamglpocjhgaaGreatBtr4
import Derived.Test.YtmoamglpocjhgaaGreatBtr7
namespace Go.Proofs.YtmoamglpocjhgaaGreat
open Go.RowKit
set_option linter.unusedVariables false
set_option linter.unusedSimpArgs false
set_option maxRecDepth 20000 in
set_option maxHeartbeats 1600000 in
theorem fnExactTraceOf_v (aL_0 : Lnk) (aJoint_1 : Int) (h_aL_0 : BLinkage aL_0) (h_aJoint_1 : Rg64 aJoint_1) : L_FnExactTraceOf 4000000 aL_0 aJoint_1 = some true := by
  unfold L_FnExactTraceOf
  rw [szLinkage_s 4000000 h_aL_0 (by omega) (by omega)]
  by_cases s_aL_0 : 1048576 < ((lnLinkage aL_0 : Nat) : Int)
  · rw [szv_big s_aL_0]; simp (disch := omega) only [Int.toNat_natCast, tk0, List.length_cons, List.length_nil, grd_pos, grd_T, grd_R, cnd_dt, cnd_df, cnd_true, cnd_false, Option.bind_some]
  · rw [szv_ok s_aL_0, Option.bind_some, cnd_df (by omega)]
    have f_aL_0 : lnLinkage aL_0 ≤ 1048576 := by omega
    have f_aL_0_f_g_bars : aL_0.f.g.bars.length ≤ 1048576 := by have := f_aL_0; simp only [lnRaise, lnGraph, lnPinned, lnFramework, lnLinkage] at this; omega
    have f_aL_0_f_places : aL_0.f.places.length ≤ 1048576 := by have := f_aL_0; simp only [lnRaise, lnGraph, lnPinned, lnFramework, lnLinkage] at this; omega
    have f_aL_0_ground : aL_0.ground.length ≤ 1048576 := by have := f_aL_0; simp only [lnRaise, lnGraph, lnPinned, lnFramework, lnLinkage] at this; omega
    obtain ⟨r, hr, hS, hI⟩ := trace_x (N := 4000000) (by omega) (l := aL_0) (by omega) (by omega) (jn := aJoint_1)
    simp (disch := omega) only [eqLinkage_s, eqPlaceS_s, toLinkage_s, Option.bind_some, bne_self_eq_false, cnd_false, cnd_true, Bool.not_true, Bool.not_false, hS, hI, heldPlaceS_s, markLinkage_s, markPlaceS_s, mkI_len, mkP_len, grf_eta, pin_eta, frm_eta, lnk_eta, cnd_df, grd_pos, grd_T]
end Go.Proofs.YtmoamglpocjhgaaGreat

namespace Go.Proofs.YtmoamglpocjhgaaGreat.fnExactTraceOf
open Go.ChangeShapes Go.WideShapes Go.ChangeAt Go.RowKit
set_option linter.unusedVariables false
set_option linter.unusedSimpArgs false

theorem own : ownKnob Tryz.prog.godebug = none := by kernel_rfl

set_option maxRecDepth 100000 in
theorem lifted (os : Os) (started : os.Started) (H : Type) (enc : TypeId × Value → H) :
    ReturnsInHanded {} Tryz.checked os 5 .any (Rows.fnExactTraceOfSpec.pre6 enc Tryz.prog Tryz.f5 Rows.fnExactTraceOfRow.domain false) (Rows.fnExactTraceOfSpec.post enc Tryz.prog Tryz.f5 false true false false) := by
  refine returnsInHanded_of_change (C := Tryz.checked) own started (by kernel_rfl) Tryz.func5
    (ChangeSpec.witness6 (enc := enc) (C := Tryz.checked) false ⟨#[], #[.agg #[.int .i64 0, .slice none 0 0, .slice none 0 0, .slice none 0 0], .int .i64 0], []⟩ 8 (by kernel_rfl) (by kernel_rfl) (by kernel_rfl) (by kernel_rfl)) ?_
  intro W base args ds gs before hval0 hW hcnd _
  have hval : ∀ (j : Nat) t v, Tryz.f5.params[j]? = some t → args[j]? = some v → Value.okWide Tryz.prog W .any base t v := hval0
  have hW' := hW
  obtain ⟨p, q, hA0, hV, rfl, hfz, hnd⟩ := hW
  have hA : DataW.TrodAll enc Tryz.prog W 0 (fun _ => true) true Tryz.f5.params.toList args.toList ds p := hA0
  rw [Tryz.params5] at hA hval
  obtain ⟨v0, vs0, d0, ds0, p0, q0, hargs, rfl, rfl, h0, r0⟩ := trodAll_cons hA
  obtain ⟨v1, vs1, d1, ds1, p1, q1, rfl, rfl, rfl, h1, r1⟩ := trodAll_cons r0
  obtain ⟨rfl, rfl, rfl⟩ := trodAll_nil r1
  obtain rfl : args = #[v0, v1] := by cases args; simp_all
  obtain ⟨rfl, rfl⟩ := trodVars_none hV
  obtain ⟨cs0, rfl, hsz0⟩ := okWide_struct Tryz.underlying47 (hval 0 47 v0 rfl rfl)
  obtain ⟨fl0, hf0⟩ := h0
  obtain ⟨l0, k0, rr0⟩ : LnkC W cs0.toList := (((opens2 Tryz.underlying47 (by kernel_rfl) rfl rfl ((opens2 Tryz.underlying45 (by kernel_rfl) rfl rfl ((opens2 Tryz.underlying24 (by kernel_rfl) rfl rfl (opens_int Tryz.underlying3 (by kernel_rfl)) (opens_pairs (by kernel_rfl) Tryz.underlying22 Tryz.underlying97 (by kernel_rfl) rfl rfl rfl rfl Tryz.underlying3 (by kernel_rfl))).mono (fun _ => mkGrfC)) (opens_pairs (by kernel_rfl) Tryz.underlying43 Tryz.underlying120 (by kernel_rfl) rfl rfl rfl rfl Tryz.underlying3 (by kernel_rfl))).mono (fun _ => mkFrmC)) (opens_ints (by kernel_rfl) Tryz.underlying25 Tryz.underlying3 (by kernel_rfl))).mono (fun _ => mkLnkC))).2 fl0 _ _ hf0
  have b0 := k0.lens
  obtain ⟨l1, rfl, rfl, rfl, w1⟩ := open_int Tryz.underlying3 (hval 1 3 v1 rfl rfl) h1
  have k1 : VR M0 R0 W (.int l1) (.int .i64 l1) := .int _
  clear hA0 hval0
  refine ((L_FnExactTraceOf_w 4000000 l0 l1 true (fnExactTraceOf_v l0 l1 ⟨b0.2.1, b0.2.2.1, b0.2.2.2.1⟩ (by have := R64_of_wf w1; unfold R64 at this; unfold Rg64; omega))).bool (mkArgs2 k0 k1)).mono fun e W' ⟨he, hg⟩ => ?_
  subst he
  exact ⟨_, rfl, law_post (by kernel_rfl) (by rw [Tryz.params5]; exact of_decide_eq_true (by kernel_rfl)) rfl Tryz.underlying4 rfl rfl hW' hg⟩

theorem over : Rows.fnExactTraceOfRow.holds Tryz.pinned (OpenSpec.ofChange Rows.fnExactTraceOfSpec) :=
  OpenClaim.holds_of_wide 5 Tryz.f5 rfl rfl rfl rfl rfl rfl rfl ⟨rfl, rfl, rfl, rfl, rfl⟩ rfl rfl rfl rfl rfl (by kernel_rfl) Tryz.func5 (by kernel_rfl)
    (of_decide_eq_true (by kernel_rfl)) (by unfold Func.isWrapper; first | (rw [if_pos (by decide +kernel)]; kernel_rfl) | (rw [if_neg (by decide +kernel)]; exact ⟨rfl, rfl⟩))
    (fun os started H enc _ => lifted os started H enc)

/-- the statement -/
theorem proved : Rows.FnExactTraceOfSaid :=
  over
#print axioms proved
end Go.Proofs.YtmoamglpocjhgaaGreat.fnExactTraceOf
