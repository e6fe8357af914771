/- FnExactLinkageFreedom: whatever the input, the law returns true, and each argument reads as before. No condition. -/
import Derived.Test.YtkklfgcelmeccaaRows
import Derived.WalkKit
import Derived.ProofKit
import Derived.OpenShut
import Derived.Test.YtkklfgcelmeccaaBGe4
import Derived.Test.YtkklfgcelmeccaaBGe6
namespace Go.Proofs.Ytkklfgcelmeccaa
open Go.RowKit
set_option linter.unusedVariables false
set_option linter.unusedSimpArgs false
set_option maxRecDepth 20000 in
set_option maxHeartbeats 1600000 in
theorem fnExactLinkageFreedom_v (aL_0 : Lnk) (h_aL_0 : BLinkage aL_0) : L_FnExactLinkageFreedom 4000000 aL_0 = some true := by
  unfold L_FnExactLinkageFreedom
  rw [szLinkage_s 4000000 h_aL_0 (by omega) (by omega)]
  by_cases s_aL_0 : 1048576 < ((lnLinkage aL_0 : Nat) : Int)
  · rw [szv_big s_aL_0]; simp (disch := omega) only [Int.toNat_natCast, tk0, List.length_cons, List.length_nil, grd_pos, grd_T, grd_R, cnd_dt, cnd_df, cnd_true, cnd_false, Option.bind_some]
  · rw [szv_ok s_aL_0, Option.bind_some, cnd_df (by omega)]
    have f_aL_0 : lnLinkage aL_0 ≤ 1048576 := by omega
    have f_aL_0_f_g_bars : aL_0.f.g.bars.length ≤ 1048576 := by have := f_aL_0; simp only [lnRaise, lnGraph, lnPinned, lnFramework, lnLinkage] at this; omega
    have f_aL_0_f_places : aL_0.f.places.length ≤ 1048576 := by have := f_aL_0; simp only [lnRaise, lnGraph, lnPinned, lnFramework, lnLinkage] at this; omega
    have f_aL_0_ground : aL_0.ground.length ≤ 1048576 := by have := f_aL_0; simp only [lnRaise, lnGraph, lnPinned, lnFramework, lnLinkage] at this; omega
    obtain ⟨r, hS, hI⟩ := freedom_x (N := 4000000) (by omega) (l := aL_0) (by omega) (by omega)
    simp (disch := omega) only [eqLinkage_s, toLinkage_s, Option.bind_some, bne_self_eq_false, cnd_false, cnd_true, Bool.not_true, Bool.not_false, hS, hI]
end Go.Proofs.Ytkklfgcelmeccaa

namespace Go.Proofs.Ytkklfgcelmeccaa.fnExactLinkageFreedom
open Go.ChangeShapes Go.WideShapes Go.ChangeAt Go.RowKit
set_option linter.unusedVariables false
set_option linter.unusedSimpArgs false

theorem own : ownKnob Try.prog.godebug = none := by kernel_rfl

set_option maxRecDepth 100000 in
theorem lifted (os : Os) (started : os.Started) (H : Type) (enc : TypeId × Value → H) :
    ReturnsInHanded {} Try.checked os 4 .any (Rows.fnExactLinkageFreedomSpec.pre6 enc Try.prog Try.f4 Rows.fnExactLinkageFreedomRow.domain false) (Rows.fnExactLinkageFreedomSpec.post enc Try.prog Try.f4 false true false false) := by
  refine returnsInHanded_of_change (C := Try.checked) own started (by kernel_rfl) Try.func4
    (ChangeSpec.witness6 (enc := enc) (C := Try.checked) false ⟨#[], #[.agg #[.int .i64 0, .slice none 0 0, .slice none 0 0, .slice none 0 0]], []⟩ 8 (by kernel_rfl) (by kernel_rfl) (by kernel_rfl) (by kernel_rfl)) ?_
  intro W base args ds gs before hval0 hW hcnd _
  have hval : ∀ (j : Nat) t v, Try.f4.params[j]? = some t → args[j]? = some v → Value.okWide Try.prog W .any base t v := hval0
  have hW' := hW
  obtain ⟨p, q, hA0, hV, rfl, hfz, hnd⟩ := hW
  have hA : DataW.TrodAll enc Try.prog W 0 (fun _ => true) true Try.f4.params.toList args.toList ds p := hA0
  rw [Try.params4] at hA hval
  obtain ⟨v0, vs0, d0, ds0, p0, q0, hargs, rfl, rfl, h0, r0⟩ := trodAll_cons hA
  obtain ⟨rfl, rfl, rfl⟩ := trodAll_nil r0
  obtain rfl : args = #[v0] := by cases args; simp_all
  obtain ⟨rfl, rfl⟩ := trodVars_none hV
  obtain ⟨cs0, rfl, hsz0⟩ := okWide_struct Try.underlying37 (hval 0 37 v0 rfl rfl)
  obtain ⟨fl0, hf0⟩ := h0
  obtain ⟨l0, k0, rr0⟩ : LnkC W cs0.toList := (((opens2 Try.underlying37 (by kernel_rfl) rfl rfl ((opens2 Try.underlying34 (by kernel_rfl) rfl rfl ((opens2 Try.underlying31 (by kernel_rfl) rfl rfl (opens_int Try.underlying3 (by kernel_rfl)) (opens_pairs (by kernel_rfl) Try.underlying29 Try.underlying131 (by kernel_rfl) rfl rfl rfl rfl Try.underlying3 (by kernel_rfl))).mono (fun _ => mkGrfC)) (opens_pairs (by kernel_rfl) Try.underlying32 Try.underlying136 (by kernel_rfl) rfl rfl rfl rfl Try.underlying3 (by kernel_rfl))).mono (fun _ => mkFrmC)) (opens_ints (by kernel_rfl) Try.underlying35 Try.underlying3 (by kernel_rfl))).mono (fun _ => mkLnkC))).2 fl0 _ _ hf0
  have b0 := k0.lens
  clear hA0 hval0
  refine ((L_FnExactLinkageFreedom_w 4000000 l0 true (fnExactLinkageFreedom_v l0 ⟨b0.2.1, b0.2.2.1, b0.2.2.2.1⟩)).bool (mkArgs1 k0)).mono fun e W' ⟨he, hg⟩ => ?_
  subst he
  exact ⟨_, rfl, law_post (by kernel_rfl) (by rw [Try.params4]; exact of_decide_eq_true (by kernel_rfl)) rfl Try.underlying4 rfl rfl hW' hg⟩

theorem over : Rows.fnExactLinkageFreedomRow.holds Try.pinned (OpenSpec.ofChange Rows.fnExactLinkageFreedomSpec) :=
  OpenClaim.holds_of_wide 4 Try.f4 rfl rfl rfl rfl rfl rfl rfl ⟨rfl, rfl, rfl, rfl, rfl⟩ rfl rfl rfl rfl rfl (by kernel_rfl) Try.func4 (by kernel_rfl)
    (of_decide_eq_true (by kernel_rfl)) (by unfold Func.isWrapper; first | (rw [if_pos (by decide +kernel)]; kernel_rfl) | (rw [if_neg (by decide +kernel)]; exact ⟨rfl, rfl⟩))
    (fun os started H enc _ => lifted os started H enc)

/-- the statement -/
theorem proved : Rows.FnExactLinkageFreedomSaid :=
  over
#print axioms proved
end Go.Proofs.Ytkklfgcelmeccaa.fnExactLinkageFreedom
