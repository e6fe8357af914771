/- FnExactNextMeasure: whatever the input, the law returns true, and each argument reads as before. No condition. -/
import Derived.Test.YtmoamglpocjhgaaGreatRows
import Derived.WalkKit
import Derived.ProofKit
import Derived.OpenShut
import Derived.Test.YtmoamglpocjhgaaGreatBnm4
import Derived.Test.YtmoamglpocjhgaaGreatBnm8
namespace Go.Proofs.YtmoamglpocjhgaaGreat
open Go.RowKit
set_option linter.unusedVariables false
set_option linter.unusedSimpArgs false
set_option maxRecDepth 20000 in
set_option maxHeartbeats 1600000 in
theorem fnExactNextMeasure_v (aG_0 : Grf) (aAnchors_1 : List Int) (h_aG_0 : BGraph aG_0) (h_aAnchors_1 : B63 aAnchors_1.length) : L_FnExactNextMeasure 4000000 aG_0 aAnchors_1 = some true := by
  unfold L_FnExactNextMeasure
  by_cases s_aAnchors_1 : 1048576 < (aAnchors_1.length : Int)
  · simp (disch := omega) only [Int.toNat_natCast, tk0, List.length_cons, List.length_nil, grd_pos, grd_T, grd_R, cnd_dt, cnd_df, cnd_true, cnd_false, Option.bind_some]
  · rw [cnd_df (by omega)]
    rw [szGraph_s 4000000 h_aG_0 (by omega) (by omega)]
    by_cases s_aG_0 : 1048576 < ((lnGraph aG_0 : Nat) : Int)
    · rw [szv_big s_aG_0]; simp (disch := omega) only [Int.toNat_natCast, tk0, List.length_cons, List.length_nil, grd_pos, grd_T, grd_R, cnd_dt, cnd_df, cnd_true, cnd_false, Option.bind_some]
    · rw [szv_ok s_aG_0, Option.bind_some, cnd_df (by omega)]
      have f_aG_0 : lnGraph aG_0 ≤ 1048576 := by omega
      have f_aG_0_bars : aG_0.bars.length ≤ 1048576 := by have := f_aG_0; simp only [lnRaise, lnGraph, lnPinned, lnFramework, lnLinkage] at this; omega
      have f_aAnchors_1 : aAnchors_1.length ≤ 1048576 := by omega
      obtain ⟨r, b, hS, hI⟩ := next_x (N := 4000000) (by omega) (g := aG_0) (by omega) (A := aAnchors_1) (by omega)
      have hq : L_eqBar 4000000 r r = some true := by unfold L_eqBar; simp [cnd]
      simp (disch := omega) only [eqBar_s, eqGraph_s, eqIntS_s, toGraph_s, toIntS_s, Option.bind_some, bne_self_eq_false, cnd_false, cnd_true, Bool.not_true, Bool.not_false, hS, hI]
end Go.Proofs.YtmoamglpocjhgaaGreat

namespace Go.Proofs.YtmoamglpocjhgaaGreat.fnExactNextMeasure
open Go.ChangeShapes Go.WideShapes Go.ChangeAt Go.RowKit
set_option linter.unusedVariables false
set_option linter.unusedSimpArgs false

theorem own : ownKnob Tryz.prog.godebug = none := by kernel_rfl

set_option maxRecDepth 100000 in
theorem lifted (os : Os) (started : os.Started) (H : Type) (enc : TypeId × Value → H) :
    ReturnsInHanded {} Tryz.checked os 4 .any (Rows.fnExactNextMeasureSpec.pre6 enc Tryz.prog Tryz.f4 Rows.fnExactNextMeasureRow.domain false) (Rows.fnExactNextMeasureSpec.post enc Tryz.prog Tryz.f4 false true false false) := by
  refine returnsInHanded_of_change (C := Tryz.checked) own started (by kernel_rfl) Tryz.func4
    (ChangeSpec.witness6 (enc := enc) (C := Tryz.checked) false ⟨#[], #[.agg #[.int .i64 0, .slice none 0 0], .slice none 0 0], []⟩ 8 (by kernel_rfl) (by kernel_rfl) (by kernel_rfl) (by kernel_rfl)) ?_
  intro W base args ds gs before hval0 hW hcnd _
  have hval : ∀ (j : Nat) t v, Tryz.f4.params[j]? = some t → args[j]? = some v → Value.okWide Tryz.prog W .any base t v := hval0
  have hW' := hW
  obtain ⟨p, q, hA0, hV, rfl, hfz, hnd⟩ := hW
  have hA : DataW.TrodAll enc Tryz.prog W 0 (fun _ => true) true Tryz.f4.params.toList args.toList ds p := hA0
  rw [Tryz.params4] at hA hval
  obtain ⟨v0, vs0, d0, ds0, p0, q0, hargs, rfl, rfl, h0, r0⟩ := trodAll_cons hA
  obtain ⟨v1, vs1, d1, ds1, p1, q1, rfl, rfl, rfl, h1, r1⟩ := trodAll_cons r0
  obtain ⟨rfl, rfl, rfl⟩ := trodAll_nil r1
  obtain rfl : args = #[v0, v1] := by cases args; simp_all
  obtain ⟨rfl, rfl⟩ := trodVars_none hV
  obtain ⟨cs0, rfl, hsz0⟩ := okWide_struct Tryz.underlying24 (hval 0 24 v0 rfl rfl)
  obtain ⟨fl0, hf0⟩ := h0
  obtain ⟨l0, k0, rr0⟩ : GrfC W cs0.toList := (((opens2 Tryz.underlying24 (by kernel_rfl) rfl rfl (opens_int Tryz.underlying3 (by kernel_rfl)) (opens_pairs (by kernel_rfl) Tryz.underlying22 Tryz.underlying97 (by kernel_rfl) rfl rfl rfl rfl Tryz.underlying3 (by kernel_rfl))).mono (fun _ => mkGrfC))).2 fl0 _ _ hf0
  have b0 := k0.lens
  obtain ⟨ao1, ln1, cp1, rfl⟩ := okWide_slice Tryz.underlying25 (hval 1 25 v1 rfl rfl)
  obtain ⟨fl1, hf1⟩ := h1
  obtain ⟨u1, l1, e1, k1, rr1⟩ := open_intsD Tryz.underlying25 Tryz.underlying3 (by kernel_rfl) hf1
  obtain rfl : _ = u1 := by simpa [Value.cells] using e1
  have b1 := k1.lens
  clear hA0 hval0
  refine ((L_FnExactNextMeasure_w 4000000 l0 l1 true (fnExactNextMeasure_v l0 l1 b0.2.1 b1)).bool (mkArgs2 k0 k1)).mono fun e W' ⟨he, hg⟩ => ?_
  subst he
  exact ⟨_, rfl, law_post (by kernel_rfl) (by rw [Tryz.params4]; exact of_decide_eq_true (by kernel_rfl)) rfl Tryz.underlying4 rfl rfl hW' hg⟩

theorem over : Rows.fnExactNextMeasureRow.holds Tryz.pinned (OpenSpec.ofChange Rows.fnExactNextMeasureSpec) :=
  OpenClaim.holds_of_wide 4 Tryz.f4 rfl rfl rfl rfl rfl rfl rfl ⟨rfl, rfl, rfl, rfl, rfl⟩ rfl rfl rfl rfl rfl (by kernel_rfl) Tryz.func4 (by kernel_rfl)
    (of_decide_eq_true (by kernel_rfl)) (by unfold Func.isWrapper; first | (rw [if_pos (by decide +kernel)]; kernel_rfl) | (rw [if_neg (by decide +kernel)]; exact ⟨rfl, rfl⟩))
    (fun os started H enc _ => lifted os started H enc)

/-- the statement -/
theorem proved : Rows.FnExactNextMeasureSaid :=
  over
#print axioms proved
end Go.Proofs.YtmoamglpocjhgaaGreat.fnExactNextMeasure
