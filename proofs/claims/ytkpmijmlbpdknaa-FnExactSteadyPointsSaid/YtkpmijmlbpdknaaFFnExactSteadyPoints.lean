/- FnExactSteadyPoints: whatever the input, the law returns true, and each argument reads as before. No condition. -/
import Derived.Test.YtkpmijmlbpdknaaRows
import Derived.Test.YtkpmijmlbpdknaaYFnExactSteadyPoints
import Derived.WalkKit
import Derived.ProofKit
import Derived.OpenShut
namespace Go.Proofs.Ytkpmijmlbpdknaa.fnExactSteadyPoints
open Go.ChangeShapes Go.WideShapes Go.ChangeAt Go.RowKit
set_option linter.unusedVariables false
set_option linter.unusedSimpArgs false

theorem own : ownKnob Try.prog.godebug = none := by kernel_rfl

set_option maxRecDepth 100000 in
theorem lifted (os : Os) (started : os.Started) (H : Type) (enc : TypeId × Value → H) :
    ReturnsInHanded {} Try.checked os 6 .any (Rows.fnExactSteadyPointsSpec.pre6 enc Try.prog Try.f6 Rows.fnExactSteadyPointsRow.domain false) (Rows.fnExactSteadyPointsSpec.post enc Try.prog Try.f6 false true false false) := by
  refine returnsInHanded_of_change (C := Try.checked) own started (by kernel_rfl) Try.func6
    (ChangeSpec.witness6 (enc := enc) (C := Try.checked) false ⟨#[], #[.agg #[.int .i64 0, .slice none 0 0, .slice none 0 0]], []⟩ 8 (by kernel_rfl) (by kernel_rfl) (by kernel_rfl) (by kernel_rfl)) ?_
  intro W base args ds gs before hval0 hW hcnd _
  have hval : ∀ (j : Nat) t v, Try.f6.params[j]? = some t → args[j]? = some v → Value.okWide Try.prog W .any base t v := hval0
  have hW' := hW
  obtain ⟨p, q, hA0, hV, rfl, hfz, hnd⟩ := hW
  have hA : DataW.TrodAll enc Try.prog W 0 (fun _ => true) true Try.f6.params.toList args.toList ds p := hA0
  rw [Try.params6] at hA hval
  obtain ⟨v0, vs0, d0, ds0, p0, q0, hargs, rfl, rfl, h0, r0⟩ := trodAll_cons hA
  obtain ⟨rfl, rfl, rfl⟩ := trodAll_nil r0
  obtain rfl : args = #[v0] := by cases args; simp_all
  obtain ⟨rfl, rfl⟩ := trodVars_none hV
  obtain ⟨cs0, rfl, hsz0⟩ := okWide_struct Try.underlying27 (hval 0 27 v0 rfl rfl)
  obtain ⟨fl0, hf0⟩ := h0
  obtain ⟨l0, k0, rr0⟩ : PinC W cs0.toList := (((opens2 Try.underlying27 (by kernel_rfl) rfl rfl ((opens2 Try.underlying24 (by kernel_rfl) rfl rfl (opens_int Try.underlying3 (by kernel_rfl)) (opens_pairs (by kernel_rfl) Try.underlying22 Try.underlying102 (by kernel_rfl) rfl rfl rfl rfl Try.underlying3 (by kernel_rfl))).mono (fun _ => mkGrfC)) (opens_ints (by kernel_rfl) Try.underlying25 Try.underlying3 (by kernel_rfl))).mono (fun _ => mkPinC))).2 fl0 _ _ hf0
  have b0 := k0.lens
  clear hA0 hval0
  refine ((L_FnExactSteadyPoints_w 4000000 l0 true (fnExactSteadyPoints_v l0 ⟨b0.2.1, b0.2.2.1⟩)).bool (mkArgs1 k0)).mono fun e W' ⟨he, hg⟩ => ?_
  subst he
  exact ⟨_, rfl, law_post (by kernel_rfl) (by rw [Try.params6]; exact of_decide_eq_true (by kernel_rfl)) rfl Try.underlying4 rfl rfl hW' hg⟩

theorem over : Rows.fnExactSteadyPointsRow.holds Try.pinned (OpenSpec.ofChange Rows.fnExactSteadyPointsSpec) :=
  OpenClaim.holds_of_wide 6 Try.f6 rfl rfl rfl rfl rfl rfl rfl ⟨rfl, rfl, rfl, rfl, rfl⟩ rfl rfl rfl rfl rfl (by kernel_rfl) Try.func6 (by kernel_rfl)
    (of_decide_eq_true (by kernel_rfl)) (by unfold Func.isWrapper; first | (rw [if_pos (by decide +kernel)]; kernel_rfl) | (rw [if_neg (by decide +kernel)]; exact ⟨rfl, rfl⟩))
    (fun os started H enc _ => lifted os started H enc)

/-- the statement -/
theorem proved : Rows.FnExactSteadyPointsSaid :=
  over
#print axioms proved
end Go.Proofs.Ytkpmijmlbpdknaa.fnExactSteadyPoints
