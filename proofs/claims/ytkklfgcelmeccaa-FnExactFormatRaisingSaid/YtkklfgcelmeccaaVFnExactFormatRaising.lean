/- FnExactFormatRaising: whatever the input, the law returns true, and each argument reads as before. No condition. -/
import Derived.Test.YtkklfgcelmeccaaRows
import Derived.WalkKit
import Derived.ProofKit
import Derived.OpenShut
import Derived.Test.YtkklfgcelmeccaaBGb2
import Derived.Test.YtkklfgcelmeccaaBGb3
namespace Go.Proofs.Ytkklfgcelmeccaa
open Go.RowKit
set_option linter.unusedVariables false
set_option linter.unusedSimpArgs false
set_option maxRecDepth 20000 in
set_option maxHeartbeats 1600000 in
theorem fnExactFormatRaising_v (aL_0 : List (Int × List Int)) (h_aL_0 : BRaiseS aL_0) (h_r : ∀ x ∈ aL_0, Rg64 x.1 ∧ ∀ y ∈ x.2, Rg64 y) : L_FnExactFormatRaising 4000000 aL_0 = some true := by
  unfold L_FnExactFormatRaising
  rw [szRaiseS_s 4000000 (by omega) h_aL_0 (by omega) (by omega)]
  by_cases s_aL_0 : 1048576 < ((lnRaiseS aL_0 : Nat) : Int)
  · rw [szv_big s_aL_0]; simp (disch := omega) only [Int.toNat_natCast, tk0, List.length_cons, List.length_nil, grd_pos, grd_T, grd_R, cnd_dt, cnd_df, cnd_true, cnd_false, Option.bind_some]
  · rw [szv_ok s_aL_0, Option.bind_some, cnd_df (by omega)]
    have f_aL_0 : lnRaiseS aL_0 ≤ 1048576 := by omega
    have hle : aL_0.length ≤ 1048576 ∧ ∀ x ∈ aL_0, x.2.length ≤ 1048576 := ⟨by unfold lnRaiseS at f_aL_0; omega, fun x hx => by have := lnRaiseS_in hx; omega⟩
    obtain ⟨r, hS, hI⟩ := format_x (N := 4000000) (by omega) (l := aL_0) (by omega) (fun x hx => ⟨(h_r x hx).1, by have := hle.2 x hx; omega, (h_r x hx).2⟩)
    have hq : (r.toList == r.toList) = true := beq_self_eq_true _
    simp (disch := omega) only [hq, eqRaiseS_s, toRaiseS_s, Option.bind_some, bne_self_eq_false, cnd_false, cnd_true, Bool.not_true, Bool.not_false, hS, hI]
end Go.Proofs.Ytkklfgcelmeccaa

namespace Go.Proofs.Ytkklfgcelmeccaa.fnExactFormatRaising
open Go.ChangeShapes Go.WideShapes Go.ChangeAt Go.RowKit
set_option linter.unusedVariables false
set_option linter.unusedSimpArgs false

theorem own : ownKnob Try.prog.godebug = none := by kernel_rfl

set_option maxRecDepth 100000 in
theorem lifted (os : Os) (started : os.Started) (H : Type) (enc : TypeId × Value → H) :
    ReturnsInHanded {} Try.checked os 3 .any (Rows.fnExactFormatRaisingSpec.pre6 enc Try.prog Try.f3 Rows.fnExactFormatRaisingRow.domain false) (Rows.fnExactFormatRaisingSpec.post enc Try.prog Try.f3 false true false false) := by
  refine returnsInHanded_of_change (C := Try.checked) own started (by kernel_rfl) Try.func3
    (ChangeSpec.witness6 (enc := enc) (C := Try.checked) false ⟨#[], #[.slice none 0 0], []⟩ 8 (by kernel_rfl) (by kernel_rfl) (by kernel_rfl) (by kernel_rfl)) ?_
  intro W base args ds gs before hval0 hW hcnd _
  have hval : ∀ (j : Nat) t v, Try.f3.params[j]? = some t → args[j]? = some v → Value.okWide Try.prog W .any base t v := hval0
  have hW' := hW
  obtain ⟨p, q, hA0, hV, rfl, hfz, hnd⟩ := hW
  have hA : DataW.TrodAll enc Try.prog W 0 (fun _ => true) true Try.f3.params.toList args.toList ds p := hA0
  rw [Try.params3] at hA hval
  obtain ⟨v0, vs0, d0, ds0, p0, q0, hargs, rfl, rfl, h0, r0⟩ := trodAll_cons hA
  obtain ⟨rfl, rfl, rfl⟩ := trodAll_nil r0
  obtain rfl : args = #[v0] := by cases args; simp_all
  obtain ⟨rfl, rfl⟩ := trodVars_none hV
  obtain ⟨ao0, ln0, cp0, rfl⟩ := okWide_slice Try.underlying22 (hval 0 22 v0 rfl rfl)
  obtain ⟨fl0, hf0⟩ := h0
  obtain ⟨u0, l0, e0, k0, rr0⟩ := open_raisesD Try.underlying22 Try.underlying73 (by kernel_rfl) rfl rfl rfl rfl Try.underlying3 (by kernel_rfl) Try.underlying35 (by kernel_rfl) hf0
  obtain rfl : _ = u0 := by simpa [Value.cells] using e0
  have b0 := k0.lens
  clear hA0 hval0
  refine ((L_FnExactFormatRaising_w 4000000 l0 true (fnExactFormatRaising_v l0 ⟨b0, fun x hx => (rr0 x hx).2.2⟩ (fun x hx => ⟨(rr0 x hx).1, (rr0 x hx).2.1⟩))).bool (mkArgs1 k0)).mono fun e W' ⟨he, hg⟩ => ?_
  subst he
  exact ⟨_, rfl, law_post (by kernel_rfl) (by rw [Try.params3]; exact of_decide_eq_true (by kernel_rfl)) rfl Try.underlying4 rfl rfl hW' hg⟩

theorem over : Rows.fnExactFormatRaisingRow.holds Try.pinned (OpenSpec.ofChange Rows.fnExactFormatRaisingSpec) :=
  OpenClaim.holds_of_wide 3 Try.f3 rfl rfl rfl rfl rfl rfl rfl ⟨rfl, rfl, rfl, rfl, rfl⟩ rfl rfl rfl rfl rfl (by kernel_rfl) Try.func3 (by kernel_rfl)
    (of_decide_eq_true (by kernel_rfl)) (by unfold Func.isWrapper; first | (rw [if_pos (by decide +kernel)]; kernel_rfl) | (rw [if_neg (by decide +kernel)]; exact ⟨rfl, rfl⟩))
    (fun os started H enc _ => lifted os started H enc)

/-- the statement -/
theorem proved : Rows.FnExactFormatRaisingSaid :=
  over
#print axioms proved
end Go.Proofs.Ytkklfgcelmeccaa.fnExactFormatRaising
