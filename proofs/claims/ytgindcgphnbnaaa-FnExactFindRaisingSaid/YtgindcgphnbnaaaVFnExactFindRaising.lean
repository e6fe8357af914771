/- FnExactFindRaising: whatever the input, the law returns true, and each argument reads as before. No condition. -/
import Derived.Test.YtgindcgphnbnaaaRows
import Derived.WalkKit
import Derived.ProofKit
import Derived.OpenShut
import Derived.Test.YtgindcgphnbnaaaBP4
import Derived.Test.YtgindcgphnbnaaaBP6
import Derived.Test.YtgindcgphnbnaaaBP7
namespace Go.Proofs.Ytgindcgphnbnaaa
open Go.RowKit
set_option linter.unusedVariables false
set_option linter.unusedSimpArgs false
set_option maxRecDepth 20000 in
set_option maxHeartbeats 1600000 in
theorem fnExactFindRaising_v (aP_0 : Pin) (h_aP_0 : BPinned aP_0) : L_FnExactFindRaising 4000000 aP_0 = some true := by
  unfold L_FnExactFindRaising
  rw [szPinned_s 4000000 h_aP_0 (by omega) (by omega)]
  by_cases s_aP_0 : 1048576 < ((lnPinned aP_0 : Nat) : Int)
  · rw [szv_big s_aP_0]; simp (disch := omega) only [Int.toNat_natCast, tk0, List.length_cons, List.length_nil, grd_pos, grd_T, grd_R, cnd_dt, cnd_df, cnd_true, cnd_false, Option.bind_some]
  · rw [szv_ok s_aP_0, Option.bind_some, cnd_df (by omega)]
    have f_aP_0 : lnPinned aP_0 ≤ 1048576 := by omega
    have f_aP_0_g_bars : aP_0.g.bars.length ≤ 1048576 := by have := f_aP_0; simp only [lnRaise, lnGraph, lnPinned, lnFramework, lnLinkage] at this; omega
    have f_aP_0_ground : aP_0.ground.length ≤ 1048576 := by have := f_aP_0; simp only [lnRaise, lnGraph, lnPinned, lnFramework, lnLinkage] at this; omega
    obtain ⟨r, b, hl, hg, hS, hI⟩ := findRaising_x (N := 4000000) (by omega) (p := aP_0) (by omega) (by omega)
    have hln : lnRaiseS r ≤ 200 := by
      have : ∀ (r : List (Int × List Int)), (∀ x ∈ r, x.2.length ≤ 15) → (r.map fun x => x.2.length).sum ≤ r.length * 15 := by
        intro r
        induction r with
        | nil => intro _; simp
        | cons x r ih =>
          intro h
          have h1 := h x (by simp)
          have h2 := ih fun y hy => h y (by simp [hy])
          simp only [List.map_cons, List.sum_cons, List.length_cons, Nat.succ_mul]; omega
      have := this r hg
      unfold lnRaiseS; omega
    have hsum : (r.map fun x => x.2.length).sum + (r.map fun x => x.2.length).length = lnRaiseS r := by unfold lnRaiseS; rw [List.length_map]; omega
    have heq : L_eqRaiseS 4000000 r r = some true := eqRaiseS_s 4000000 (by omega) (by omega)
    have hmk := markRaiseS_s (N := 4000000) (by omega) (a := r) (k0 := 1) (by omega) (by omega)
    have hhd := heldRaiseS_s (N := 4000000) (by omega) (ls := r.map fun x => x.2.length) (k0 := 1) (by omega) (by rw [List.length_map]; omega) (by omega)
    rw [hsum] at hhd
    have hmr : ∀ k, (mkR k (r.map fun x => x.2.length)).length = r.length := fun k => by rw [mkR_len, List.length_map]
    simp (disch := omega) only [eqPinned_s, heq, toPinned_s, Option.bind_some, bne_self_eq_false, cnd_false, cnd_true, Bool.not_true, Bool.not_false, hS, hI, hhd, markPinned_s, hmk, hmr, mkI_len, mkP_len, grf_eta, pin_eta, frm_eta, lnk_eta, cnd_df, grd_pos, grd_T]
end Go.Proofs.Ytgindcgphnbnaaa

namespace Go.Proofs.Ytgindcgphnbnaaa.fnExactFindRaising
open Go.ChangeShapes Go.WideShapes Go.ChangeAt Go.RowKit
set_option linter.unusedVariables false
set_option linter.unusedSimpArgs false

theorem own : ownKnob Try.prog.godebug = none := by kernel_rfl

set_option maxRecDepth 100000 in
theorem lifted (os : Os) (started : os.Started) (H : Type) (enc : TypeId × Value → H) :
    ReturnsInHanded {} Try.checked os 8 .any (Rows.fnExactFindRaisingSpec.pre6 enc Try.prog Try.f8 Rows.fnExactFindRaisingRow.domain false) (Rows.fnExactFindRaisingSpec.post enc Try.prog Try.f8 false true false false) := by
  refine returnsInHanded_of_change (C := Try.checked) own started (by kernel_rfl) Try.func8
    (ChangeSpec.witness6 (enc := enc) (C := Try.checked) false ⟨#[], #[.agg #[.int .i64 0, .slice none 0 0, .slice none 0 0]], []⟩ 8 (by kernel_rfl) (by kernel_rfl) (by kernel_rfl) (by kernel_rfl)) ?_
  intro W base args ds gs before hval0 hW hcnd _
  have hval : ∀ (j : Nat) t v, Try.f8.params[j]? = some t → args[j]? = some v → Value.okWide Try.prog W .any base t v := hval0
  have hW' := hW
  obtain ⟨p, q, hA0, hV, rfl, hfz, hnd⟩ := hW
  have hA : DataW.TrodAll enc Try.prog W 0 (fun _ => true) true Try.f8.params.toList args.toList ds p := hA0
  rw [Try.params8] at hA hval
  obtain ⟨v0, vs0, d0, ds0, p0, q0, hargs, rfl, rfl, h0, r0⟩ := trodAll_cons hA
  obtain ⟨rfl, rfl, rfl⟩ := trodAll_nil r0
  obtain rfl : args = #[v0] := by cases args; simp_all
  obtain ⟨rfl, rfl⟩ := trodVars_none hV
  obtain ⟨cs0, rfl, hsz0⟩ := okWide_struct Try.underlying32 (hval 0 32 v0 rfl rfl)
  obtain ⟨fl0, hf0⟩ := h0
  obtain ⟨l0, k0, rr0⟩ : PinC W cs0.toList := (((opens2 Try.underlying32 (by kernel_rfl) rfl rfl ((opens2 Try.underlying30 (by kernel_rfl) rfl rfl (opens_int Try.underlying3 (by kernel_rfl)) (opens_pairs (by kernel_rfl) Try.underlying28 Try.underlying154 (by kernel_rfl) rfl rfl rfl rfl Try.underlying3 (by kernel_rfl))).mono (fun _ => mkGrfC)) (opens_ints (by kernel_rfl) Try.underlying22 Try.underlying3 (by kernel_rfl))).mono (fun _ => mkPinC))).2 fl0 _ _ hf0
  have b0 := k0.lens
  clear hA0 hval0
  refine ((L_FnExactFindRaising_w 4000000 l0 true (fnExactFindRaising_v l0 ⟨b0.2.1, b0.2.2.1⟩)).bool (mkArgs1 k0)).mono fun e W' ⟨he, hg⟩ => ?_
  subst he
  exact ⟨_, rfl, law_post (by kernel_rfl) (by rw [Try.params8]; exact of_decide_eq_true (by kernel_rfl)) rfl Try.underlying4 rfl rfl hW' hg⟩

theorem over : Rows.fnExactFindRaisingRow.holds Try.pinned (OpenSpec.ofChange Rows.fnExactFindRaisingSpec) :=
  OpenClaim.holds_of_wide 8 Try.f8 rfl rfl rfl rfl rfl rfl rfl ⟨rfl, rfl, rfl, rfl, rfl⟩ rfl rfl rfl rfl rfl (by kernel_rfl) Try.func8 (by kernel_rfl)
    (of_decide_eq_true (by kernel_rfl)) (by unfold Func.isWrapper; first | (rw [if_pos (by decide +kernel)]; kernel_rfl) | (rw [if_neg (by decide +kernel)]; exact ⟨rfl, rfl⟩))
    (fun os started H enc _ => lifted os started H enc)

/-- the statement -/
theorem proved : Rows.FnExactFindRaisingSaid :=
  over
#print axioms proved
end Go.Proofs.Ytgindcgphnbnaaa.fnExactFindRaising
