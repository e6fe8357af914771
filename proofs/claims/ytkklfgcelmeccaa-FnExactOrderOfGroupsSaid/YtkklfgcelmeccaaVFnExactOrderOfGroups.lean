/- FnExactOrderOfGroups: whatever the input, the law returns true, and each argument reads as before. No condition. -/
import Derived.Test.YtkklfgcelmeccaaRows
import Derived.WalkKit
import Derived.ProofKit
import Derived.OpenShut
import Derived.Test.YtkklfgcelmeccaaBGd4
import Derived.Test.YtkklfgcelmeccaaBGd8
namespace Go.Proofs.Ytkklfgcelmeccaa
open Go.RowKit
set_option linter.unusedVariables false
set_option linter.unusedSimpArgs false
set_option maxRecDepth 20000 in
set_option maxHeartbeats 1600000 in
theorem fnExactOrderOfGroups_v (aP_0 : Pin) (h_aP_0 : BPinned aP_0) : Dp 4000000 aP_0 = some true := by
 unfold Dp
 rw [szPinned_s 4000000 h_aP_0 (by omega) (by omega)]
 by_cases s_aP_0 : 1048576 < ((Fl aP_0 : Nat) : Int)
 ·rw [Qo s_aP_0]; simp (disch := omega) only [Int.toNat_natCast, tk0, List.length_cons, List.length_nil, Ad, Aw, As, Ak, Al, cnd_true, cnd_false, Option.bind_some]
 ·rw [Xl s_aP_0, Option.bind_some, Al (by omega)]
  have f_aP_0 : Fl aP_0 ≤ 1048576 := by omega
  have f_aP_0_g_bars : aP_0.g.bars.length ≤ 1048576 := by have := f_aP_0; simp only [lnRaise, Hb, Fl, Yy, lnLinkage] at this; omega
  have f_aP_0_ground : aP_0.ground.length ≤ 1048576 := by have := f_aP_0; simp only [lnRaise, Hb, Fl, Yy, lnLinkage] at this; omega
  obtain ⟨r, b, hl, hg, hS, hI⟩ := order_x (N := 4000000) (by omega) (p := aP_0) (by omega) (by omega)
  have hln : lnSS r ≤ 64 := by have := lnSS_bd hg; omega
  have hsum : (r.map List.length).sum = lnSS r := rfl
  have heq : Jw 4000000 r r = some true := eqIntSS_s (by omega) (by omega) fun x hx => by have := hg x hx; omega
  have hmk := markIntSS_s (N := 4000000) (by omega) (a := r) (k0 := 1) (by omega) (by omega) (by omega)
  have hhd := heldIntSS_s (N := 4000000) (by omega) (ls := r.map List.length) (k0 := 1) (by omega) (by rw [List.length_map]; omega) (by omega)
  rw [hsum] at hhd
  simp (disch := omega) only [heq, eqPinned_s, toPinned_s, Option.bind_some, bne_self_eq_false, cnd_false, cnd_true, Bool.not_true, Bool.not_false, hS, hI, hhd, hmk, mkII_len, List.length_map, markPinned_s, Xn, Xf, grf_eta, pin_eta, frm_eta, lnk_eta, Al, Ad, Aw]
end Go.Proofs.Ytkklfgcelmeccaa
namespace Go.Proofs.Ytkklfgcelmeccaa.fnExactOrderOfGroups
open Go.ChangeShapes Go.WideShapes Go.ChangeAt Go.RowKit
set_option linter.unusedVariables false
set_option linter.unusedSimpArgs false
theorem own : ownKnob Try.prog.godebug = none := by kernel_rfl
set_option maxRecDepth 100000 in
theorem lifted (os : Os) (started : os.Started) (H : Type) (enc : TypeId × Value → H) :
  ReturnsInHanded {} Try.checked os 5 .any (Rows.fnExactOrderOfGroupsSpec.pre6 enc Try.prog Try.f5 Rows.fnExactOrderOfGroupsRow.domain false) (Rows.fnExactOrderOfGroupsSpec.post enc Try.prog Try.f5 false true false false) := by
 refine returnsInHanded_of_change (C := Try.checked) own started (by kernel_rfl) Try.func5
  (ChangeSpec.witness6 (enc := enc) (C := Try.checked) false ⟨#[], #[.agg #[.int .i64 0, .slice none 0 0, .slice none 0 0]], []⟩ 8 (by kernel_rfl) (by kernel_rfl) (by kernel_rfl) (by kernel_rfl)) ?_
 intro W base args ds gs before hval0 hW hcnd _
 have hval : ∀ (j : Nat) t v, Try.f5.params[j]? = some t → args[j]? = some v → Value.okWide Try.prog W .any base t v := hval0
 have hW' := hW
 obtain ⟨p, q, hA0, hV, rfl, hfz, hnd⟩ := hW
 have hA : DataW.TrodAll enc Try.prog W 0 (fun _ => true) true Try.f5.params.toList args.toList ds p := hA0
 rw [Try.params5] at hA hval
 obtain ⟨v0, vs0, d0, ds0, p0, q0, hargs, rfl, rfl, h0, r0⟩ := trodAll_cons hA
 obtain ⟨rfl, rfl, rfl⟩ := trodAll_nil r0
 obtain rfl : args = #[v0] := by cases args; simp_all
 obtain ⟨rfl, rfl⟩ := trodVars_none hV
 obtain ⟨cs0, rfl, hsz0⟩ := okWide_struct Try.underlying52 (hval 0 52 v0 rfl rfl)
 obtain ⟨fl0, hf0⟩ := h0
 obtain ⟨l0, k0, rr0⟩ : PinC W cs0.toList := (((opens2 Try.underlying52 (by kernel_rfl) rfl rfl ((opens2 Try.underlying31 (by kernel_rfl) rfl rfl (opens_int Try.underlying3 (by kernel_rfl)) (opens_pairs (by kernel_rfl) Try.underlying29 Try.underlying131 (by kernel_rfl) rfl rfl rfl rfl Try.underlying3 (by kernel_rfl))).mono (fun _ => mkGrfC)) (opens_ints (by kernel_rfl) Try.underlying35 Try.underlying3 (by kernel_rfl))).mono (fun _ => mkPinC))).2 fl0 _ _ hf0
 have b0 := k0.lens
 clear hA0 hval0
 refine ((Md 4000000 l0 true (fnExactOrderOfGroups_v l0 ⟨b0.2.1, b0.2.2.1⟩)).bool (mkArgs1 k0)).mono fun e W' ⟨he, hg⟩ => ?_
 subst he
 exact ⟨_, rfl, law_post (by kernel_rfl) (by rw [Try.params5]; exact of_decide_eq_true (by kernel_rfl)) rfl Try.underlying4 rfl rfl hW' hg⟩
theorem over : Rows.fnExactOrderOfGroupsRow.holds Try.pinned (OpenSpec.ofChange Rows.fnExactOrderOfGroupsSpec) :=
 OpenClaim.holds_of_wide 5 Try.f5 rfl rfl rfl rfl rfl rfl rfl ⟨rfl, rfl, rfl, rfl, rfl⟩ rfl rfl rfl rfl rfl (by kernel_rfl) Try.func5 (by kernel_rfl)
  (of_decide_eq_true (by kernel_rfl)) (by unfold Func.isWrapper; first | (rw [if_pos (by decide +kernel)]; kernel_rfl) | (rw [if_neg (by decide +kernel)]; exact ⟨rfl, rfl⟩))
  (fun os started H enc _ => lifted os started H enc)
theorem proved : Rows.FnExactOrderOfGroupsSaid :=
 over
#print axioms proved
end Go.Proofs.Ytkklfgcelmeccaa.fnExactOrderOfGroups
