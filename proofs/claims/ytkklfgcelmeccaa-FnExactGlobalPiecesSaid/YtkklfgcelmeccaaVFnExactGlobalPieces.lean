/- FnExactGlobalPieces: whatever the input, the law returns true, and each argument reads as before. No condition. -/
import Derived.Test.YtkklfgcelmeccaaRows
import Derived.WalkKit
import Derived.ProofKit
import Derived.OpenShut
import Derived.Test.YtkklfgcelmeccaaBGa4
import Derived.Test.YtkklfgcelmeccaaBGa8
namespace Go.Proofs.Ytkklfgcelmeccaa
open Go.RowKit
set_option linter.unusedVariables false
set_option linter.unusedSimpArgs false
set_option maxRecDepth 20000 in
set_option maxHeartbeats 1600000 in
theorem fnExactGlobalPieces_v (aG_0 : Grf) (h_aG_0 : BGraph aG_0) : L_FnExactGlobalPieces 4000000 aG_0 = some true := by
  unfold L_FnExactGlobalPieces
  rw [szGraph_s 4000000 h_aG_0 (by omega) (by omega)]
  by_cases s_aG_0 : 1048576 < ((lnGraph aG_0 : Nat) : Int)
  · rw [szv_big s_aG_0]; simp (disch := omega) only [Int.toNat_natCast, tk0, List.length_cons, List.length_nil, grd_pos, grd_T, grd_R, cnd_dt, cnd_df, cnd_true, cnd_false, Option.bind_some]
  · rw [szv_ok s_aG_0, Option.bind_some, cnd_df (by omega)]
    have f_aG_0 : lnGraph aG_0 ≤ 1048576 := by omega
    have f_aG_0_bars : aG_0.bars.length ≤ 1048576 := by have := f_aG_0; simp only [lnRaise, lnGraph, lnPinned, lnFramework, lnLinkage] at this; omega
    obtain ⟨r, hl, hg, hS, hI⟩ := pieces_x (N := 4000000) (by omega) (g := aG_0) (by omega)
    have hln : lnSS r ≤ 24000 := by have := lnSS_bd hg; have h2 := Nat.mul_le_mul_right 8 hl; omega
    have hsum : (r.map List.length).sum = lnSS r := rfl
    have heq : L_eqIntSS 4000000 r r = some true := eqIntSS_s (by omega) (by omega) fun x hx => by have := hg x hx; omega
    have hmk := markIntSS_s (N := 4000000) (by omega) (a := r) (k0 := 1) (by omega) (by omega) (by omega)
    have hhd := heldIntSS_s (N := 4000000) (by omega) (ls := r.map List.length) (k0 := 1) (by omega) (by rw [List.length_map]; omega) (by omega)
    rw [hsum] at hhd
    simp (disch := omega) only [heq, eqGraph_s, toGraph_s, Option.bind_some, bne_self_eq_false, cnd_false, cnd_true, Bool.not_true, Bool.not_false, hS, hI, hhd, markGraph_s, hmk, mkII_len, List.length_map, mkI_len, mkP_len, grf_eta, pin_eta, frm_eta, lnk_eta, cnd_df, grd_pos, grd_T]
end Go.Proofs.Ytkklfgcelmeccaa

namespace Go.Proofs.Ytkklfgcelmeccaa.fnExactGlobalPieces
open Go.ChangeShapes Go.WideShapes Go.ChangeAt Go.RowKit
set_option linter.unusedVariables false
set_option linter.unusedSimpArgs false

theorem own : ownKnob Try.prog.godebug = none := by kernel_rfl

set_option maxRecDepth 100000 in
theorem lifted (os : Os) (started : os.Started) (H : Type) (enc : TypeId × Value → H) :
    ReturnsInHanded {} Try.checked os 6 .any (Rows.fnExactGlobalPiecesSpec.pre6 enc Try.prog Try.f6 Rows.fnExactGlobalPiecesRow.domain false) (Rows.fnExactGlobalPiecesSpec.post enc Try.prog Try.f6 false true false false) := by
  refine returnsInHanded_of_change (C := Try.checked) own started (by kernel_rfl) Try.func6
    (ChangeSpec.witness6 (enc := enc) (C := Try.checked) false ⟨#[], #[.agg #[.int .i64 0, .slice none 0 0]], []⟩ 8 (by kernel_rfl) (by kernel_rfl) (by kernel_rfl) (by kernel_rfl)) ?_
  intro W base args ds gs before hval0 hW hcnd _
  have hval : ∀ (j : Nat) t v, Try.f6.params[j]? = some t → args[j]? = some v → Value.okWide Try.prog W .any base t v := hval0
  have hW' := hW
  obtain ⟨p, q, hA0, hV, rfl, hfz, hnd⟩ := hW
  have hA : DataW.TrodAll enc Try.prog W 0 (fun _ => true) true Try.f6.params.toList args.toList ds p := hA0
  rw [Try.params6] at hA hval
  obtain ⟨v0, vs0, d0, ds0, p0, q0, hargs, rfl, rfl, h0, r0⟩ := trodAll_cons hA
  obtain ⟨rfl, rfl, rfl⟩ := trodAll_nil r0
  obtain rfl : args = #[v0] := by cases args; simp_all
  obtain ⟨rfl, rfl⟩ := trodVars_none hV
  obtain ⟨cs0, rfl, hsz0⟩ := okWide_struct Try.underlying31 (hval 0 31 v0 rfl rfl)
  obtain ⟨fl0, hf0⟩ := h0
  obtain ⟨l0, k0, rr0⟩ : GrfC W cs0.toList := (((opens2 Try.underlying31 (by kernel_rfl) rfl rfl (opens_int Try.underlying3 (by kernel_rfl)) (opens_pairs (by kernel_rfl) Try.underlying29 Try.underlying131 (by kernel_rfl) rfl rfl rfl rfl Try.underlying3 (by kernel_rfl))).mono (fun _ => mkGrfC))).2 fl0 _ _ hf0
  have b0 := k0.lens
  clear hA0 hval0
  refine ((L_FnExactGlobalPieces_w 4000000 l0 true (fnExactGlobalPieces_v l0 b0.2.1)).bool (mkArgs1 k0)).mono fun e W' ⟨he, hg⟩ => ?_
  subst he
  exact ⟨_, rfl, law_post (by kernel_rfl) (by rw [Try.params6]; exact of_decide_eq_true (by kernel_rfl)) rfl Try.underlying4 rfl rfl hW' hg⟩

theorem over : Rows.fnExactGlobalPiecesRow.holds Try.pinned (OpenSpec.ofChange Rows.fnExactGlobalPiecesSpec) :=
  OpenClaim.holds_of_wide 6 Try.f6 rfl rfl rfl rfl rfl rfl rfl ⟨rfl, rfl, rfl, rfl, rfl⟩ rfl rfl rfl rfl rfl (by kernel_rfl) Try.func6 (by kernel_rfl)
    (of_decide_eq_true (by kernel_rfl)) (by unfold Func.isWrapper; first | (rw [if_pos (by decide +kernel)]; kernel_rfl) | (rw [if_neg (by decide +kernel)]; exact ⟨rfl, rfl⟩))
    (fun os started H enc _ => lifted os started H enc)

/-- the statement -/
theorem proved : Rows.FnExactGlobalPiecesSaid :=
  over
#print axioms proved
end Go.Proofs.Ytkklfgcelmeccaa.fnExactGlobalPieces
