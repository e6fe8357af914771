/- FnLinkages: whatever the input, the law returns true, and each argument reads as before. No condition. -/
import Derived.Test.YtcljhpldfanhkaaRows
import Derived.WalkKit
import Derived.ProofKit
import Derived.OpenShut
import Derived.Test.YtcljhpldfanhkaaBJd6
import Derived.Test.YtcljhpldfanhkaaBJd7
import Derived.Test.YtcljhpldfanhkaaBJd8
namespace Go.Proofs.Ytcljhpldfanhkaa
open Go.RowKit
set_option linter.unusedVariables false
set_option linter.unusedSimpArgs false
theorem samePlaces_s {N : Nat} (hN : 4000000 ≤ N) {l : List (Int × Int)} (hl : l.length ≤ 3000000) : L_samePlaces N l l = some true := by
  have key : ∀ (fuel i : Nat), i ≤ l.length → l.length < fuel + i → L_samePlaces_l1 N l l (fun (_ : Unit) => some true) fuel (i : Int) = some true := by
    intro fuel
    induction fuel with
    | zero => intro i h1 h2; omega
    | succ fuel ih =>
      intro i h1 h2
      rw [L_samePlaces_l1]
      by_cases hi : i < l.length
      · rw [cnd_dt (by omega), grd_pos (by omega), grd_pos (by omega), beq_self_eq_true, beq_self_eq_true, Bool.and_self, Bool.not_true, cnd_false, grd_R (by omega) (by omega), succ_cast, ih (i + 1) (by omega) (by omega)]
      · rw [cnd_df (by omega)]
  unfold L_samePlaces
  rw [cnd_nef rfl]
  exact key N 0 (by omega) (by omega)
theorem linkages_l {N : Nat} (hN : 4000000 ≤ N) {l : Lnk} (hl : LD l) {b : Bool} {k : Unit → Option Bool} : ∀ (fuel i : Nat), i ≤ (posesL l).length → (posesL l).length < fuel + i → L_FnLinkages_l1 N l (posesL l, b) (posesL l, b) k fuel (i : Int) = k () := by
  have hp := posesL_len l
  have h1 := hl.pl
  have h2 := hl.gl
  intro fuel
  induction fuel with
  | zero => intro i h1 h2; omega
  | succ fuel ih =>
    intro i h1 h2
    rw [L_FnLinkages_l1]
    by_cases hi : i < (posesL l).length
    · have e2 : ((i : Int)).toNat = i := rfl
      have hm := posesL_mem (getD_in (d := []) hi)
      rw [cnd_dt (by simp only; omega), grd_pos (by simp only; omega), grd_pos (by simp only; omega), e2]
      simp only
      rw [samePlaces_s hN (by omega), Option.bind_some, Bool.not_true, cnd_false, isPoseI_s N hN (by omega) (by omega), hm.2, Option.bind_some, Bool.not_true, cnd_false, idxI_s hN (by omega) (fun x hx => by have := (posesL_mem hx).1; omega), Option.bind_some, idxP_at (posesL_nodup l) hi, cnd_nef rfl, grd_R (by omega) (by omega), succ_cast]
      exact ih (i + 1) (by omega) (by omega)
    · rw [cnd_df (by simp only; omega)]
set_option maxRecDepth 20000 in
set_option maxHeartbeats 1600000 in
theorem fnLinkages_v (code : List Int) (hb : Byt code) : L_FnLinkages 4000000 code = some true := by
  have hN : 4000000 ≤ 4000000 := Nat.le_refl _
  unfold L_FnLinkages L_big
  rw [Option.bind_some]
  by_cases hc : (code.length : Int) > 1048576
  · rw [cnd_dt hc]
  rw [cnd_df hc]
  obtain ⟨l, hl, ld⟩ := drawPoses_d hN hb (by omega)
  obtain ⟨⟨a, b⟩, ha, lda, hbl⟩ := drawIsPose_d hN hb (by omega)
  obtain ⟨⟨c, d⟩, hd, hc1, hc2, hdl⟩ := drawIndex_d hN hb (by omega)
  simp only at lda hbl hc1 hc2 hdl
  have l1 := ld.pl
  have l2 := ld.gl
  have a1 := lda.pl
  have a2 := lda.gl
  have pI := posesI_s (N := 4000000) hN (l := l) (by omega) (by omega)
  have pS := posesS_s (N := 4000000) hN (l := l) (by omega) (by omega)
  have iL := isLkI_s 4000000 hN (l := l) (by omega) (by omega)
  obtain ⟨x, x1, x2⟩ := freedom_x (N := 4000000) hN (l := l) (by omega) (by omega)
  have f1 := freeI_s 4000000 hN (l := l) (by omega) (by omega)
  have f2 := freeS_s 4000000 hN (l := l) (by omega) (by omega)
  have f3 := sameInts_s hN (l := freeJ l) (by have := freeJ_len l; omega)
  have g1 := isPoseI_s 4000000 hN (l := a) (by omega) (by omega) (p := b)
  have g2 := isPoseS_s 4000000 hN (l := a) (by omega) (by omega) (p := b)
  have g3 := idxI_s (N := 4000000) hN (P := c) (by omega) (fun y hy => by have := hc2 y hy; omega) d
  have g4 := idxS_s (N := 4000000) hN (P := c) (by omega) d (by omega)
  have lp := fun {b : Bool} {k : Unit → Option Bool} => linkages_l hN ld (b := b) (k := k) 4000000 0 (by omega) (by have := posesL_len l; omega)
  rw [show ((0 : Nat) : Int) = (0 : Int) from rfl] at lp
  cases hk : isLk l with
  | false =>
    rw [hk] at pI pS iL
    simp only [hl, pI, pS, iL, x1, x2, f1, f2, f3, lp, ha, hd, g1, g2, g3, g4, bne_self_eq_false, Option.bind_some, Bool.not_true, cnd_false, cnd_true, beq_self_eq_true]
  | true =>
    rw [hk] at pI pS iL
    have o := own_pose hk
    obtain ⟨i, hi, ei⟩ := List.getElem_of_mem o
    obtain ⟨j, j1, _, _⟩ := idxP_mem (P := posesL l) (p := l.f.places) ((posesL l).length + 1) 0 (by omega) ⟨i, by omega, hi, by simp [List.getD_eq_getElem?_getD, hi, ei]⟩
    have q := idxI_s (N := 4000000) hN (P := posesL l) (by have := posesL_len l; omega) (fun y hy => by have := (posesL_mem hy).1; omega) l.f.places
    rw [j1] at q
    have nj : decide ((j : Int) < 0) = false := by simp
    simp only [hl, pI, pS, iL, x1, x2, f1, f2, f3, lp, q, nj, ha, hd, g1, g2, g3, g4, bne_self_eq_false, Option.bind_some, Bool.not_true, cnd_false, cnd_true, beq_self_eq_true]
end Go.Proofs.Ytcljhpldfanhkaa

namespace Go.Proofs.Ytcljhpldfanhkaa.fnLinkages
open Go.ChangeShapes Go.WideShapes Go.ChangeAt Go.RowKit
set_option linter.unusedVariables false
set_option linter.unusedSimpArgs false

theorem own : ownKnob Try.prog.godebug = none := by kernel_rfl

set_option maxRecDepth 100000 in
theorem lifted (os : Os) (started : os.Started) (H : Type) (enc : TypeId × Value → H) :
    ReturnsInHanded {} Try.checked os 7 .any (Rows.fnLinkagesSpec.pre6 enc Try.prog Try.f7 Rows.fnLinkagesRow.domain false) (Rows.fnLinkagesSpec.post enc Try.prog Try.f7 false true false false) := by
  refine returnsInHanded_of_change (C := Try.checked) own started (by kernel_rfl) Try.func7
    (ChangeSpec.witness6 (enc := enc) (C := Try.checked) false ⟨#[], #[.slice none 0 0], []⟩ 8 (by kernel_rfl) (by kernel_rfl) (by kernel_rfl) (by kernel_rfl)) ?_
  intro W base args ds gs before hval0 hW hcnd _
  have hval : ∀ (j : Nat) t v, Try.f7.params[j]? = some t → args[j]? = some v → Value.okWide Try.prog W .any base t v := hval0
  have hW' := hW
  obtain ⟨p, q, hA0, hV, rfl, hfz, hnd⟩ := hW
  have hA : DataW.TrodAll enc Try.prog W 0 (fun _ => true) true Try.f7.params.toList args.toList ds p := hA0
  rw [Try.params7] at hA hval
  obtain ⟨v0, vs0, d0, ds0, p0, q0, hargs, rfl, rfl, h0, r0⟩ := trodAll_cons hA
  obtain ⟨rfl, rfl, rfl⟩ := trodAll_nil r0
  obtain rfl : args = #[v0] := by cases args; simp_all
  obtain ⟨rfl, rfl⟩ := trodVars_none hV
  obtain ⟨ao0, ln0, cp0, rfl⟩ := okWide_slice Try.underlying22 (hval 0 22 v0 rfl rfl)
  obtain ⟨fl0, hf0⟩ := h0
  obtain ⟨u0, l0, e0, k0, rr0⟩ := open_bytesD Try.underlying22 Try.underlying5 (by kernel_rfl) hf0
  obtain rfl : _ = u0 := by simpa [Value.cells] using e0
  clear hA0 hval0
  refine ((L_FnLinkages_w 4000000 l0 true (fnLinkages_v l0 fun i hi => rr0 _ (getD_mem hi))).bool (mkArgs1 k0)).mono fun e W' ⟨he, hg⟩ => ?_
  subst he
  exact ⟨_, rfl, law_post (by kernel_rfl) (by rw [Try.params7]; exact of_decide_eq_true (by kernel_rfl)) rfl Try.underlying4 rfl rfl hW' hg⟩

theorem over : Rows.fnLinkagesRow.holds Try.pinned (OpenSpec.ofChange Rows.fnLinkagesSpec) :=
  OpenClaim.holds_of_wide 7 Try.f7 rfl rfl rfl rfl rfl rfl rfl ⟨rfl, rfl, rfl, rfl, rfl⟩ rfl rfl rfl rfl rfl (by kernel_rfl) Try.func7 (by kernel_rfl)
    (of_decide_eq_true (by kernel_rfl)) (by unfold Func.isWrapper; first | (rw [if_pos (by decide +kernel)]; kernel_rfl) | (rw [if_neg (by decide +kernel)]; exact ⟨rfl, rfl⟩))
    (fun os started H enc _ => lifted os started H enc)

/-- the statement -/
theorem proved : Rows.FnLinkagesSaid :=
  over
#print axioms proved
end Go.Proofs.Ytcljhpldfanhkaa.fnLinkages
