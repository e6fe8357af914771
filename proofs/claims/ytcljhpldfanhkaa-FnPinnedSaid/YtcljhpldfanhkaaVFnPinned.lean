/- FnPinned: whatever the input, the law returns true, and each argument reads as before. No condition. -/
import Derived.Test.YtcljhpldfanhkaaRows
import Derived.WalkKit
import Derived.ProofKit
import Derived.OpenShut
import Derived.Test.YtcljhpldfanhkaaBJa7
namespace Go.Proofs.Ytcljhpldfanhkaa
open Go.RowKit
set_option linter.unusedVariables false
set_option linter.unusedSimpArgs false
theorem drawSteady_s {N : Nat} (hN : 4000000 ≤ N) {code : List Int} (hb : Byt code) (hl : code.length ≤ 1048576) : ∃ p, S_DrawSteadyPoints N code = some p ∧ p.g.bars.length ≤ 41 ∧ p.ground.length ≤ 3 := by
  obtain ⟨r, h1, h2, h3⟩ : Ok (S_DrawSteadyPoints N code) fun p => p.g.bars.length ≤ 41 ∧ p.ground.length ≤ 3 := by
    unfold S_DrawSteadyPoints
    refine ok_bind (new_s hN hb hl) fun c hc => ok_bind (any_d hN hc.1) fun r hr => ok_some ⟨hr.1.gd.len, hr.1.gl⟩
  exact ⟨r, h1, h2, h3⟩
theorem pinned_l2 {N : Nat} (hN : 4000000 ≤ N) {p : Pin} {s : List Int} (hg : p.ground.length ≤ 3) (hs : s.length ≤ 100) (h : ∀ i, i < p.ground.length → p.ground.getD i 0 ∈ s) {k : Unit → Option Bool} : ∀ (fuel i : Nat), i ≤ p.ground.length → p.ground.length < fuel + i → L_FnPinned_l2 N p s k fuel (i : Int) = k () := by
  intro fuel
  induction fuel with
  | zero => intro i h1 h2; omega
  | succ fuel ih =>
    intro i h1 h2
    rw [L_FnPinned_l2]
    by_cases hi : i < p.ground.length
    · have e2 : ((i : Int)).toNat = i := rfl
      have hc : s.contains (p.ground.getD i 0) = true := by simpa using h i hi
      rw [cnd_dt (by omega), grd_pos (by omega), e2, has_s hN (by omega), hc, Option.bind_some, Bool.not_true, cnd_false, grd_R (by omega) (by omega), succ_cast, ih (i + 1) (by omega) (by omega)]
    · rw [cnd_df (by omega)]
theorem pinned_l1 {N : Nat} (hN : 4000000 ≤ N) {p : Pin} {b : Bool} (hbl : p.g.bars.length ≤ 1000) (hI : I_IsIsostatic N p = some b) (h : b = true → ∀ i, i < p.g.bars.length → ∃ l : List Int, I_FallsWith N p (i : Int) = some l ∧ l.length ≠ 0) {k : Unit → Option Bool} : ∀ (fuel i : Nat), i ≤ p.g.bars.length → p.g.bars.length < fuel + i → L_FnPinned_l1 N p k fuel (i : Int) = k () := by
  intro fuel
  induction fuel with
  | zero => intro i h1 h2; omega
  | succ fuel ih =>
    intro i h1 h2
    rw [L_FnPinned_l1]
    by_cases hi : i < p.g.bars.length
    · rw [cnd_dt (by omega), hI, Option.bind_some]
      cases b with
      | false => rw [cnd_false]
      | true =>
        obtain ⟨l, l1, l2⟩ := h rfl i hi
        rw [cnd_true, l1, Option.bind_some, cnd_eqf (by omega), grd_R (by omega) (by omega), succ_cast, ih (i + 1) (by omega) (by omega)]
    · rw [cnd_df (by omega)]
theorem fnPinned_v (code : List Int) (hb : Byt code) : L_FnPinned 4000000 code = some true := by
  have hN : 4000000 ≤ 4000000 := Nat.le_refl _
  unfold L_FnPinned L_big
  rw [Option.bind_some]
  by_cases hc : (code.length : Int) > 1048576
  · rw [cnd_dt hc]
  rw [cnd_df hc]
  obtain ⟨p, hp, hbl, hgl⟩ := drawSteady_s hN hb (by omega)
  obtain ⟨s, s0, s1, s2⟩ := steady_x hN (p := p) (by omega) (by omega)
  obtain ⟨f, f1, f2⟩ := pinnedFreedom_x hN (p := p) (by omega) (by omega)
  obtain ⟨r, r1, r2, _⟩ := pinnedRank_x hN (p := p) (by omega) (by omega)
  obtain ⟨b, b1, b2⟩ := isostatic_x hN (p := p) (by omega) (by omega)
  have il : (innerPts p).length ≤ 8 := by
    unfold innerPts
    cases hh : isPinned p with
    | false => simp [cnd]
    | true =>
      obtain ⟨q1, q2, _⟩ := isPinned_bd hh
      rw [cnd_true, inner_outside]
      have := outside_len p.ground p.g.n.toNat
      omega
  have i1 := innerS_s 4000000 hN (p := p) (by omega) (by omega)
  have i2 := innerI_s 4000000 hN (p := p) (by omega) (by omega)
  have rg : I_IsPinnedRigid 4000000 p = some (f == 0) := by unfold I_IsPinnedRigid; rw [f2]; rfl
  rw [hp, Option.bind_some, s2, Option.bind_some, f2, Option.bind_some, s1, Option.bind_some, sameInts_s hN (by omega), Option.bind_some, Bool.not_true, cnd_false, f1, Option.bind_some, cnd_nef rfl, r2, Option.bind_some, r1, Option.bind_some, cnd_nef rfl, isPinnedI_s _ hN (by omega) (by omega), isPinnedS_s _ hN (by omega) (by omega), Option.bind_some, Option.bind_some, bne_self_eq_false, cnd_false, rg, Option.bind_some, bne_self_eq_false, cnd_false, b2, Option.bind_some, b1, Option.bind_some, bne_self_eq_false, cnd_false, i2, Option.bind_some, i1, Option.bind_some, sameInts_s hN (by omega), Option.bind_some, Bool.not_true, cnd_false, Option.bind_some]
  cases hpin : isPinned p with
  | false =>
    have : S_PinnedFreedom 4000000 p = some (-1) := by
      unfold S_PinnedFreedom
      simp (disch := omega) only [Int.toNat_natCast, tk0, List.length_cons, List.length_nil, grd_pos, grd_T, grd_R, cnd_dt, cnd_df, cnd_true, cnd_false, Option.bind_some, isPinnedS_s 4000000 hN (show p.g.bars.length ≤ 3000000 by omega) (show p.ground.length ≤ 3000000 by omega), hpin, Bool.not_false]
    rw [this] at f1
    cases f1
    rfl
  | true =>
    rw [Bool.not_true, cnd_false]
    obtain ⟨n, LH, LS, H, I, t, h⟩ := pin_full hN hpin
    have hs := h.st
    rw [s1] at hs
    cases hs
    have hf := h.fr
    rw [f1] at hf
    cases hf
    have hr := h.rk
    rw [r1] at hr
    cases hr
    have hnn := h.nn
    have ha := h.all
    have hpn := h.pn
    rw [show (0 : Int) = ((0 : Nat) : Int) from rfl, pinned_l2 hN hgl (by omega) (fun i hi => h.grd hi) 4000000 0 (by omega) (by omega)]
    have e : (((stl t n 0).length : Int) == p.g.n) = (2 * ((innerPts p).length : Int) - ((I.length : Int) - H.length) == ((0 : Nat) : Int)) := by
      rw [Bool.eq_iff_iff, beq_iff_eq, beq_iff_eq, hpn]
      constructor
      · intro h; exact ha.1 (by omega)
      · intro h; rw [ha.2 h]
    rw [e, bne_self_eq_false, cnd_false, cnd_df (by omega)]
    refine (pinned_l1 hN (by omega) b2 (fun hbt i hi => ?_) 4000000 0 (by omega) (by omega)).trans rfl
    have : S_IsIsostatic 4000000 p = some (cnd (2 * ((innerPts p).length : Int) - ((I.length : Int) - H.length) == 0) ((p.g.bars.length : Int) == (I.length : Int) - H.length) false) := by
      unfold S_IsIsostatic S_IsPinnedRigid
      rw [f1, Option.bind_some, Option.bind_some, r1, Option.bind_some, cnd_some]
    rw [this, hbt] at b1
    have b3 := Option.some.inj b1
    cases hz : (2 * ((innerPts p).length : Int) - ((I.length : Int) - H.length) == 0) with
    | false => rw [hz] at b3; cases b3
    | true =>
      rw [hz, cnd_true, beq_iff_eq] at b3
      exact falls_iso hN hpin h (by simpa using hz) b3 hi
end Go.Proofs.Ytcljhpldfanhkaa

namespace Go.Proofs.Ytcljhpldfanhkaa.fnPinned
open Go.ChangeShapes Go.WideShapes Go.ChangeAt Go.RowKit
set_option linter.unusedVariables false
set_option linter.unusedSimpArgs false

theorem own : ownKnob Try.prog.godebug = none := by kernel_rfl

set_option maxRecDepth 100000 in
theorem lifted (os : Os) (started : os.Started) (H : Type) (enc : TypeId × Value → H) :
    ReturnsInHanded {} Try.checked os 6 .any (Rows.fnPinnedSpec.pre6 enc Try.prog Try.f6 Rows.fnPinnedRow.domain false) (Rows.fnPinnedSpec.post enc Try.prog Try.f6 false true false false) := by
  refine returnsInHanded_of_change (C := Try.checked) own started (by kernel_rfl) Try.func6
    (ChangeSpec.witness6 (enc := enc) (C := Try.checked) false ⟨#[], #[.slice none 0 0], []⟩ 8 (by kernel_rfl) (by kernel_rfl) (by kernel_rfl) (by kernel_rfl)) ?_
  intro W base args ds gs before hval0 hW hcnd _
  have hval : ∀ (j : Nat) t v, Try.f6.params[j]? = some t → args[j]? = some v → Value.okWide Try.prog W .any base t v := hval0
  have hW' := hW
  obtain ⟨p, q, hA0, hV, rfl, hfz, hnd⟩ := hW
  have hA : DataW.TrodAll enc Try.prog W 0 (fun _ => true) true Try.f6.params.toList args.toList ds p := hA0
  rw [Try.params6] at hA hval
  obtain ⟨v0, vs0, d0, ds0, p0, q0, hargs, rfl, rfl, h0, r0⟩ := trodAll_cons hA
  obtain ⟨rfl, rfl, rfl⟩ := trodAll_nil r0
  obtain rfl : args = #[v0] := by cases args; simp_all
  obtain ⟨rfl, rfl⟩ := trodVars_none hV
  obtain ⟨ao0, ln0, cp0, rfl⟩ := okWide_slice Try.underlying22 (hval 0 22 v0 rfl rfl)
  obtain ⟨fl0, hf0⟩ := h0
  obtain ⟨u0, l0, e0, k0, rr0⟩ := open_bytesD Try.underlying22 Try.underlying5 (by kernel_rfl) hf0
  obtain rfl : _ = u0 := by simpa [Value.cells] using e0
  clear hA0 hval0
  refine ((L_FnPinned_w 4000000 l0 true (fnPinned_v l0 fun i hi => rr0 _ (getD_mem hi))).bool (mkArgs1 k0)).mono fun e W' ⟨he, hg⟩ => ?_
  subst he
  exact ⟨_, rfl, law_post (by kernel_rfl) (by rw [Try.params6]; exact of_decide_eq_true (by kernel_rfl)) rfl Try.underlying4 rfl rfl hW' hg⟩

theorem over : Rows.fnPinnedRow.holds Try.pinned (OpenSpec.ofChange Rows.fnPinnedSpec) :=
  OpenClaim.holds_of_wide 6 Try.f6 rfl rfl rfl rfl rfl rfl rfl ⟨rfl, rfl, rfl, rfl, rfl⟩ rfl rfl rfl rfl rfl (by kernel_rfl) Try.func6 (by kernel_rfl)
    (of_decide_eq_true (by kernel_rfl)) (by unfold Func.isWrapper; first | (rw [if_pos (by decide +kernel)]; kernel_rfl) | (rw [if_neg (by decide +kernel)]; exact ⟨rfl, rfl⟩))
    (fun os started H enc _ => lifted os started H enc)

/-- the statement -/
theorem proved : Rows.FnPinnedSaid :=
  over
#print axioms proved
end Go.Proofs.Ytcljhpldfanhkaa.fnPinned
