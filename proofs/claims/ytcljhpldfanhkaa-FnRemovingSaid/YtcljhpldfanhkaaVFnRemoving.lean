/- FnRemoving: whatever the input, the law returns true, and each argument reads as before. No condition. -/
import Derived.Test.YtcljhpldfanhkaaRows
import Derived.WalkKit
import Derived.ProofKit
import Derived.OpenShut
import Derived.Test.YtcljhpldfanhkaaBJc7
import Derived.Test.YtcljhpldfanhkaaBJc8
namespace Go.Proofs.Ytcljhpldfanhkaa
open Go.RowKit
set_option linter.unusedVariables false
set_option linter.unusedSimpArgs false
theorem samePin_s {N : Nat} (hN : 4000000 ≤ N) {p : Pin} (h1 : p.g.bars.length ≤ 3000000) (h2 : p.ground.length ≤ 3000000) : L_samePinned N p p = some true := by
  unfold L_samePinned
  rw [eqGraphs_s N hN h1, Option.bind_some, cnd_true, sameInts_s hN h2]; rfl
theorem removing_l {N : Nat} (hN : 4000000 ≤ N) {p : Pin} {s : List Int} (hs : s.length ≤ 1000) (h : ∀ x ∈ s, I_FallsWith N p x = some []) {k : Unit → Option Bool} : ∀ (fuel i : Nat), i ≤ s.length → s.length < fuel + i → L_FnRemoving_l1 N p s k fuel (i : Int) = k () ∧ L_FnRemoving_l2 N p s k fuel (i : Int) = k () := by
  intro fuel
  induction fuel with
  | zero => intro i h1 h2; omega
  | succ fuel ih =>
    intro i h1 h2
    rw [L_FnRemoving_l1, L_FnRemoving_l2]
    by_cases hi : i < s.length
    · have e2 : ((i : Int)).toNat = i := rfl
      have hf := h _ (getD_mem (d := 0) hi)
      have e0 : ((([] : List Int).length : Nat) : Int) = 0 := rfl
      have hi' := ih (i + 1) (by omega) (by omega)
      refine ⟨?_, ?_⟩
      · rw [cnd_dt (by omega), grd_pos (by omega), e2, hf, Option.bind_some, e0, cnd_df (by omega), grd_R (by omega) (by omega), succ_cast]
        exact hi'.1
      · rw [cnd_dt (by omega), grd_pos (by omega), e2, hf, Option.bind_some, e0, cnd_df (by omega), grd_R (by omega) (by omega), succ_cast]
        exact hi'.2
    · rw [cnd_df (by omega), cnd_df (by omega)]
      exact ⟨rfl, rfl⟩
set_option maxRecDepth 20000 in
set_option maxHeartbeats 1600000 in
theorem fnRemoving_v (code : List Int) (hb : Byt code) : L_FnRemoving 4000000 code = some true := by
  have hN : 4000000 ≤ 4000000 := Nat.le_refl _
  unfold L_FnRemoving L_big
  rw [Option.bind_some]
  by_cases hc : (code.length : Int) > 1048576
  · rw [cnd_dt hc]
  rw [cnd_df hc]
  obtain ⟨p, hp, hbl, hgl⟩ := drawRemove_d hN hb (by omega)
  obtain ⟨⟨a, b⟩, ha, hal, hag⟩ := drawSafe_d hN hb (by omega)
  obtain ⟨⟨c, d⟩, hd, hdl, hdg⟩ := drawFalls_d hN hb (by omega)
  simp only at hal hag hdl hdg
  obtain ⟨l, q, l1, l2, l3, l4, l5⟩ := removeAll_x hN (p := p) (by omega) (by omega)
  obtain ⟨s, s1, s2, s3⟩ := safeBars_x hN (p := p) (by omega) (by omega)
  obtain ⟨m, m1, m2, m3⟩ := leastKept_x hN (p := p) (by omega) (by omega)
  obtain ⟨w, w1, w2⟩ := worst_x hN (p := p) (by omega) (by omega)
  obtain ⟨x, x1, x2, _⟩ := safe_x hN (p := a) (by omega) (by omega) b
  obtain ⟨y, y0, y1, y2⟩ := falls_x hN (p := c) (by omega) (by omega) d
  have e1 := sameInts_s hN (l := l) (by omega)
  have e2 := samePin_s hN (p := q) (by omega) (by rw [l3]; omega)
  have e3 := sameInts_s hN (l := s) (by omega)
  have e4 := sameInts_s hN (l := m) (by omega)
  have e5 := sameInts_s hN (l := y) (by omega)
  have hpi := isPinnedS_s 4000000 hN (p := p) (by omega) (by omega)
  cases hpin : isPinned p with
  | false =>
    rw [hpin] at hpi
    have hnil : s = [] := by
      refine List.eq_nil_iff_forall_not_mem.2 fun z hz => ?_
      have key : ∀ (fuel i : Nat) (l : List Int) (l' : List Int), i ≤ p.g.bars.length → p.g.bars.length < fuel + i → S_SafeBars_l1 4000000 p (fun x => some x) fuel (l, (i : Int)) = some l' → l' = l := by
        intro fuel
        induction fuel with
        | zero => intro i l l' h1 h2; omega
        | succ fuel ih =>
          intro i l l' h1 h2 h3
          rw [S_SafeBars_l1] at h3
          by_cases hi : i < p.g.bars.length
          · have hf : S_SafeToRemove 4000000 p (i : Int) = some false := by
              unfold S_SafeToRemove
              rw [hpi]; rfl
            rw [cnd_dt (by omega), hf, Option.bind_some, cnd_false, grd_R (by omega) (by omega), succ_cast] at h3
            exact ih (i + 1) l l' (by omega) (by omega) h3
          · rw [cnd_df (by omega)] at h3
            exact (Option.some.inj h3).symm
      have := key 4000000 0 [] s (by omega) (by omega) s2
      rw [this] at hz; cases hz
    subst hnil
    have lp := fun {k : Unit → Option Bool} => (removing_l hN (p := p) (s := []) (by simp) (by simp) (k := k) 4000000 0 (by simp) (by simp)).2
    rw [show ((0 : Nat) : Int) = (0 : Int) from rfl] at lp
    simp only [hp, l4, l5, s2, s3, m2, m3, e1, e2, e3, e4, hpi, lp, w1, w2, ha, hd, x1, x2, y1, y2, e5, Option.bind_some, Bool.not_true, cnd_false, cnd_true, beq_self_eq_true]
  | true =>
    rw [hpin] at hpi
    obtain ⟨l', B, k1, k2, k3, k4, k5, k6, k7⟩ := removeAll_v hN hpin
    rw [l4] at k1
    have k1 := Option.some.inj k1
    have eq : q = part p B := congrArg Prod.snd k1
    obtain ⟨m', _, m5, m6, m7⟩ := leastKept_v hN hpin k3
    rw [m2] at m6
    have em := Option.some.inj m6
    rw [← em] at m5
    have rq : I_PinnedRank 4000000 q = some (B.length : Int) := by
      obtain ⟨r, r1, r2, _⟩ := pinnedRank_x hN (p := q) (by omega) (by rw [l3]; omega)
      rw [eq] at r1
      rw [k4] at r1
      rw [r2, Option.some.inj r1]
    have lq : (q.g.bars.length : Int) = (B.length : Int) := by rw [eq]; rfl
    obtain ⟨s', t1, t2⟩ := safeBars_v hN hpin 4000000 0 [] (by omega) (by omega) (by simp) (by simp)
    have es : s = s' := by
      have : S_SafeBars 4000000 p = some s' := t1
      rw [s2] at this
      exact Option.some.inj this
    rw [← es] at t2
    have lp := fun {k : Unit → Option Bool} => (removing_l hN (p := p) (s := s) (by omega) t2 (k := k) 4000000 0 (by omega) (by omega)).1
    rw [show ((0 : Nat) : Int) = (0 : Int) from rfl] at lp
    have n1 : ((q.g.bars.length : Int) != (B.length : Int)) = false := by rw [lq]; simp
    have n2 : ((m.length : Int) != (B.length : Int)) = false := by rw [m5]; simp
    simp only [hp, l4, l5, s2, s3, m2, m3, e1, e2, e3, e4, hpi, lp, w1, w2, ha, hd, x1, x2, y1, y2, e5, k3, rq, n1, n2, bne_self_eq_false, Option.bind_some, Bool.not_true, cnd_false, cnd_true, beq_self_eq_true]
end Go.Proofs.Ytcljhpldfanhkaa

namespace Go.Proofs.Ytcljhpldfanhkaa.fnRemoving
open Go.ChangeShapes Go.WideShapes Go.ChangeAt Go.RowKit
set_option linter.unusedVariables false
set_option linter.unusedSimpArgs false

theorem own : ownKnob Try.prog.godebug = none := by kernel_rfl

set_option maxRecDepth 100000 in
theorem lifted (os : Os) (started : os.Started) (H : Type) (enc : TypeId × Value → H) :
    ReturnsInHanded {} Try.checked os 8 .any (Rows.fnRemovingSpec.pre6 enc Try.prog Try.f8 Rows.fnRemovingRow.domain false) (Rows.fnRemovingSpec.post enc Try.prog Try.f8 false true false false) := by
  refine returnsInHanded_of_change (C := Try.checked) own started (by kernel_rfl) Try.func8
    (ChangeSpec.witness6 (enc := enc) (C := Try.checked) false ⟨#[], #[.slice none 0 0], []⟩ 8 (by kernel_rfl) (by kernel_rfl) (by kernel_rfl) (by kernel_rfl)) ?_
  intro W base args ds gs before hval0 hW hcnd _
  have hval : ∀ (j : Nat) t v, Try.f8.params[j]? = some t → args[j]? = some v → Value.okWide Try.prog W .any base t v := hval0
  have hW' := hW
  obtain ⟨p, q, hA0, hV, rfl, hfz, hnd⟩ := hW
  have hA : DataW.TrodAll enc Try.prog W 0 (fun _ => true) true Try.f8.params.toList args.toList ds p := hA0
  rw [Try.params8] at hA hval
  obtain ⟨v0, vs0, d0, ds0, p0, q0, hargs, rfl, rfl, h0, r0⟩ := trodAll_cons hA
  obtain ⟨rfl, rfl, rfl⟩ := trodAll_nil r0
  obtain rfl : args = #[v0] := by cases args; simp_all
  obtain ⟨rfl, rfl⟩ := trodVars_none hV
  obtain ⟨ao0, ln0, cp0, rfl⟩ := okWide_slice Try.underlying22 (hval 0 22 v0 rfl rfl)
  obtain ⟨fl0, hf0⟩ := h0
  obtain ⟨u0, l0, e0, k0, rr0⟩ := open_bytesD Try.underlying22 Try.underlying5 (by kernel_rfl) hf0
  obtain rfl : _ = u0 := by simpa [Value.cells] using e0
  clear hA0 hval0
  refine ((L_FnRemoving_w 4000000 l0 true (fnRemoving_v l0 fun i hi => rr0 _ (getD_mem hi))).bool (mkArgs1 k0)).mono fun e W' ⟨he, hg⟩ => ?_
  subst he
  exact ⟨_, rfl, law_post (by kernel_rfl) (by rw [Try.params8]; exact of_decide_eq_true (by kernel_rfl)) rfl Try.underlying4 rfl rfl hW' hg⟩

theorem over : Rows.fnRemovingRow.holds Try.pinned (OpenSpec.ofChange Rows.fnRemovingSpec) :=
  OpenClaim.holds_of_wide 8 Try.f8 rfl rfl rfl rfl rfl rfl rfl ⟨rfl, rfl, rfl, rfl, rfl⟩ rfl rfl rfl rfl rfl (by kernel_rfl) Try.func8 (by kernel_rfl)
    (of_decide_eq_true (by kernel_rfl)) (by unfold Func.isWrapper; first | (rw [if_pos (by decide +kernel)]; kernel_rfl) | (rw [if_neg (by decide +kernel)]; exact ⟨rfl, rfl⟩))
    (fun os started H enc _ => lifted os started H enc)

/-- the statement -/
theorem proved : Rows.FnRemovingSaid :=
  over
#print axioms proved
end Go.Proofs.Ytcljhpldfanhkaa.fnRemoving
