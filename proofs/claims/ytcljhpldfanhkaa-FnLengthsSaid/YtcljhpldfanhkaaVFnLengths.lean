/- FnLengths: whatever the input, the law returns true, and each argument reads as before. No condition. -/
import Derived.Test.YtcljhpldfanhkaaRows
import Derived.WalkKit
import Derived.ProofKit
import Derived.OpenShut
import Derived.Test.YtcljhpldfanhkaaBJb6
namespace Go.Proofs.Ytcljhpldfanhkaa
open Go.RowKit
set_option linter.unusedVariables false
set_option linter.unusedSimpArgs false
set_option maxRecDepth 20000 in
set_option maxHeartbeats 1600000 in
theorem fnLengths_v (code : List Int) (hb : Byt code) : L_FnLengths 4000000 code = some true := by
  have hN : 4000000 ≤ 4000000 := Nat.le_refl _
  unfold L_FnLengths L_big
  rw [Option.bind_some]
  by_cases hc : (code.length : Int) > 1048576
  · rw [cnd_dt hc]
  rw [cnd_df hc]
  obtain ⟨p, hp, hp6⟩ := drawSquares_d hN hb (by omega)
  obtain ⟨d, dS, dI, dc⟩ := squares_x hN (p := p) hp6
  obtain ⟨e, he, he6⟩ := drawMenger_d hN hb (by omega)
  obtain ⟨⟨a, b, c⟩, hh, _⟩ := drawHeron_d hN hb (by omega)
  obtain ⟨⟨f, g, h⟩, ht, _⟩ := drawTri_d hN hb (by omega)
  obtain ⟨i, hi, hi6⟩ := drawPlanar_d hN hb (by omega)
  obtain ⟨l, hl, hl6⟩ := drawLast_d hN hb (by omega)
  obtain ⟨m1, m1S, m1I⟩ := menger_x hN (d := e) (by omega)
  obtain ⟨m2, m2S, m2I⟩ := heron_x hN a b c
  have m2C := heron_cyc hN a b c
  rw [m2I] at m2C
  obtain ⟨m3, m3S, m3I⟩ := triangle_x hN f g h
  obtain ⟨m4, m4S, m4I⟩ := planar_x hN (d := i) (by omega)
  obtain ⟨m5, m5l, m5S, m5I⟩ := last_x hN (d := l) (by omega)
  have m6 := sameInts_s hN (l := m5) (by omega)
  have same : ∀ d : List Int, d.length ≤ 100 → L_sameInts 4000000 d d = some true := fun d hd => sameInts_s hN (by omega)
  rw [hp, Option.bind_some, dI, dS, Option.bind_some, Option.bind_some]
  have key : ∀ d : List Int, d.length ≤ 100 → (((d.length : Int) == 6) = false) → (((d.length : Int) == 3) = false) → True := fun _ _ _ _ => trivial
  rcases dc with ⟨hon, rfl⟩ | rfl
  · match p, hp6, hon, dS, dI with
    | [], _, _, dS, dI =>
      have s0 := same (allSqs ([] : List (Int × Int)) ([] : List (Int × Int)).length 0) (by decide)
      have n4 : (((([] : List (Int × Int)).length : Nat) : Int) == 4) = false := rfl
      have n3 : (((([] : List (Int × Int)).length : Nat) : Int) == 3) = false := rfl
      simp only [s0, n4, n3, Option.bind_some, Bool.not_true, cnd_false, cnd_true, he, hh, ht, hi, hl, m1S, m1I, m2S, m2I, m2C, m3S, m3I, m4S, m4I, m5S, m5I, m6, beq_self_eq_true]
    | [q1], _, _, dS, dI =>
      have s0 := same (allSqs [q1] [q1].length 0) (by simp [allSqs, rowSq])
      have n4 : ((([q1].length : Nat) : Int) == 4) = false := rfl
      have n3 : ((([q1].length : Nat) : Int) == 3) = false := rfl
      simp only [s0, n4, n3, Option.bind_some, Bool.not_true, cnd_false, cnd_true, he, hh, ht, hi, hl, m1S, m1I, m2S, m2I, m2C, m3S, m3I, m4S, m4I, m5S, m5I, m6, beq_self_eq_true]
    | [q1, q2], _, _, dS, dI =>
      have s0 := same (allSqs [q1, q2] [q1, q2].length 0) (by simp [allSqs, rowSq])
      have n4 : ((([q1, q2].length : Nat) : Int) == 4) = false := rfl
      have n3 : ((([q1, q2].length : Nat) : Int) == 3) = false := rfl
      simp only [s0, n4, n3, Option.bind_some, Bool.not_true, cnd_false, cnd_true, he, hh, ht, hi, hl, m1S, m1I, m2S, m2I, m2C, m3S, m3I, m4S, m4I, m5S, m5I, m6, beq_self_eq_true]
    | [q1, q2, q3], _, hon, dS, dI =>
      have e0 : allSqs [q1, q2, q3] [q1, q2, q3].length 0 = [sq2 q1 q2, sq2 q1 q3, sq2 q2 q3] := rfl
      rw [e0]
      have s0 := same [sq2 q1 q2, sq2 q1 q3, sq2 q2 q3] (by simp)
      have n4 : ((([q1, q2, q3].length : Nat) : Int) == 4) = false := rfl
      have n3 : ((([q1, q2, q3].length : Nat) : Int) == 3) = true := rfl
      have d3 : ((([sq2 q1 q2, sq2 q1 q3, sq2 q2 q3].length : Nat) : Int) == 3) = true := rfl
      have lp : ((([q1, q2, q3].length : Nat) : Int)) = 3 := rfl
      have ld : ((([sq2 q1 q2, sq2 q1 q3, sq2 q2 q3].length : Nat) : Int)) = 3 := rfl
      have o1 : onGrid q1 = true := hon 0 (by simp)
      have o2 : onGrid q2 = true := hon 1 (by simp)
      have o3 : onGrid q3 = true := hon 2 (by simp)
      have t1 := tri_plane hN o1 o2 o3
      obtain ⟨v, v1, v2⟩ := heron0_plane hN o1 o2 o3
      have g0 : 0 ≤ (0 : Int) ∧ (0 : Int) < (([sq2 q1 q2, sq2 q1 q3, sq2 q2 q3].length : Nat) : Int) := by omega
      have g1 : 0 ≤ (1 : Int) ∧ (1 : Int) < (([sq2 q1 q2, sq2 q1 q3, sq2 q2 q3].length : Nat) : Int) := by omega
      have g2 : 0 ≤ (2 : Int) ∧ (2 : Int) < (([sq2 q1 q2, sq2 q1 q3, sq2 q2 q3].length : Nat) : Int) := by omega
      have k0 : 0 ≤ (0 : Int) ∧ (0 : Int) < (([q1, q2, q3].length : Nat) : Int) := by omega
      have k1 : 0 ≤ (1 : Int) ∧ (1 : Int) < (([q1, q2, q3].length : Nat) : Int) := by omega
      have k2 : 0 ≤ (2 : Int) ∧ (2 : Int) < (([q1, q2, q3].length : Nat) : Int) := by omega
      have z0 : [sq2 q1 q2, sq2 q1 q3, sq2 q2 q3].getD ((0 : Int)).toNat 0 = sq2 q1 q2 := rfl
      have z1 : [sq2 q1 q2, sq2 q1 q3, sq2 q2 q3].getD ((1 : Int)).toNat 0 = sq2 q1 q3 := rfl
      have z2 : [sq2 q1 q2, sq2 q1 q3, sq2 q2 q3].getD ((2 : Int)).toNat 0 = sq2 q2 q3 := rfl
      have y0 : [q1, q2, q3].getD ((0 : Int)).toNat (0, 0) = q1 := rfl
      have y1 : [q1, q2, q3].getD ((1 : Int)).toNat (0, 0) = q2 := rfl
      have y2 : [q1, q2, q3].getD ((2 : Int)).toNat (0, 0) = q3 := rfl
      simp only [s0, n4, n3, d3, grd_pos g0, grd_pos g1, grd_pos g2, grd_pos k0, grd_pos k1, grd_pos k2, z0, z1, z2, y0, y1, y2, t1, v1, v2, bne_self_eq_false, Option.bind_some, Bool.not_true, cnd_false, cnd_true, he, hh, ht, hi, hl, m1S, m1I, m2S, m2I, m2C, m3S, m3I, m4S, m4I, m5S, m5I, m6, beq_self_eq_true]
    | [q1, q2, q3, q4], _, hon, dS, dI =>
      have e0 : allSqs [q1, q2, q3, q4] [q1, q2, q3, q4].length 0 = [sq2 q1 q2, sq2 q1 q3, sq2 q1 q4, sq2 q2 q3, sq2 q2 q4, sq2 q3 q4] := rfl
      rw [e0]
      have s0 := same [sq2 q1 q2, sq2 q1 q3, sq2 q1 q4, sq2 q2 q3, sq2 q2 q4, sq2 q3 q4] (by simp)
      have n4 : ((([q1, q2, q3, q4].length : Nat) : Int) == 4) = true := rfl
      have n3 : ((([q1, q2, q3, q4].length : Nat) : Int) == 3) = false := rfl
      have d6 : ((([sq2 q1 q2, sq2 q1 q3, sq2 q1 q4, sq2 q2 q3, sq2 q2 q4, sq2 q3 q4].length : Nat) : Int) == 6) = true := rfl
      have ld : ((([sq2 q1 q2, sq2 q1 q3, sq2 q1 q4, sq2 q2 q3, sq2 q2 q4, sq2 q3 q4].length : Nat) : Int)) = 6 := rfl
      have o1 : onGrid q1 = true := hon 0 (by simp)
      have o2 : onGrid q2 = true := hon 1 (by simp)
      have o3 : onGrid q3 = true := hon 2 (by simp)
      have o4 : onGrid q4 = true := hon 3 (by simp)
      have t1 := planar_plane hN o1 o2 o3 o4
      have t2 := (menger_plane hN o1 o2 o3 o4).2
      obtain ⟨ll, l1, l2, l3⟩ := last_plane hN o1 o2 o3 o4
      have hm := has_s hN (l := ll) (by omega) (sq2 q3 q4)
      have hcn : ll.contains (sq2 q3 q4) = true := by simpa using l2
      rw [hcn] at hm
      have g5 : 0 ≤ (5 : Int) ∧ (5 : Int) ≤ (([sq2 q1 q2, sq2 q1 q3, sq2 q1 q4, sq2 q2 q3, sq2 q2 q4, sq2 q3 q4].length : Nat) : Int) := by omega
      have g6 : 0 ≤ (5 : Int) ∧ (5 : Int) < (([sq2 q1 q2, sq2 q1 q3, sq2 q1 q4, sq2 q2 q3, sq2 q2 q4, sq2 q3 q4].length : Nat) : Int) := by omega
      have z5 : (([sq2 q1 q2, sq2 q1 q3, sq2 q1 q4, sq2 q2 q3, sq2 q2 q4, sq2 q3 q4].take ((5 : Int)).toNat).drop 0) = [sq2 q1 q2, sq2 q1 q3, sq2 q1 q4, sq2 q2 q3, sq2 q2 q4] := rfl
      have z6 : [sq2 q1 q2, sq2 q1 q3, sq2 q1 q4, sq2 q2 q3, sq2 q2 q4, sq2 q3 q4].getD ((5 : Int)).toNat 0 = sq2 q3 q4 := rfl
      simp only [s0, n4, n3, d6, t1, t2, grd_pos g5, grd_pos g6, z5, z6, l3, hm, bne_self_eq_false, Option.bind_some, Bool.not_true, cnd_false, cnd_true, he, hh, ht, hi, hl, m1S, m1I, m2S, m2I, m2C, m3S, m3I, m4S, m4I, m5S, m5I, m6, beq_self_eq_true]
    | [q1, q2, q3, q4, q5], _, _, dS, dI =>
      have s0 := same (allSqs [q1, q2, q3, q4, q5] [q1, q2, q3, q4, q5].length 0) (by simp [allSqs, rowSq])
      have n4 : ((([q1, q2, q3, q4, q5].length : Nat) : Int) == 4) = false := rfl
      have n3 : ((([q1, q2, q3, q4, q5].length : Nat) : Int) == 3) = false := rfl
      simp only [s0, n4, n3, Option.bind_some, Bool.not_true, cnd_false, cnd_true, he, hh, ht, hi, hl, m1S, m1I, m2S, m2I, m2C, m3S, m3I, m4S, m4I, m5S, m5I, m6, beq_self_eq_true]
    | [q1, q2, q3, q4, q5, q6], _, _, dS, dI =>
      have s0 := same (allSqs [q1, q2, q3, q4, q5, q6] [q1, q2, q3, q4, q5, q6].length 0) (by simp [allSqs, rowSq])
      have n4 : ((([q1, q2, q3, q4, q5, q6].length : Nat) : Int) == 4) = false := rfl
      have n3 : ((([q1, q2, q3, q4, q5, q6].length : Nat) : Int) == 3) = false := rfl
      simp only [s0, n4, n3, Option.bind_some, Bool.not_true, cnd_false, cnd_true, he, hh, ht, hi, hl, m1S, m1I, m2S, m2I, m2C, m3S, m3I, m4S, m4I, m5S, m5I, m6, beq_self_eq_true]
  · have s0 := same [] (by simp)
    have d6 : (((([] : List Int).length : Nat) : Int) == 6) = false := rfl
    have d3 : (((([] : List Int).length : Nat) : Int) == 3) = false := rfl
    cases h4 : ((p.length : Int) == 4) <;> cases h3 : ((p.length : Int) == 3) <;>
      simp only [s0, h4, h3, d6, d3, Option.bind_some, Bool.not_true, cnd_false, cnd_true, he, hh, ht, hi, hl, m1S, m1I, m2S, m2I, m2C, m3S, m3I, m4S, m4I, m5S, m5I, m6, beq_self_eq_true]
end Go.Proofs.Ytcljhpldfanhkaa

namespace Go.Proofs.Ytcljhpldfanhkaa.fnLengths
open Go.ChangeShapes Go.WideShapes Go.ChangeAt Go.RowKit
set_option linter.unusedVariables false
set_option linter.unusedSimpArgs false

theorem own : ownKnob Try.prog.godebug = none := by kernel_rfl

set_option maxRecDepth 100000 in
theorem lifted (os : Os) (started : os.Started) (H : Type) (enc : TypeId × Value → H) :
    ReturnsInHanded {} Try.checked os 5 .any (Rows.fnLengthsSpec.pre6 enc Try.prog Try.f5 Rows.fnLengthsRow.domain false) (Rows.fnLengthsSpec.post enc Try.prog Try.f5 false true false false) := by
  refine returnsInHanded_of_change (C := Try.checked) own started (by kernel_rfl) Try.func5
    (ChangeSpec.witness6 (enc := enc) (C := Try.checked) false ⟨#[], #[.slice none 0 0], []⟩ 8 (by kernel_rfl) (by kernel_rfl) (by kernel_rfl) (by kernel_rfl)) ?_
  intro W base args ds gs before hval0 hW hcnd _
  have hval : ∀ (j : Nat) t v, Try.f5.params[j]? = some t → args[j]? = some v → Value.okWide Try.prog W .any base t v := hval0
  have hW' := hW
  obtain ⟨p, q, hA0, hV, rfl, hfz, hnd⟩ := hW
  have hA : DataW.TrodAll enc Try.prog W 0 (fun _ => true) true Try.f5.params.toList args.toList ds p := hA0
  rw [Try.params5] at hA hval
  obtain ⟨v0, vs0, d0, ds0, p0, q0, hargs, rfl, rfl, h0, r0⟩ := trodAll_cons hA
  obtain ⟨rfl, rfl, rfl⟩ := trodAll_nil r0
  obtain rfl : args = #[v0] := by cases args; simp_all
  obtain ⟨rfl, rfl⟩ := trodVars_none hV
  obtain ⟨ao0, ln0, cp0, rfl⟩ := okWide_slice Try.underlying22 (hval 0 22 v0 rfl rfl)
  obtain ⟨fl0, hf0⟩ := h0
  obtain ⟨u0, l0, e0, k0, rr0⟩ := open_bytesD Try.underlying22 Try.underlying5 (by kernel_rfl) hf0
  obtain rfl : _ = u0 := by simpa [Value.cells] using e0
  clear hA0 hval0
  refine ((L_FnLengths_w 4000000 l0 true (fnLengths_v l0 fun i hi => rr0 _ (getD_mem hi))).bool (mkArgs1 k0)).mono fun e W' ⟨he, hg⟩ => ?_
  subst he
  exact ⟨_, rfl, law_post (by kernel_rfl) (by rw [Try.params5]; exact of_decide_eq_true (by kernel_rfl)) rfl Try.underlying4 rfl rfl hW' hg⟩

theorem over : Rows.fnLengthsRow.holds Try.pinned (OpenSpec.ofChange Rows.fnLengthsSpec) :=
  OpenClaim.holds_of_wide 5 Try.f5 rfl rfl rfl rfl rfl rfl rfl ⟨rfl, rfl, rfl, rfl, rfl⟩ rfl rfl rfl rfl rfl (by kernel_rfl) Try.func5 (by kernel_rfl)
    (of_decide_eq_true (by kernel_rfl)) (by unfold Func.isWrapper; first | (rw [if_pos (by decide +kernel)]; kernel_rfl) | (rw [if_neg (by decide +kernel)]; exact ⟨rfl, rfl⟩))
    (fun os started H enc _ => lifted os started H enc)

/-- the statement -/
theorem proved : Rows.FnLengthsSaid :=
  over
#print axioms proved
end Go.Proofs.Ytcljhpldfanhkaa.fnLengths
