/- The laws' own functions on arguments: what they compute (written by gen_pb.py). -/
import Derived.Test.YtkpmijmlbpdknaaPa
import Derived.Test.YtkpmijmlbpdknaaG1
import Derived.Test.YtkpmijmlbpdknaaG2
import Derived.Test.YtkpmijmlbpdknaaG3
import Derived.Test.YtkpmijmlbpdknaaG4
import Derived.Test.YtkpmijmlbpdknaaG6
import Derived.Test.YtkpmijmlbpdknaaG8
import Derived.Test.YtkpmijmlbpdknaaG14
import Derived.Test.YtkpmijmlbpdknaaG15
namespace Go.Proofs.Ytkpmijmlbpdknaa
set_option linter.unusedVariables false
set_option linter.unusedSimpArgs false
variable (N : Nat)
/-- what is left behind n -/
def szv (left : Int) (n : Nat) : Int := if left < n then -1 else left - n
theorem szv_big {left : Int} {n : Nat} (h : left < n) : szv left n = -1 := if_pos h
theorem szv_ok {left : Int} {n : Nat} (h : ¬ left < n) : szv left n = left - n := if_neg h
abbrev B63 (n : Nat) : Prop := n ≤ 9223372036854775807

theorem szIntS_s {a : List Int} (ha : B63 a.length) {left : Int} (h0 : 0 ≤ left) (h1 : left ≤ 1048576) : L_szIntS N a left = some (szv left a.length) := by
  unfold L_szIntS
  by_cases h : left < a.length
  · rw [szv_big h]; simp (disch := omega) only [Int.toNat_natCast, tk0, List.length_cons, List.length_nil, grd_pos, grd_T, grd_R, cnd_dt, cnd_df, cnd_true, cnd_false, Option.bind_some]
  · rw [szv_ok h]; simp (disch := omega) only [Int.toNat_natCast, tk0, List.length_cons, List.length_nil, grd_pos, grd_T, grd_R, cnd_dt, cnd_df, cnd_true, cnd_false, Option.bind_some]
theorem toIntS_l {a : List Int} (ha : a.length ≤ 1048576) (k : List Int → Option (List Int)) : ∀ n i : Nat, i ≤ a.length → a.length < n + i → L_toIntS_l1 N a k n (cpy a 0 i, (i : Int)) = k a := by
  intro n
  induction n with
  | zero => intro i h1 h2; omega
  | succ n ih =>
    intro i h1 h2
    have hl := cpy_len a 0 i
    rw [L_toIntS_l1]
    by_cases hi : i < a.length
    · simp (disch := omega) only [Int.toNat_natCast, tk0, List.length_cons, List.length_nil, grd_pos, grd_T, grd_R, cnd_dt, cnd_df, cnd_true, cnd_false, Option.bind_some, List.length_replicate, hl]
      rw [cpy_set a 0 0 i hi rfl]
      exact ih (i + 1) (by omega) (by omega)
    · simp (disch := omega) only [Int.toNat_natCast, tk0, List.length_cons, List.length_nil, grd_pos, grd_T, grd_R, cnd_dt, cnd_df, cnd_true, cnd_false, Option.bind_some]
      obtain rfl : i = a.length := by omega
      rw [cpy_full]
theorem toIntS_s (hN : 4000000 ≤ N) {a : List Int} (ha : a.length ≤ 1048576) : L_toIntS N a = some a := by
  unfold L_toIntS
  have h := toIntS_l N ha (fun l9 => grd ((List.replicate (((a.length : Int)).toNat) (0 : Int)).length = l9.length) <| some l9) N 0 (by omega) (by omega)
  simp only [Int.toNat_natCast, cpy_zero] at h ⊢
  simp (disch := omega) only [Int.toNat_natCast, tk0, List.length_cons, List.length_nil, grd_pos, grd_T, grd_R, cnd_dt, cnd_df, cnd_true, cnd_false, Option.bind_some]
  refine h.trans ?_
  simp (disch := omega) only [Int.toNat_natCast, tk0, List.length_cons, List.length_nil, grd_pos, grd_T, grd_R, cnd_dt, cnd_df, cnd_true, cnd_false, Option.bind_some, cpy_len]
theorem eqIntS_l {a : List Int} (ha : a.length ≤ 1048576) (k : Unit → Option Bool) : ∀ n i : Nat, i ≤ a.length → a.length < n + i → L_eqIntS_l1 N a a k n (i : Int) = k () := by
  intro n
  induction n with
  | zero => intro i h1 h2; omega
  | succ n ih =>
    intro i h1 h2
    rw [L_eqIntS_l1]
    by_cases hi : i < a.length
    · simp (disch := omega) only [Int.toNat_natCast, tk0, List.length_cons, List.length_nil, grd_pos, grd_T, grd_R, cnd_dt, cnd_df, cnd_true, cnd_false, Option.bind_some, bne_self_eq_false]
      exact ih (i + 1) (by omega) (by omega)
    · simp (disch := omega) only [Int.toNat_natCast, tk0, List.length_cons, List.length_nil, grd_pos, grd_T, grd_R, cnd_dt, cnd_df, cnd_true, cnd_false, Option.bind_some]
theorem eqIntS_s (hN : 4000000 ≤ N) {a : List Int} (ha : a.length ≤ 1048576) : L_eqIntS N a a = some true := by
  unfold L_eqIntS
  simp (disch := omega) only [Int.toNat_natCast, tk0, List.length_cons, List.length_nil, grd_pos, grd_T, grd_R, cnd_dt, cnd_df, cnd_true, cnd_false, Option.bind_some, bne_self_eq_false]
  exact eqIntS_l N ha (fun _ => some true) N 0 (by omega) (by omega)
theorem szBarS_s {a : List (Int × Int)} (ha : B63 a.length) {left : Int} (h0 : 0 ≤ left) (h1 : left ≤ 1048576) : L_szBarS N a left = some (szv left a.length) := by
  unfold L_szBarS
  by_cases h : left < a.length
  · rw [szv_big h]; simp (disch := omega) only [Int.toNat_natCast, tk0, List.length_cons, List.length_nil, grd_pos, grd_T, grd_R, cnd_dt, cnd_df, cnd_true, cnd_false, Option.bind_some]
  · rw [szv_ok h]; simp (disch := omega) only [Int.toNat_natCast, tk0, List.length_cons, List.length_nil, grd_pos, grd_T, grd_R, cnd_dt, cnd_df, cnd_true, cnd_false, Option.bind_some]
theorem toBar_s (x : Int × Int) : L_toBar N x = some x := rfl
theorem toBarS_l {a : List (Int × Int)} (ha : a.length ≤ 1048576) (k : List (Int × Int) → Option (List (Int × Int))) : ∀ n i : Nat, i ≤ a.length → a.length < n + i → L_toBarS_l1 N a k n (cpy a (0, 0) i, (i : Int)) = k a := by
  intro n
  induction n with
  | zero => intro i h1 h2; omega
  | succ n ih =>
    intro i h1 h2
    have hl := cpy_len a (0, 0) i
    rw [L_toBarS_l1]
    by_cases hi : i < a.length
    · simp (disch := omega) only [Int.toNat_natCast, tk0, List.length_cons, List.length_nil, grd_pos, grd_T, grd_R, cnd_dt, cnd_df, cnd_true, cnd_false, Option.bind_some, List.length_replicate, hl, toBar_s]
      rw [set_pair _ _ _ _ (by omega), cpy_set a (0, 0) (0, 0) i hi rfl]
      exact ih (i + 1) (by omega) (by omega)
    · simp (disch := omega) only [Int.toNat_natCast, tk0, List.length_cons, List.length_nil, grd_pos, grd_T, grd_R, cnd_dt, cnd_df, cnd_true, cnd_false, Option.bind_some]
      obtain rfl : i = a.length := by omega
      rw [cpy_full]
theorem toBarS_s (hN : 4000000 ≤ N) {a : List (Int × Int)} (ha : a.length ≤ 1048576) : L_toBarS N a = some a := by
  unfold L_toBarS
  have h := toBarS_l N ha (fun l9 => grd ((List.replicate (((a.length : Int)).toNat) ((0, 0) : Int × Int)).length = l9.length) <| some l9) N 0 (by omega) (by omega)
  simp only [Int.toNat_natCast, cpy_zero] at h ⊢
  simp (disch := omega) only [Int.toNat_natCast, tk0, List.length_cons, List.length_nil, grd_pos, grd_T, grd_R, cnd_dt, cnd_df, cnd_true, cnd_false, Option.bind_some]
  refine h.trans ?_
  simp (disch := omega) only [Int.toNat_natCast, tk0, List.length_cons, List.length_nil, grd_pos, grd_T, grd_R, cnd_dt, cnd_df, cnd_true, cnd_false, Option.bind_some, cpy_len]
theorem eqBar_s (x : Int × Int) : L_eqBar N x x = some true := by
  unfold L_eqBar
  simp (disch := omega) only [Int.toNat_natCast, tk0, List.length_cons, List.length_nil, grd_pos, grd_T, grd_R, cnd_dt, cnd_df, cnd_true, cnd_false, Option.bind_some, bne_self_eq_false]
theorem eqBarS_l {a : List (Int × Int)} (ha : a.length ≤ 1048576) (k : Unit → Option Bool) : ∀ n i : Nat, i ≤ a.length → a.length < n + i → L_eqBarS_l1 N a a k n (i : Int) = k () := by
  intro n
  induction n with
  | zero => intro i h1 h2; omega
  | succ n ih =>
    intro i h1 h2
    rw [L_eqBarS_l1]
    by_cases hi : i < a.length
    · simp (disch := omega) only [Int.toNat_natCast, tk0, List.length_cons, List.length_nil, grd_pos, grd_T, grd_R, cnd_dt, cnd_df, cnd_true, cnd_false, Option.bind_some, bne_self_eq_false, eqBar_s, Bool.not_true]
      exact ih (i + 1) (by omega) (by omega)
    · simp (disch := omega) only [Int.toNat_natCast, tk0, List.length_cons, List.length_nil, grd_pos, grd_T, grd_R, cnd_dt, cnd_df, cnd_true, cnd_false, Option.bind_some]
theorem eqBarS_s (hN : 4000000 ≤ N) {a : List (Int × Int)} (ha : a.length ≤ 1048576) : L_eqBarS N a a = some true := by
  unfold L_eqBarS
  simp (disch := omega) only [Int.toNat_natCast, tk0, List.length_cons, List.length_nil, grd_pos, grd_T, grd_R, cnd_dt, cnd_df, cnd_true, cnd_false, Option.bind_some, bne_self_eq_false]
  exact eqBarS_l N ha (fun _ => some true) N 0 (by omega) (by omega)
abbrev lnGraph (a : Grf) : Nat := a.bars.length
abbrev BGraph (a : Grf) : Prop := B63 a.bars.length
theorem szGraph_s {a : Grf} (ha : BGraph a) {left : Int} (h0 : 0 ≤ left) (h1 : left ≤ 1048576) : L_szGraph N a left = some (szv left (lnGraph a)) := by
  unfold L_szGraph
  rw [szBarS_s N ha h0 h1]
  by_cases h : left < a.bars.length
  · rw [szv_big h]; simp (disch := omega) only [Int.toNat_natCast, tk0, List.length_cons, List.length_nil, grd_pos, grd_T, grd_R, cnd_dt, cnd_df, cnd_true, cnd_false, Option.bind_some]
  · rw [szv_ok h]; simp (disch := omega) only [Int.toNat_natCast, tk0, List.length_cons, List.length_nil, grd_pos, grd_T, grd_R, cnd_dt, cnd_df, cnd_true, cnd_false, Option.bind_some]
theorem toGraph_s (hN : 4000000 ≤ N) {a : Grf} (ha : lnGraph a ≤ 1048576) : L_toGraph N a = some a := by
  unfold L_toGraph
  rw [toBarS_s N hN (a := a.bars) (by have := ha; simp only [lnGraph] at this; omega)]
  rfl
theorem eqGraph_s (hN : 4000000 ≤ N) {a : Grf} (ha : lnGraph a ≤ 1048576) : L_eqGraph N a a = some true := by
  unfold L_eqGraph
  rw [eqBarS_s N hN (a := a.bars) (by have := ha; simp only [lnGraph] at this; omega)]
  simp only [bne_self_eq_false]; rfl
abbrev lnRaise (a : Rse) : Nat := a.bars.length
abbrev BRaise (a : Rse) : Prop := B63 a.bars.length
theorem szRaise_s {a : Rse} (ha : BRaise a) {left : Int} (h0 : 0 ≤ left) (h1 : left ≤ 1048576) : L_szRaise N a left = some (szv left (lnRaise a)) := by
  unfold L_szRaise
  rw [szIntS_s N ha h0 h1]
  by_cases h : left < a.bars.length
  · rw [szv_big h]; simp (disch := omega) only [Int.toNat_natCast, tk0, List.length_cons, List.length_nil, grd_pos, grd_T, grd_R, cnd_dt, cnd_df, cnd_true, cnd_false, Option.bind_some]
  · rw [szv_ok h]; simp (disch := omega) only [Int.toNat_natCast, tk0, List.length_cons, List.length_nil, grd_pos, grd_T, grd_R, cnd_dt, cnd_df, cnd_true, cnd_false, Option.bind_some]
theorem toRaise_s (hN : 4000000 ≤ N) {a : Rse} (ha : lnRaise a ≤ 1048576) : L_toRaise N a = some a := by
  unfold L_toRaise
  rw [toIntS_s N hN (a := a.bars) (by have := ha; simp only [lnRaise] at this; omega)]
  rfl
theorem eqRaise_s (hN : 4000000 ≤ N) {a : Rse} (ha : lnRaise a ≤ 1048576) : L_eqRaise N a a = some true := by
  unfold L_eqRaise
  rw [eqIntS_s N hN (a := a.bars) (by have := ha; simp only [lnRaise] at this; omega)]
  simp only [bne_self_eq_false]; rfl
abbrev lnPinned (a : Pin) : Nat := a.g.bars.length + a.ground.length
abbrev BPinned (a : Pin) : Prop := B63 a.g.bars.length ∧ B63 a.ground.length
theorem szPinned_s {a : Pin} (ha : BPinned a) {left : Int} (h0 : 0 ≤ left) (h1 : left ≤ 1048576) : L_szPinned N a left = some (szv left (lnPinned a)) := by
  unfold L_szPinned
  have e : lnPinned a = (lnGraph a.g) + a.ground.length := rfl
  rw [szGraph_s N ha.1 h0 h1]
  by_cases h : left < (lnGraph a.g)
  · rw [szv_big h, szv_big (by omega)]; simp (disch := omega) only [Int.toNat_natCast, tk0, List.length_cons, List.length_nil, grd_pos, grd_T, grd_R, cnd_dt, cnd_df, cnd_true, cnd_false, Option.bind_some]
  · rw [szv_ok h]
    simp (disch := omega) only [Int.toNat_natCast, tk0, List.length_cons, List.length_nil, grd_pos, grd_T, grd_R, cnd_dt, cnd_df, cnd_true, cnd_false, Option.bind_some]
    rw [szIntS_s N ha.2 (by omega) (by omega)]
    by_cases h' : left - (lnGraph a.g) < a.ground.length
    · rw [szv_big h', szv_big (by omega)]; simp (disch := omega) only [Int.toNat_natCast, tk0, List.length_cons, List.length_nil, grd_pos, grd_T, grd_R, cnd_dt, cnd_df, cnd_true, cnd_false, Option.bind_some]
    · rw [szv_ok h', szv_ok (by omega)]
      simp (disch := omega) only [Int.toNat_natCast, tk0, List.length_cons, List.length_nil, grd_pos, grd_T, grd_R, cnd_dt, cnd_df, cnd_true, cnd_false, Option.bind_some]
      congr 1; omega
theorem toPinned_s (hN : 4000000 ≤ N) {a : Pin} (ha : lnPinned a ≤ 1048576) : L_toPinned N a = some a := by
  unfold L_toPinned
  rw [toGraph_s N hN (a := a.g) (by have := ha; simp only [lnPinned] at this; simp only [lnGraph]; omega), Option.bind_some, toIntS_s N hN (a := a.ground) (by have := ha; simp only [lnPinned] at this; omega)]
  rfl
theorem eqPinned_s (hN : 4000000 ≤ N) {a : Pin} (ha : lnPinned a ≤ 1048576) : L_eqPinned N a a = some true := by
  unfold L_eqPinned
  rw [eqGraph_s N hN (a := a.g) (by have := ha; simp only [lnPinned] at this; simp only [lnGraph]; omega), Option.bind_some, eqIntS_s N hN (a := a.ground) (by have := ha; simp only [lnPinned] at this; omega)]
  rfl
abbrev lnFramework (a : Frm) : Nat := a.g.bars.length + a.places.length
abbrev BFramework (a : Frm) : Prop := B63 a.g.bars.length ∧ B63 a.places.length
abbrev lnLinkage (a : Lnk) : Nat := a.f.g.bars.length + a.f.places.length + a.ground.length
abbrev BLinkage (a : Lnk) : Prop := B63 a.f.g.bars.length ∧ B63 a.f.places.length ∧ B63 a.ground.length
end Go.Proofs.Ytkpmijmlbpdknaa
