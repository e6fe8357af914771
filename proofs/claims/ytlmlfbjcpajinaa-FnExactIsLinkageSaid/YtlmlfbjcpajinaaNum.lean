/- Contracts of the small number functions. -/
import Derived.Test.YtlmlfbjcpajinaaGraphP
import Derived.Test.YtlmlfbjcpajinaaChecked
import Derived.Deep.QuietTactic
import Derived.BigQuiet
namespace Go.Proofs.Ytlmlfbjcpajinaa
open Go.RowKit
set_option linter.unusedSimpArgs false
set_option linter.unusedVariables false



set_option maxHeartbeats 400000 in
theorem within_c (x lo hi : Int) (w : World) :
    Calls Try.prog 103 #[.int .i64 x, .int .i64 lo, .int .i64 hi] w fun e w' => e = .returned (.bool (inB x lo hi)) ∧ w = w' := by
  by_cases h : lo ≤ x
  · go_enter Try.func103, Try.ntmps103
    go_wp2
    go_ret
    exact ⟨ret_bool (by simp [inB, h]), rfl⟩
  · go_enter Try.func103, Try.ntmps103
    go_wp2
    go_ret
    exact ⟨ret_bool (by have := Int.not_le.mpr h; simp [inB, this]), rfl⟩

set_option maxHeartbeats 400000 in
theorem l1In_c (x lo hi : Int) (w : World) :
    Calls Try.prog 89 #[.int .i64 x, .int .i64 lo, .int .i64 hi] w fun e w' => e = .returned (.bool (inB x lo hi)) ∧ w = w' := by
  by_cases h : lo ≤ x
  · go_enter Try.func89, Try.ntmps89
    go_wp2
    go_ret
    exact ⟨ret_bool (by simp [inB, h]), rfl⟩
  · go_enter Try.func89, Try.ntmps89
    go_wp2
    go_ret
    exact ⟨ret_bool (by have := Int.not_le.mpr h; simp [inB, this]), rfl⟩

def squaresB (l : List Int) : Bool := l.all fun x => inB x 0 200

theorem all_take_succ (p : Int → Bool) (l : List Int) (k : Nat) (h : k < l.length) : (l.take (k + 1)).all p = ((l.take k).all p && p l[k]) := by
  rw [List.take_succ_eq_append_getElem h, List.all_append]; simp
theorem all_false_of (p : Int → Bool) (l : List Int) (k : Nat) (h : k < l.length) (hp : p l[k] = false) : l.all p = false := by
  simp only [List.all_eq_false]; exact ⟨l[k], List.getElem_mem h, by simp [hp]⟩

set_option maxHeartbeats 400000 in
theorem areSquares_c (n : Int) (v : Value) (l : List Int) (w : World) (hl : IntsAt w v l) :
    Calls Try.prog 68 #[.int .i64 n, v] w fun e w' => e = .returned (.bool (squaresB l && decide ((l.length : Int) = n))) ∧ w = w' := by
  obtain ⟨hm, ao, cap, rfl, hc⟩ := hl
  unfold maxLen at hm
  go_enter Try.func68, Try.ntmps68
  go_wp2
  go_loop [9] (fun i => ∃ k : Nat, k ≤ l.length ∧ i = .int .i64 k ∧ squaresB (l.take k) = true) (fun i => l.length - (intOf i).toNat)
  case atStart => exact ⟨0, Nat.zero_le _, rfl, rfl⟩
  case round =>
    obtain ⟨k, hk, rfl, hs⟩ := hrel
    have Hs := Lib.hid hs
    clear hs
    by_cases hlt : k < l.length
    · obtain ⟨b, off, rfl, hb, hcs⟩ := hc (by omega)
      have hx := hcs k hlt
      clear hc hcs
      go_wp2_with (go_at_call 103; refine (within_c _ _ _ _).mono ?_; rintro e w' ⟨rfl, rfl⟩)
      · have hp : (!inB l[k] 0 200) = true := by assumption
        go_ret
        exact ⟨ret_bool (by rw [squaresB, all_false_of _ l k hlt (by simpa using hp)]; rfl), rfl⟩
      · have hp : (!inB l[k] 0 200) = false := by assumption
        go_round
        case rel => exact ⟨k + 1, hlt, by go_num, by rw [squaresB, all_take_succ _ l k hlt]; simp only [Bool.not_eq_eq_eq_not, Bool.not_false] at hp; rw [hp]; simpa [squaresB] using Hs.out⟩
        case measure => simp [intOf]; omega
    · go_wp2
      go_ret
      have : k = l.length := by omega
      subst this
      rw [List.take_length] at Hs
      exact ⟨ret_bool (by rw [Hs.out]; simp; rfl), rfl⟩

set_option maxHeartbeats 400000 in
theorem l22Fine_c (v : Value) (l : List Int) (w : World) (hl : IntsAt w v l) :
    Calls Try.prog 65 #[v] w fun e w' => e = .returned (.bool (squaresB l)) ∧ w = w' := by
  obtain ⟨hm, ao, cap, rfl, hc⟩ := hl
  unfold maxLen at hm
  go_enter Try.func65, Try.ntmps65
  go_wp2
  go_loop [3] (fun i => ∃ k : Nat, k ≤ l.length ∧ i = .int .i64 k ∧ squaresB (l.take k) = true) (fun i => l.length - (intOf i).toNat)
  case atStart => exact ⟨0, Nat.zero_le _, rfl, rfl⟩
  case round =>
    obtain ⟨k, hk, rfl, hs⟩ := hrel
    have Hs := Lib.hid hs
    clear hs
    by_cases hlt : k < l.length
    · obtain ⟨b, off, rfl, hb, hcs⟩ := hc (by omega)
      have hx := hcs k hlt
      clear hc hcs
      go_wp2_with (go_at_call 89; refine (l1In_c _ _ _ _).mono ?_; rintro e w' ⟨rfl, rfl⟩)
      · have hp : (!inB l[k] 0 200) = true := by assumption
        go_ret
        exact ⟨ret_bool (by rw [squaresB, all_false_of _ l k hlt (by simpa using hp)]), rfl⟩
      · have hp : (!inB l[k] 0 200) = false := by assumption
        go_round
        case rel => exact ⟨k + 1, hlt, by go_num, by rw [squaresB, all_take_succ _ l k hlt]; simp only [Bool.not_eq_eq_eq_not, Bool.not_false] at hp; rw [hp]; simpa [squaresB] using Hs.out⟩
        case measure => simp [intOf]; omega
    · go_wp2
      go_ret
      have : k = l.length := by omega
      subst this
      rw [List.take_length] at Hs
      exact ⟨ret_bool (by rw [Hs.out]), rfl⟩

def heronV (a b c : Int) : Int := if squaresB [a, b, c] then 2 * (a * b + b * c + c * a) - a * a - b * b - c * c else 0

set_option maxHeartbeats 400000 in
theorem heronI_c (a b c : Int) (w : World) :
    Calls Try.prog 116 #[.int .i64 a, .int .i64 b, .int .i64 c] w fun e w' => e = .returned (.int .i64 (heronV a b c)) ∧ Below w.heap.size w w' := by
  have hI := IntsAt_lit w 3 [a, b, c] (by simp [maxLen])
  have HI := Lib.hid hI
  clear hI
  by_cases hs : squaresB [a, b, c] = true
  · have hs' := hs
    have hh : heronV a b c = 2 * (a * b + b * c + c * a) - a * a - b * b - c * c := by rw [heronV, if_pos hs]
    simp only [squaresB, inB, List.all_cons, List.all_nil, Bool.and_true, Bool.and_eq_true, decide_eq_true_eq] at hs'
    have Hs := Lib.hid hs
    have Hh := Lib.hid hh
    obtain ⟨⟨ha1, ha2⟩, ⟨hb1, hb2⟩, hc1, hc2⟩ := hs'
    clear hs hh
    obtain ⟨m1, m2⟩ := mul_bd a b 200 200 ha1 ha2 hb1 hb2
    obtain ⟨m3, m4⟩ := mul_bd b c 200 200 hb1 hb2 hc1 hc2
    obtain ⟨m5, m6⟩ := mul_bd c a 200 200 hc1 hc2 ha1 ha2
    obtain ⟨m7, m8⟩ := mul_bd a a 200 200 ha1 ha2 ha1 ha2
    obtain ⟨m9, ma⟩ := mul_bd b b 200 200 hb1 hb2 hb1 hb2
    obtain ⟨mb, mc⟩ := mul_bd c c 200 200 hc1 hc2 hc1 hc2
    go_enter Try.func116, Try.ntmps116
    go_wp2_with fail
    refine (areSquares_c _ _ _ _ HI.out).mono ?_
    rintro e w' ⟨rfl, rfl⟩
    rw [Hs.out]
    go_wp2
    go_ret
    exact ⟨ret_int Hh.out.symm, (Below.refl _ _).alloc (Nat.le_refl _) _⟩
  · have hh : heronV a b c = 0 := by rw [heronV, if_neg hs]
    have Hs : Hid (squaresB [a, b, c] = false) := Lib.hid (by simpa using hs)
    have Hh := Lib.hid hh
    clear hs hh
    go_enter Try.func116, Try.ntmps116
    go_wp2_with fail
    refine (areSquares_c _ _ _ _ HI.out).mono ?_
    rintro e w' ⟨rfl, rfl⟩
    rw [Hs.out]
    go_wp2
    go_ret
    exact ⟨ret_int Hh.out.symm, (Below.refl _ _).alloc (Nat.le_refl _) _⟩

set_option maxHeartbeats 400000 in
theorem heronS_c (a b c : Int) (w : World) :
    Calls Try.prog 114 #[.int .i64 a, .int .i64 b, .int .i64 c] w fun e w' => e = .returned (.int .i64 (heronV a b c)) ∧ Below w.heap.size w w' := by
  have hI := IntsAt_lit w 3 [a, b, c] (by simp [maxLen])
  have HI := Lib.hid hI
  clear hI
  by_cases hs : squaresB [a, b, c] = true
  · have hs' := hs
    have hh : heronV a b c = 2 * (a * b + b * c + c * a) - a * a - b * b - c * c := by rw [heronV, if_pos hs]
    simp only [squaresB, inB, List.all_cons, List.all_nil, Bool.and_true, Bool.and_eq_true, decide_eq_true_eq] at hs'
    have Hs := Lib.hid hs
    have Hh := Lib.hid hh
    obtain ⟨⟨ha1, ha2⟩, ⟨hb1, hb2⟩, hc1, hc2⟩ := hs'
    clear hs hh
    obtain ⟨m1, m2⟩ := mul_bd a b 200 200 ha1 ha2 hb1 hb2
    obtain ⟨m3, m4⟩ := mul_bd b c 200 200 hb1 hb2 hc1 hc2
    obtain ⟨m5, m6⟩ := mul_bd c a 200 200 hc1 hc2 ha1 ha2
    obtain ⟨m7, m8⟩ := mul_bd a a 200 200 ha1 ha2 ha1 ha2
    obtain ⟨m9, ma⟩ := mul_bd b b 200 200 hb1 hb2 hb1 hb2
    obtain ⟨mb, mc⟩ := mul_bd c c 200 200 hc1 hc2 hc1 hc2
    go_enter Try.func114, Try.ntmps114
    go_wp2_with fail
    refine (l22Fine_c _ _ _ HI.out).mono ?_
    rintro e w' ⟨rfl, rfl⟩
    rw [Hs.out]
    go_wp2
    go_ret
    exact ⟨ret_int Hh.out.symm, (Below.refl _ _).alloc (Nat.le_refl _) _⟩
  · have hh : heronV a b c = 0 := by rw [heronV, if_neg hs]
    have Hs : Hid (squaresB [a, b, c] = false) := Lib.hid (by simpa using hs)
    have Hh := Lib.hid hh
    clear hs hh
    go_enter Try.func114, Try.ntmps114
    go_wp2_with fail
    refine (l22Fine_c _ _ _ HI.out).mono ?_
    rintro e w' ⟨rfl, rfl⟩
    rw [Hs.out]
    go_wp2
    go_ret
    exact ⟨ret_int Hh.out.symm, (Below.refl _ _).alloc (Nat.le_refl _) _⟩

end Go.Proofs.Ytlmlfbjcpajinaa
