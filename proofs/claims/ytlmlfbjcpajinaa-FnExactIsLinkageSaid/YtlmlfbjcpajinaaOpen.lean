/- From the form's reading of an argument to lists. No program in sight. -/
import Derived.Test.YtlmlfbjcpajinaaLaw
import Derived.Deep.Slices
namespace Go.Proofs.Ytlmlfbjcpajinaa
open Go.ChangeShapes Go.WideShapes Go.ChangeAt Go.RowKit Go.Deep
set_option linter.unusedVariables false
set_option linter.unusedSimpArgs false

/-- In the range of int. -/
def R64 (x : Int) : Prop := -9223372036854775808 ≤ x ∧ x ≤ 9223372036854775807
theorem R64_of_wf {x : Int} (h : (Lit.int .i64 x).wf = true) : R64 x := by
  simp [Lit.wf, IntKind.min, IntKind.max, IntKind.signed, IntKind.bits] at h
  unfold R64; omega

section
variable {H : Type} {enc : TypeId × Value → H} {P : Program} {w : World} {spare : Nat → Bool} {held : Bool}

theorem add_block (a : Addr) (n : Nat) : (a.add n).block = a.block := by unfold Addr.add; split <;> rfl
theorem add_off (a : Addr) (n : Nat) : (a.add n).off = a.off + n := by unfold Addr.add; split <;> simp_all
theorem cell?_lt {w : World} {a : Addr} {v : Value} (h : w.cell? a = some v) : a.block < w.heap.size := World.block_lt_of_cell? w a h
theorem cell?_spot {w : World} {a : Addr} {v : Value} (h : w.cell? a = some v) : a.spot = none := by
  unfold World.cell? at h
  split at h
  · split at h
    · cases h
    · simpa using ‹¬ a.spot.isSome = true›
  · cases h


/-- A slice of ints, read. -/
theorem open_intsAt {t e : TypeId} {fuel : Nat} {v : Value} {x : DataW H × List MemPlace} (ht : P.underlying t = some (.slice e)) (he : P.underlying e = some (.int .i64)) (hc : P.cellsOf e = 1)
    (h : DataW.trod enc P w 0 spare held fuel t [v] = some x) : ∃ l, IntsAt w v l ∧ ∀ x ∈ l, R64 x := by
  rcases open_slice1 ht hc h with ⟨h0, _⟩ | ⟨a, len, cap, m, n, V, D, Pl, h0, hb, hl, hm, hmm, rfl, hx⟩
  · simp at h0; subst h0
    exact ⟨[], ⟨Nat.zero_le _, none, 0, rfl, fun h => absurd h (by simp)⟩, by simp⟩
  · simp at h0; subst h0
    have hlm : len ≤ m := by rw [hmm]; split <;> omega
    have hcell : ∀ i, i < len → ∃ z : Int, w.cell? (a.add i) = some (.int .i64 z) ∧ R64 z := fun i hi => by
      obtain ⟨h1, h2⟩ := hx i (by omega)
      obtain ⟨z, hz, _, hw⟩ := DataW.trod_int he h2
      simp at hz
      exact ⟨z, by rw [h1, hz], R64_of_wf hw⟩
    obtain ⟨f, hf⟩ := choose_lt hcell
    refine ⟨(List.range len).map f, ⟨by simp; omega, some a, cap, by simp, fun h0 => ?_⟩, ?_⟩
    · simp at h0
      have c0 := (hf 0 h0).1
      have hs := cell?_spot c0
      have ha : a = ⟨a.block, a.off, none⟩ := by
        have : (a.add 0) = a := by simp [Addr.add]
        rw [this] at hs; cases a; simp_all
      refine ⟨a.block, a.off, by rw [← ha], by have := cell?_lt c0; rwa [add_block] at this, fun i hi => ?_⟩
      simp at hi
      have := (hf i hi).1
      rw [ha, Addr.add_lit] at this
      simpa using this
    · intro x hx'
      obtain ⟨i, hi, rfl⟩ := List.mem_map.1 hx'
      exact (hf i (by simpa using hi)).2

/-- A slice of pairs of ints, read. -/
theorem open_pairsAt {t e ti : TypeId} {f0 f1 : Field} {fuel : Nat} {v : Value} {x : DataW H × List MemPlace} (ht : P.underlying t = some (.slice e)) (he : P.underlying e = some (.struct #[f0, f1])) (hc : P.cellsOf e = 2)
    (hf0 : f0.type = ti) (hf1 : f1.type = ti) (ho0 : f0.offset = 0) (ho1 : f1.offset = 1) (hi : P.underlying ti = some (.int .i64)) (hci : P.cellsOf ti = 1)
    (h : DataW.trod enc P w 0 spare held fuel t [v] = some x) : ∃ l : List (Int × Int), PairsAt w v l ∧ ∀ x ∈ l, R64 x.1 ∧ R64 x.2 := by
  rcases open_slice ht h with ⟨h0, _⟩ | ⟨a, len, cap, m, n, D, Pl, h0, hb, hl, hm, hmm, rfl, hx⟩
  · simp at h0; subst h0
    exact ⟨[], ⟨Nat.zero_le _, none, 0, rfl, fun h => absurd h (by simp)⟩, by simp⟩
  · simp at h0; subst h0
    have hlm : len ≤ m := by rw [hmm]; split <;> omega
    have hcell : ∀ i, i < len → ∃ z : Int × Int, (w.cell? (a.add (i * 2)) = some (.int .i64 z.1) ∧ w.cell? ((a.add (i * 2)).add 1) = some (.int .i64 z.2)) ∧ R64 z.1 ∧ R64 z.2 := fun i hi' => by
      obtain ⟨cs', h1, h2⟩ := hx i (by omega)
      obtain ⟨y0, y1, n', _, hlen, hy0, hy1⟩ := trod_struct2 he h2
      rw [hc] at h1 hlen
      obtain ⟨c0, c1, rfl⟩ : ∃ c0 c1, cs' = [c0, c1] := by
        match cs', hlen with
        | [c0, c1], _ => exact ⟨c0, c1, rfl⟩
      rw [hf0, ho0, hci] at hy0
      rw [hf1, ho1, hci] at hy1
      simp at hy0 hy1
      obtain ⟨z0, hz0, _, w0⟩ := DataW.trod_int hi hy0
      obtain ⟨z1, hz1, _, w1⟩ := DataW.trod_int hi hy1
      simp at hz0 hz1
      subst hz0 hz1
      obtain ⟨_, _, hk⟩ := World.cells?_some h1
      exact ⟨(z0, z1), ⟨by simpa [Addr.add] using hk 0 (by omega), by simpa using hk 1 (by omega)⟩, R64_of_wf w0, R64_of_wf w1⟩
    obtain ⟨f, hf⟩ := choose_lt hcell
    refine ⟨(List.range len).map f, ⟨by simp; omega, some a, cap, by simp, fun h0 => ?_⟩, ?_⟩
    · simp at h0
      have c0 := (hf 0 h0).1.1
      have hs := cell?_spot c0
      have ha : a = ⟨a.block, a.off, none⟩ := by
        have : (a.add (0 * 2)) = a := by simp [Addr.add]
        rw [this] at hs; cases a; simp_all
      refine ⟨a.block, a.off, by rw [← ha], by have := cell?_lt c0; rwa [add_block] at this, fun i hi => ?_⟩
      simp at hi
      have := (hf i hi).1
      rw [ha, Addr.add_lit, Addr.add_lit] at this
      simpa using this
    · intro x hx'
      obtain ⟨i, hi, rfl⟩ := List.mem_map.1 hx'
      exact (hf i (by simpa using hi)).2

/-- A slice of slices, read: the inner ones by hin. -/
theorem open_slicesAt {α : Type} [Inhabited α] {R : World → Value → α → Prop} {t e : TypeId} {fuel : Nat} {v : Value} {x : DataW H × List MemPlace} (ht : P.underlying t = some (.slice e)) (hc : P.cellsOf e = 1)
    (hin : ∀ (n : Nat) (u : Value) (y : DataW H × List MemPlace), DataW.trod enc P w 0 spare held n e [u] = some y → ∃ a, R w u a)
    (h : DataW.trod enc P w 0 spare held fuel t [v] = some x) : ∃ l : List α, SlicesAt R w v l := by
  rcases open_slice1 ht hc h with ⟨h0, _⟩ | ⟨a, len, cap, m, n, V, D, Pl, h0, hb, hl, hm, hmm, rfl, hx⟩
  · simp at h0; subst h0
    exact ⟨[], Nat.zero_le _, none, 0, rfl, fun h => absurd h (by simp)⟩
  · simp at h0; subst h0
    have hlm : len ≤ m := by rw [hmm]; split <;> omega
    have hcell : ∀ i, i < len → ∃ z : α, w.cell? (a.add i) = some (V i) ∧ R w (V i) z := fun i hi => by
      obtain ⟨h1, h2⟩ := hx i (by omega)
      obtain ⟨z, hz⟩ := hin _ _ _ h2
      exact ⟨z, h1, hz⟩
    obtain ⟨f, hf⟩ := choose_lt hcell
    refine ⟨(List.range len).map f, by simp; omega, some a, cap, by simp, fun h0 => ?_⟩
    simp at h0
    have c0 := (hf 0 h0).1
    have hs := cell?_spot c0
    have ha : a = ⟨a.block, a.off, none⟩ := by
      have : (a.add 0) = a := by simp [Addr.add]
      rw [this] at hs; cases a; simp_all
    refine ⟨a.block, a.off, by rw [← ha], by have := cell?_lt c0; rwa [add_block] at this, fun i hi => ?_⟩
    simp at hi
    have := (hf i hi).1
    rw [ha, Addr.add_lit] at this
    exact ⟨V i, this, by simpa using (hf i hi).2⟩
end
end Go.Proofs.Ytlmlfbjcpajinaa
