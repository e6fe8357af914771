/- Graphs as data, and what it is to be one. No program in sight. -/
import Derived.Test.YtlmlfbjcpajinaaHeap
namespace Go.Proofs.Ytlmlfbjcpajinaa
open Go.RowKit
set_option linter.unusedSimpArgs false
set_option linter.unusedVariables false

structure Grf where
  n : Int
  bars : List (Int × Int)
structure Pin where
  g : Grf
  ground : List Int
structure Frm where
  g : Grf
  places : List (Int × Int)
structure Lnk where
  f : Frm
  ground : List Int
structure Rse where
  p : Int
  bars : List Int

def inB (x lo hi : Int) : Bool := decide (lo ≤ x) && decide (x ≤ hi)
theorem inB_true {x lo hi : Int} : inB x lo hi = true ↔ lo ≤ x ∧ x ≤ hi := by simp [inB]
theorem inB_false {x lo hi : Int} (h : inB x lo hi = false) : x < lo ∨ hi < x := by simp [inB] at h; omega

def barOkB (n : Int) (p : Int × Int) : Bool := decide (0 ≤ p.1) && decide (p.1 < p.2) && decide (p.2 < n)
def barLeB (p q : Int × Int) : Bool := decide (p.1 < q.1) || (p.1 == q.1 && decide (p.2 ≤ q.2))
/-- bar i of a list is in its place -/
def barAt (n : Int) (l : List (Int × Int)) (i : Nat) : Bool := barOkB n (l.getD i (0, 0)) && (decide (i = 0) || barLeB (l.getD (i - 1) (0, 0)) (l.getD i (0, 0)))
def isGraph (g : Grf) : Bool := inB g.n 1 8 && decide (g.bars.length ≤ 24) && (List.range g.bars.length).all (barAt g.n g.bars)
theorem isGraph_true {g : Grf} (h1 : inB g.n 1 8 = true) (h2 : g.bars.length ≤ 24) (h : ∀ i, i < g.bars.length → barAt g.n g.bars i = true) : isGraph g = true := by
  simp [isGraph, h1, h2]; exact h
theorem isGraph_size {g : Grf} (h : inB g.n 1 8 = false) : isGraph g = false := by simp [isGraph, h]
theorem isGraph_long {g : Grf} (h : 24 < g.bars.length) : isGraph g = false := by simp [isGraph]; intro _ h2; omega
theorem isGraph_bad {g : Grf} (i : Nat) (hi : i < g.bars.length) (h : barAt g.n g.bars i = false) : isGraph g = false := by
  simp only [isGraph, Bool.and_eq_false_iff, List.all_eq_false]; exact .inr ⟨i, by simpa using hi, by simp [h]⟩
theorem isGraph_parts {g : Grf} (h : isGraph g = true) : (1 ≤ g.n ∧ g.n ≤ 8) ∧ g.bars.length ≤ 24 ∧ ∀ i, i < g.bars.length → barAt g.n g.bars i = true := by
  simp only [isGraph, Bool.and_eq_true, decide_eq_true_eq, List.all_eq_true, List.mem_range] at h
  exact ⟨inB_true.1 h.1.1, h.1.2, h.2⟩
theorem isGraph_bar {g : Grf} (h : isGraph g = true) {p : Int × Int} (hp : p ∈ g.bars) : 0 ≤ p.1 ∧ p.1 < p.2 ∧ p.2 < g.n := by
  obtain ⟨i, hi, rfl⟩ := List.getElem_of_mem hp
  have := (isGraph_parts h).2.2 i hi
  simp [barAt, barOkB, hi] at this
  omega
/-- the order of bars, as the program tells it -/
def cmpI (a b : Int) : Int := if a < b then -1 else if b < a then 1 else 0
def cmpBar (p q : Int × Int) : Int := if cmpI p.1 q.1 = 0 then cmpI p.2 q.2 else cmpI p.1 q.1
theorem cmpBar_pos (p q : Int × Int) : (0 < cmpBar p q) ↔ barLeB p q = false := by
  simp only [cmpBar, cmpI, barLeB]
  constructor
  · intro h
    simp
    split at h <;> split at h <;> (try split at h) <;> (try split at h) <;> omega
  · intro h
    simp at h
    split <;> split <;> (try split) <;> (try split) <;> omega
theorem cmpBar_bd (p q : Int × Int) : -1 ≤ cmpBar p q ∧ cmpBar p q ≤ 1 := by
  simp only [cmpBar, cmpI]; split <;> split <;> (try split) <;> omega
/-- two bars beside each other are the same -/
def doubleAt (l : List (Int × Int)) (i : Nat) : Bool := decide (0 < i) && (l.getD (i - 1) (0, 0) == l.getD i (0, 0))
def hasDbl (l : List (Int × Int)) : Bool := (List.range l.length).any (doubleAt l)
theorem hasDbl_true {l : List (Int × Int)} (i : Nat) (hi : i < l.length) (h : doubleAt l i = true) : hasDbl l = true := by
  simp only [hasDbl, List.any_eq_true]; exact ⟨i, by simpa using hi, h⟩
theorem hasDbl_false {l : List (Int × Int)} (h : ∀ i, i < l.length → doubleAt l i = false) : hasDbl l = false := by
  simp only [hasDbl, List.any_eq_false]; intro x hx; rw [h x (by simpa using hx)]; simp
def isSimple (g : Grf) : Bool := isGraph g && !hasDbl g.bars

def GraphAt (w : World) (v : Value) (g : Grf) : Prop := ∃ u, v = .agg #[.int .i64 g.n, u] ∧ PairsAt w u g.bars
theorem GraphAt.below {w w' : World} {v : Value} {g : Grf} (h : GraphAt w v g) (hb : Below w.heap.size w w') : GraphAt w' v g := by
  obtain ⟨u, rfl, h⟩ := h; exact ⟨u, rfl, h.below hb⟩
def PinnedAt (w : World) (v : Value) (p : Pin) : Prop := ∃ u1 u2, v = .agg #[.int .i64 p.g.n, u1, u2] ∧ PairsAt w u1 p.g.bars ∧ IntsAt w u2 p.ground
theorem PinnedAt.below {w w' : World} {v : Value} {p : Pin} (h : PinnedAt w v p) (hb : Below w.heap.size w w') : PinnedAt w' v p := by
  obtain ⟨u1, u2, rfl, h1, h2⟩ := h; exact ⟨u1, u2, rfl, h1.below hb, h2.below hb⟩
def FrameAt (w : World) (v : Value) (f : Frm) : Prop := ∃ u1 u2, v = .agg #[.int .i64 f.g.n, u1, u2] ∧ PairsAt w u1 f.g.bars ∧ PairsAt w u2 f.places
theorem FrameAt.below {w w' : World} {v : Value} {f : Frm} (h : FrameAt w v f) (hb : Below w.heap.size w w') : FrameAt w' v f := by
  obtain ⟨u1, u2, rfl, h1, h2⟩ := h; exact ⟨u1, u2, rfl, h1.below hb, h2.below hb⟩
def LinkageAt (w : World) (v : Value) (l : Lnk) : Prop := ∃ u1 u2 u3, v = .agg #[.int .i64 l.f.g.n, u1, u2, u3] ∧ PairsAt w u1 l.f.g.bars ∧ PairsAt w u2 l.f.places ∧ IntsAt w u3 l.ground
theorem LinkageAt.below {w w' : World} {v : Value} {l : Lnk} (h : LinkageAt w v l) (hb : Below w.heap.size w w') : LinkageAt w' v l := by
  obtain ⟨u1, u2, u3, rfl, h1, h2, h3⟩ := h; exact ⟨u1, u2, u3, rfl, h1.below hb, h2.below hb, h3.below hb⟩
def RaiseAt (w : World) (v : Value) (r : Rse) : Prop := ∃ u, v = .agg #[.int .i64 r.p, u] ∧ IntsAt w u r.bars
theorem RaiseAt.below {w w' : World} {v : Value} {r : Rse} (h : RaiseAt w v r) (hb : Below w.heap.size w w') : RaiseAt w' v r := by
  obtain ⟨u, rfl, h⟩ := h; exact ⟨u, rfl, h.below hb⟩
/-- A slice of raises, read. -/
def RaisesAt (w : World) (v : Value) (l : List Rse) : Prop :=
  l.length ≤ maxLen ∧ ∃ ao cap, v = .slice ao l.length cap ∧ (0 < l.length → ∃ b off, ao = some ⟨b, off, none⟩ ∧ b < w.heap.size ∧
    ∀ i (h : i < l.length), w.cell? ⟨b, off + i * 2, none⟩ = some (.int .i64 l[i].p) ∧ ∃ u, w.cell? ⟨b, off + i * 2 + 1, none⟩ = some u ∧ IntsAt w u l[i].bars)
theorem RaisesAt.below {w w' : World} {v : Value} {l : List Rse} (h : RaisesAt w v l) (hb : Below w.heap.size w w') : RaisesAt w' v l := by
  obtain ⟨hl, ao, cap, rfl, h⟩ := h
  refine ⟨hl, ao, cap, rfl, fun h0 => ?_⟩
  obtain ⟨b, off, rfl, hlt, hc⟩ := h h0
  refine ⟨b, off, rfl, Nat.lt_of_lt_of_le hlt hb.size, fun i hi => ?_⟩
  obtain ⟨h1, u, h2, h3⟩ := hc i hi
  exact ⟨keepw hb h1, u, keepw hb h2, h3.below hb⟩
end Go.Proofs.Ytlmlfbjcpajinaa
