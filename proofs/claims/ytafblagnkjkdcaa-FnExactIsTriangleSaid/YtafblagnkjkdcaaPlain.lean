/- Plain lemmas on values, lists and worlds; no program in sight. -/
import Derived.WalkKit
import Derived.ProofKit
import Derived.Lib.Hide
namespace Go.Proofs.Ytafblagnkjkdcaa
open Go.RowKit
set_option linter.unusedSimpArgs false
set_option linter.unusedVariables false

theorem ret_bool {a b : Bool} (h : a = b) : Ending.returned (.bool a) = .returned (.bool b) := by rw [h]
theorem ret_int {a b : Int} (h : a = b) : Ending.returned (.int .i64 a) = .returned (.int .i64 b) := by rw [h]

/-- A slice value that reads as a list of ints. -/
def IntsAt (w : World) (v : Value) (l : List Int) : Prop :=
  l.length ≤ maxLen ∧ ∃ ao cap, v = .slice ao l.length cap ∧ (0 < l.length → ∃ b off, ao = some ⟨b, off, none⟩ ∧ b < w.heap.size ∧
    ∀ i (h : i < l.length), w.cell? ⟨b, off + i, none⟩ = some (.int .i64 l[i]))

theorem IntsAt.below {w w' : World} {v : Value} {l : List Int} (h : IntsAt w v l) (hb : Below w.heap.size w w') : IntsAt w' v l := by
  obtain ⟨hl, ao, cap, rfl, h⟩ := h
  refine ⟨hl, ao, cap, rfl, fun h0 => ?_⟩
  obtain ⟨b, off, rfl, hlt, hc⟩ := h h0
  exact ⟨b, off, rfl, Nat.lt_of_lt_of_le hlt hb.size, fun i hi => by rw [hb.cell (p := ⟨b, off + i, none⟩) hlt]; exact hc i hi⟩

/-- A slice value that reads as a list of pairs of ints. -/
def PairsAt (w : World) (v : Value) (l : List (Int × Int)) : Prop :=
  l.length ≤ maxLen ∧ ∃ ao cap, v = .slice ao l.length cap ∧ (0 < l.length → ∃ b off, ao = some ⟨b, off, none⟩ ∧ b < w.heap.size ∧
    ∀ i (h : i < l.length), w.cell? ⟨b, off + i * 2, none⟩ = some (.int .i64 l[i].1) ∧ w.cell? ⟨b, off + i * 2 + 1, none⟩ = some (.int .i64 l[i].2))

theorem PairsAt.below {w w' : World} {v : Value} {l : List (Int × Int)} (h : PairsAt w v l) (hb : Below w.heap.size w w') : PairsAt w' v l := by
  obtain ⟨hl, ao, cap, rfl, h⟩ := h
  refine ⟨hl, ao, cap, rfl, fun h0 => ?_⟩
  obtain ⟨b, off, rfl, hlt, hc⟩ := h h0
  exact ⟨b, off, rfl, Nat.lt_of_lt_of_le hlt hb.size, fun i hi => by rw [hb.cell (p := ⟨b, off + i * 2, none⟩) hlt, hb.cell (p := ⟨b, off + i * 2 + 1, none⟩) hlt]; exact hc i hi⟩

def pcells (l : List (Int × Int)) : List Value := l.flatMap fun p => [.int .i64 p.1, .int .i64 p.2]
theorem pcells_length (l : List (Int × Int)) : (pcells l).length = l.length * 2 := by
  induction l with
  | nil => rfl
  | cons a l ih => simp [pcells] at ih ⊢; omega

theorem pcells_get1 (l : List (Int × Int)) (k : Nat) (h : k < l.length) : (pcells l)[k * 2]? = some (.int .i64 l[k].1) := by
  induction l generalizing k with
  | nil => simp at h
  | cons a l ih =>
    cases k with
    | zero => simp [pcells]
    | succ k => simp only [pcells, List.flatMap_cons, List.cons_append, List.nil_append, show (k + 1) * 2 = k * 2 + 1 + 1 from by omega, List.getElem?_cons_succ, List.getElem_cons_succ]; exact ih k (by simpa using h)
theorem pcells_get2 (l : List (Int × Int)) (k : Nat) (h : k < l.length) : (pcells l)[k * 2 + 1]? = some (.int .i64 l[k].2) := by
  induction l generalizing k with
  | nil => simp at h
  | cons a l ih =>
    cases k with
    | zero => simp [pcells]
    | succ k => simp only [pcells, List.flatMap_cons, List.cons_append, List.nil_append, show (k + 1) * 2 + 1 = k * 2 + 1 + 1 + 1 from by omega, List.getElem?_cons_succ, List.getElem_cons_succ]; exact ih k (by simpa using h)
theorem pcells_set (l : List (Int × Int)) (k : Nat) (p : Int × Int) : pcells (l.set k p) = ((pcells l).set (k * 2) (.int .i64 p.1)).set (k * 2 + 1) (.int .i64 p.2) := by
  induction l generalizing k with
  | nil => simp [pcells]
  | cons a l ih =>
    cases k with
    | zero => simp [pcells]
    | succ k =>
      have := ih k
      simp only [pcells] at this
      simp only [pcells, List.set_cons_succ, List.flatMap_cons, List.cons_append, List.nil_append, this, show (k + 1) * 2 + 1 = k * 2 + 1 + 1 + 1 from by omega, show (k + 1) * 2 = k * 2 + 1 + 1 from by omega]
theorem pcells_replicate (n : Nat) (a : Int) : pcells (List.replicate n (a, a)) = List.replicate (n * 2) (.int .i64 a) := by
  induction n with
  | zero => rfl
  | succ n ih => simp only [pcells] at ih; simp [List.replicate_succ, pcells, ih, Nat.add_mul]
/-- what a loop that fills a made slice holds after k rounds -/
def fillTo {α : Type} (l : List α) (z : α) (k : Nat) : List α := l.take k ++ List.replicate (l.length - k) z
theorem fillTo_length {α : Type} (l : List α) (z : α) (k : Nat) (h : k ≤ l.length) : (fillTo l z k).length = l.length := by simp [fillTo]; omega
theorem fillTo_zero {α : Type} (l : List α) (z : α) : fillTo l z 0 = List.replicate l.length z := by simp [fillTo]
theorem fillTo_full {α : Type} (l : List α) (z : α) : fillTo l z l.length = l := by simp [fillTo]
theorem fillTo_set {α : Type} (l : List α) (z : α) (k : Nat) (h : k < l.length) : (fillTo l z k).set k l[k] = fillTo l z (k + 1) := by
  unfold fillTo
  rw [List.set_append_right _ _ (by simp; omega)]
  have h1 : k - (List.take k l).length = 0 := by simp; omega
  rw [h1, show l.length - k = (l.length - (k + 1)) + 1 from by omega, List.replicate_succ, List.set_cons_zero, List.take_succ_eq_append_getElem h, List.append_assoc]
  rfl

/-- Facts in the walk's own form: what is below reads as it did. -/
theorem bcell {B : Nat} {W w1 : World} (hb : Below B W w1) : (∀ b o, b < B → w1.cell? ⟨b, o, none⟩ = W.cell? ⟨b, o, none⟩) ∧ (∀ b o, b < B → w1.frozen? ⟨b, o, none⟩ = W.frozen? ⟨b, o, none⟩) :=
  ⟨fun b o h => hb.cell (p := ⟨b, o, none⟩) h, fun b o h => hb.frozen (p := ⟨b, o, none⟩) h⟩
theorem own_below {B : Nat} {e : TypeId} {k : Nat} {v : Value} {n : Nat} {xs : List Value} {w w' : World} (h : w.ownsRow B e k v n xs) (hb : Below w.heap.size w w') : w'.ownsRow B e k v n xs := by
  refine ⟨h.1, ?_⟩
  rcases h.2 with hn | ⟨g, cap, cur, rfl, hbg, hg, rest⟩
  · exact .inl hn
  · exact .inr ⟨g, cap, cur, rfl, hbg, (hb.block g (Array.getElem?_eq_some_iff.1 hg).1).trans hg, rest⟩

theorem cell_alloc_new (w : World) (cs : Array Value) (t : TypeId) (j : Nat) : (w.alloc (.cells cs t)).cell? ⟨w.heap.size, j, none⟩ = cs[j]? :=
  cell_of_row _ _ j cs t (0, 0) (heap_alloc_new w _)

/-- A literal list of ints in a new block. -/
theorem IntsAt_lit (w : World) (t : TypeId) (l : List Int) (h : l.length ≤ maxLen) :
    IntsAt (w.alloc (.cells (l.map (Value.int .i64)).toArray t)) (.slice (some ⟨w.heap.size, 0, none⟩) l.length l.length) l :=
  ⟨h, _, _, rfl, fun _ => ⟨_, _, rfl, by simp, fun i hi => by rw [cell_alloc_new]; simp [hi]⟩⟩
theorem mul_bd (a b m n : Int) (ha : 0 ≤ a) (ha' : a ≤ m) (hb : 0 ≤ b) (hb' : b ≤ n) : 0 ≤ a * b ∧ a * b ≤ m * n :=
  ⟨Int.mul_nonneg ha hb, Int.mul_le_mul ha' hb' hb (Int.le_trans ha ha')⟩
theorem keepw {w w' : World} {a : Addr} {v : Value} (hb : Below w.heap.size w w') (hc : w.cell? a = some v) : w'.cell? a = some v :=
  (hb.cell (World.block_lt_of_cell? w a hc)).trans hc
/-- What a region that only makes memory keeps: the walk's form of 'Below'. -/
abbrev Grow (w w' : World) : Prop := (∀ b o, b < w.heap.size → w'.cell? ⟨b, o, none⟩ = w.cell? ⟨b, o, none⟩) ∧ Below w.heap.size w w'
theorem grow_drew (w : World) : Grow w w.drew := ⟨fun _ _ _ => rfl, (Below.refl _ _).drew⟩
theorem grow_trans {w w1 w2 : World} (h : Grow w w1) (hb : Below w1.heap.size w1 w2) : Grow w w2 :=
  have h2 : Below w.heap.size w w2 := h.2.trans (hb.mono h.2.size)
  ⟨(bcell h2).1, h2⟩
theorem bt {w w1 w2 : World} (h : Below w.heap.size w w1) (hb : Below w1.heap.size w1 w2) : Below w.heap.size w w2 := h.trans (hb.mono h.size)
end Go.Proofs.Ytafblagnkjkdcaa
