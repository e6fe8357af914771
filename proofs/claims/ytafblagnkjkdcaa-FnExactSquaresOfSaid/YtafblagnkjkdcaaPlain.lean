/- Plain lemmas on values, lists and worlds; no program in sight. -/
import Derived.WalkKit
import Derived.ProofKit
import Derived.Lib.Hide
import Derived.Deep.QuietTactic
namespace Go.Proofs.Ytafblagnkjkdcaa
open Go.RowKit
set_option linter.unusedSimpArgs false
set_option linter.unusedVariables false

theorem ret_bool {a b : Bool} (h : a = b) : Ending.returned (.bool a) = .returned (.bool b) := by rw [h]
theorem ret_int {a b : Int} (h : a = b) : Ending.returned (.int .i64 a) = .returned (.int .i64 b) := by rw [h]

/-- A slice value that reads as a list of ints. -/
def IntsAt (w : World) (v : Value) (l : List Int) : Prop :=
  l.length ≤ maxLen ∧ ∃ ao cap, v = .slice ao l.length cap ∧ (0 < l.length → ∃ b off, ao = some ⟨b, off, none⟩ ∧ b < w.heap.size ∧
    ∀ i (h : i < l.length), w.cell? ⟨b, off + i, none⟩ = some (.int .i64 l[i]))

theorem IntsAt.below {w w' : World} {v : Value} {l : List Int} (h : IntsAt w v l) (hb : Below w.heap.size w w') : IntsAt w' v l := by
  obtain ⟨hl, ao, cap, rfl, h⟩ := h
  refine ⟨hl, ao, cap, rfl, fun h0 => ?_⟩
  obtain ⟨b, off, rfl, hlt, hc⟩ := h h0
  exact ⟨b, off, rfl, Nat.lt_of_lt_of_le hlt hb.size, fun i hi => by rw [hb.cell (p := ⟨b, off + i, none⟩) hlt]; exact hc i hi⟩

/-- A slice value that reads as a list of pairs of ints. -/
def PairsAt (w : World) (v : Value) (l : List (Int × Int)) : Prop :=
  l.length ≤ maxLen ∧ ∃ ao cap, v = .slice ao l.length cap ∧ (0 < l.length → ∃ b off, ao = some ⟨b, off, none⟩ ∧ b < w.heap.size ∧
    ∀ i (h : i < l.length), w.cell? ⟨b, off + i * 2, none⟩ = some (.int .i64 l[i].1) ∧ w.cell? ⟨b, off + i * 2 + 1, none⟩ = some (.int .i64 l[i].2))

theorem PairsAt.below {w w' : World} {v : Value} {l : List (Int × Int)} (h : PairsAt w v l) (hb : Below w.heap.size w w') : PairsAt w' v l := by
  obtain ⟨hl, ao, cap, rfl, h⟩ := h
  refine ⟨hl, ao, cap, rfl, fun h0 => ?_⟩
  obtain ⟨b, off, rfl, hlt, hc⟩ := h h0
  exact ⟨b, off, rfl, Nat.lt_of_lt_of_le hlt hb.size, fun i hi => by rw [hb.cell (p := ⟨b, off + i * 2, none⟩) hlt, hb.cell (p := ⟨b, off + i * 2 + 1, none⟩) hlt]; exact hc i hi⟩

def pcells (l : List (Int × Int)) : List Value := l.flatMap fun p => [.int .i64 p.1, .int .i64 p.2]
theorem pcells_length (l : List (Int × Int)) : (pcells l).length = l.length * 2 := by
  induction l with
  | nil => rfl
  | cons a l ih => simp [pcells] at ih ⊢; omega

theorem pcells_get1 (l : List (Int × Int)) (k : Nat) (h : k < l.length) : (pcells l)[k * 2]? = some (.int .i64 l[k].1) := by
  induction l generalizing k with
  | nil => simp at h
  | cons a l ih =>
    cases k with
    | zero => simp [pcells]
    | succ k => simp only [pcells, List.flatMap_cons, List.cons_append, List.nil_append, show (k + 1) * 2 = k * 2 + 1 + 1 from by omega, List.getElem?_cons_succ, List.getElem_cons_succ]; exact ih k (by simpa using h)
theorem pcells_get2 (l : List (Int × Int)) (k : Nat) (h : k < l.length) : (pcells l)[k * 2 + 1]? = some (.int .i64 l[k].2) := by
  induction l generalizing k with
  | nil => simp at h
  | cons a l ih =>
    cases k with
    | zero => simp [pcells]
    | succ k => simp only [pcells, List.flatMap_cons, List.cons_append, List.nil_append, show (k + 1) * 2 + 1 = k * 2 + 1 + 1 + 1 from by omega, List.getElem?_cons_succ, List.getElem_cons_succ]; exact ih k (by simpa using h)
theorem pcells_set (l : List (Int × Int)) (k : Nat) (p : Int × Int) : pcells (l.set k p) = ((pcells l).set (k * 2) (.int .i64 p.1)).set (k * 2 + 1) (.int .i64 p.2) := by
  induction l generalizing k with
  | nil => simp [pcells]
  | cons a l ih =>
    cases k with
    | zero => simp [pcells]
    | succ k =>
      have := ih k
      simp only [pcells] at this
      simp only [pcells, List.set_cons_succ, List.flatMap_cons, List.cons_append, List.nil_append, this, show (k + 1) * 2 + 1 = k * 2 + 1 + 1 + 1 from by omega, show (k + 1) * 2 = k * 2 + 1 + 1 from by omega]
theorem pcells_replicate (n : Nat) (a : Int) : pcells (List.replicate n (a, a)) = List.replicate (n * 2) (.int .i64 a) := by
  induction n with
  | zero => rfl
  | succ n ih => simp only [pcells] at ih; simp [List.replicate_succ, pcells, ih, Nat.add_mul]
/-- what a loop that fills a made slice holds after k rounds -/
def fillTo {α : Type} (l : List α) (z : α) (k : Nat) : List α := l.take k ++ List.replicate (l.length - k) z
theorem fillTo_length {α : Type} (l : List α) (z : α) (k : Nat) (h : k ≤ l.length) : (fillTo l z k).length = l.length := by simp [fillTo]; omega
theorem fillTo_zero {α : Type} (l : List α) (z : α) : fillTo l z 0 = List.replicate l.length z := by simp [fillTo]
theorem fillTo_full {α : Type} (l : List α) (z : α) : fillTo l z l.length = l := by simp [fillTo]
theorem fillTo_set {α : Type} (l : List α) (z : α) (k : Nat) (h : k < l.length) : (fillTo l z k).set k l[k] = fillTo l z (k + 1) := by
  unfold fillTo
  rw [List.set_append_right _ _ (by simp; omega)]
  have h1 : k - (List.take k l).length = 0 := by simp; omega
  rw [h1, show l.length - k = (l.length - (k + 1)) + 1 from by omega, List.replicate_succ, List.set_cons_zero, List.take_succ_eq_append_getElem h, List.append_assoc]
  rfl

/-- Facts in the walk's own form: what is below reads as it did. -/
theorem bcell {B : Nat} {W w1 : World} (hb : Below B W w1) : (∀ b o, b < B → w1.cell? ⟨b, o, none⟩ = W.cell? ⟨b, o, none⟩) ∧ (∀ b o, b < B → w1.frozen? ⟨b, o, none⟩ = W.frozen? ⟨b, o, none⟩) :=
  ⟨fun b o h => hb.cell (p := ⟨b, o, none⟩) h, fun b o h => hb.frozen (p := ⟨b, o, none⟩) h⟩
theorem own_below {B : Nat} {e : TypeId} {k : Nat} {v : Value} {n : Nat} {xs : List Value} {w w' : World} (h : w.ownsRow B e k v n xs) (hb : Below w.heap.size w w') : w'.ownsRow B e k v n xs := by
  refine ⟨h.1, ?_⟩
  rcases h.2 with hn | ⟨g, cap, cur, rfl, hbg, hg, rest⟩
  · exact .inl hn
  · exact .inr ⟨g, cap, cur, rfl, hbg, (hb.block g (Array.getElem?_eq_some_iff.1 hg).1).trans hg, rest⟩

theorem cell_alloc_new (w : World) (cs : Array Value) (t : TypeId) (j : Nat) : (w.alloc (.cells cs t)).cell? ⟨w.heap.size, j, none⟩ = cs[j]? :=
  cell_of_row _ _ j cs t (0, 0) (heap_alloc_new w _)

/-- A literal list of ints in a new block. -/
theorem IntsAt_lit (w : World) (t : TypeId) (l : List Int) (h : l.length ≤ maxLen) :
    IntsAt (w.alloc (.cells (l.map (Value.int .i64)).toArray t)) (.slice (some ⟨w.heap.size, 0, none⟩) l.length l.length) l :=
  ⟨h, _, _, rfl, fun _ => ⟨_, _, rfl, by simp, fun i hi => by rw [cell_alloc_new]; simp [hi]⟩⟩
theorem mul_bd (a b m n : Int) (ha : 0 ≤ a) (ha' : a ≤ m) (hb : 0 ≤ b) (hb' : b ≤ n) : 0 ≤ a * b ∧ a * b ≤ m * n :=
  ⟨Int.mul_nonneg ha hb, Int.mul_le_mul ha' hb' hb (Int.le_trans ha ha')⟩
theorem keepw {w w' : World} {a : Addr} {v : Value} (hb : Below w.heap.size w w') (hc : w.cell? a = some v) : w'.cell? a = some v :=
  (hb.cell (World.block_lt_of_cell? w a hc)).trans hc
/-- What a region that only makes memory keeps: the walk's form of 'Below'. -/
abbrev Grow (w w' : World) : Prop := (∀ b o, b < w.heap.size → w'.cell? ⟨b, o, none⟩ = w.cell? ⟨b, o, none⟩) ∧ Below w.heap.size w w'
theorem grow_drew (w : World) : Grow w w.drew := ⟨fun _ _ _ => rfl, (Below.refl _ _).drew⟩
theorem grow_trans {w w1 w2 : World} (h : Grow w w1) (hb : Below w1.heap.size w1 w2) : Grow w w2 :=
  have h2 : Below w.heap.size w w2 := h.2.trans (hb.mono h.2.size)
  ⟨(bcell h2).1, h2⟩
theorem bt {w w1 w2 : World} (h : Below w.heap.size w w1) (hb : Below w1.heap.size w1 w2) : Below w.heap.size w w2 := h.trans (hb.mono h.size)

/-- A slice of slices, read: the inner ones by R. -/
def SlicesAt {α : Type} (R : World → Value → α → Prop) (w : World) (v : Value) (l : List α) : Prop :=
  l.length ≤ maxLen ∧ ∃ ao cap, v = .slice ao l.length cap ∧ (0 < l.length → ∃ b off, ao = some ⟨b, off, none⟩ ∧ b < w.heap.size ∧
    ∀ i (h : i < l.length), ∃ u, w.cell? ⟨b, off + i, none⟩ = some u ∧ R w u l[i])
theorem SlicesAt.below' {α : Type} {R : World → Value → α → Prop} (hR : ∀ {w w' : World} {v : Value} {x : α}, R w v x → Below w.heap.size w w' → R w' v x) {w w' : World} {v : Value} {l : List α} (h : SlicesAt R w v l) (hb : Below w.heap.size w w') : SlicesAt R w' v l := by
  obtain ⟨hl, ao, cap, rfl, h⟩ := h
  refine ⟨hl, ao, cap, rfl, fun h0 => ?_⟩
  obtain ⟨b, off, rfl, hlt, hc⟩ := h h0
  refine ⟨b, off, rfl, Nat.lt_of_lt_of_le hlt hb.size, fun i hi => ?_⟩
  obtain ⟨u, hu, hr⟩ := hc i hi
  exact ⟨u, keepw hb hu, hR hr hb⟩
def PairssAt (w : World) (v : Value) (l : List (List (Int × Int))) : Prop := SlicesAt PairsAt w v l
theorem PairssAt.below {w w' : World} {v : Value} {l : List (List (Int × Int))} (h : PairssAt w v l) (hb : Below w.heap.size w w') : PairssAt w' v l := SlicesAt.below' (fun h hb => h.below hb) h hb
def IntssAt (w : World) (v : Value) (l : List (List Int)) : Prop := SlicesAt IntsAt w v l
theorem IntssAt.below {w w' : World} {v : Value} {l : List (List Int)} (h : IntssAt w v l) (hb : Below w.heap.size w w') : IntssAt w' v l := SlicesAt.below' (fun h hb => h.below hb) h hb
theorem icells_get (l : List Int) (k : Nat) (h : k < l.length) : (l.map (Value.int .i64))[k]? = some (.int .i64 l[k]) := by simp [h]
theorem IntsAt_own {w : World} {B : Nat} {e : TypeId} {v : Value} {l : List Int} (h : w.ownsRow B e 1 v l.length (l.map (Value.int .i64))) (hn : l.length ≤ maxLen) : IntsAt w v l := by
  rcases h.2 with ⟨rfl, h0⟩ | ⟨g, cap, cur, rfl, hbg, hg, hrest⟩
  · exact ⟨hn, none, 0, by rw [h0], fun h => by omega⟩
  · have hgs := (Array.getElem?_eq_some_iff.1 hg).1
    exact ⟨hn, _, cap, rfl, fun _ => ⟨g, 0, rfl, hgs, fun i hi => by rw [Nat.zero_add, h.cellAt i (by omega), icells_get l i hi]⟩⟩
theorem PairsAt_own {w : World} {B : Nat} {e : TypeId} {v : Value} {l : List (Int × Int)} (h : w.ownsRow B e 2 v l.length (pcells l)) (hn : l.length ≤ maxLen) : PairsAt w v l := by
  rcases h.2 with ⟨rfl, h0⟩ | ⟨g, cap, cur, rfl, hbg, hg, hrest⟩
  · exact ⟨hn, none, 0, by rw [h0], fun h => by omega⟩
  · have hgs := (Array.getElem?_eq_some_iff.1 hg).1
    exact ⟨hn, _, cap, rfl, fun _ => ⟨g, 0, rfl, hgs, fun i hi => ⟨by
      rw [Nat.zero_add, h.cellAt (i * 2) (by omega), pcells_get1 l i hi], by
      rw [Nat.zero_add, h.cellAt (i * 2 + 1) (by omega), pcells_get2 l i hi]⟩⟩⟩

/-! ### owned rows, stores, marks -/
theorem own_mono {w : World} {base base' : Nat} {e : TypeId} {size : Nat} {v : Value} {n : Nat} {xs : List Value} (h : w.ownsRow base e size v n xs) (hb : base' ≤ base) : w.ownsRow base' e size v n xs := by
  refine ⟨h.1, ?_⟩
  rcases h.2 with h2 | ⟨g, cap, cur, hv, hg, r⟩
  · exact Or.inl h2
  · exact Or.inr ⟨g, cap, cur, hv, Nat.le_trans hb hg, r⟩
theorem own_setLow {w : World} {base : Nat} {e : TypeId} {size : Nat} {v : Value} {n : Nat} {xs : List Value} (h : w.ownsRow base e size v n xs) {a : Addr} (ha : a.block < base) (u : Value) : (w.setCell a u).ownsRow base e size v n xs := by
  obtain ⟨h1, h2⟩ := h
  refine ⟨h1, ?_⟩
  rcases h2 with h2 | ⟨g, cap, cur, hv, hg, hh, r⟩
  · exact Or.inl h2
  · exact Or.inr ⟨g, cap, cur, hv, hg, by rw [Below.heap_setCell _ _ _ _ (by omega)]; exact hh, r⟩
theorem grownBy_refl (w : World) (row : Option Nat) : w.grownBy w row := ⟨rfl, rfl, rfl, Nat.le_refl _, fun _ _ _ => rfl⟩
theorem grownBy_trans {w w1 w2 : World} {row : Option Nat} (h : w.grownBy w1 row) (h2 : w1.grownBy w2 row) : w.grownBy w2 row :=
  ⟨h2.os.trans h.os, h2.tape.trans h.tape, h2.output.trans h.output, Nat.le_trans h.size h2.size, fun k hk hr => (h2.block k (Nat.lt_of_lt_of_le hk h.size) hr).trans (h.block k hk hr)⟩
/-- The value of an owned row has a slice's form. -/
theorem own_form {w : World} {base size n : Nat} {e : TypeId} {v : Value} {xs : List Value} (h : w.ownsRow base e size v n xs) : (v = .slice none 0 0 ∧ n = 0) ∨ ∃ g cap, v = .slice (some ⟨g, 0, none⟩) n cap ∧ base ≤ g ∧ g < w.heap.size := by
  rcases h.2 with h2 | ⟨g, cap, cur, hv, hg, hh, _⟩
  · exact .inl h2
  · exact .inr ⟨g, cap, hv, hg, (Array.getElem?_eq_some_iff.1 hh).1⟩
/-- The numbers from k on. -/
def numsFrom (k : Int) (n : Nat) : List Int := (List.range n).map fun i => k + (i : Nat)
theorem numsFrom_length (k : Int) (n : Nat) : (numsFrom k n).length = n := by simp [numsFrom]
theorem numsFrom_succ (k : Int) (n : Nat) : numsFrom k (n + 1) = numsFrom k n ++ [k + n] := by simp [numsFrom, List.range_succ]
theorem numsFrom_get (k : Int) (n i : Nat) (h : i < (numsFrom k n).length) : (numsFrom k n)[i] = k + i := by simp [numsFrom]
def markTo {α : Type} (f : Nat → List α) (l : List α) (j : Nat) : List α := f j ++ l.drop j
theorem markTo_set {α : Type} (f : Nat → List α) (hl : ∀ n, (f n).length = n) (l : List α) (j : Nat) (x : α) (hs : f (j + 1) = f j ++ [x]) (h : j < l.length) : (markTo f l j).set j x = markTo f l (j + 1) := by
  unfold markTo
  rw [List.set_append_right _ _ (by rw [hl]; exact Nat.le_refl _), hl, Nat.sub_self, List.drop_eq_getElem_cons h, List.set_cons_zero, hs, List.append_assoc]
  rfl
theorem markTo_length {α : Type} (f : Nat → List α) (hl : ∀ n, (f n).length = n) (l : List α) (j : Nat) (h : j ≤ l.length) : (markTo f l j).length = l.length := by
  simp [markTo, hl]; omega
/-- Pairs of consecutive numbers. -/
def pairsFrom (k : Int) (n : Nat) : List (Int × Int) := (List.range n).map fun i => (k + 2 * (i : Nat), k + 2 * (i : Nat) + 1)
theorem pairsFrom_length (k : Int) (n : Nat) : (pairsFrom k n).length = n := by simp [pairsFrom]
theorem pairsFrom_succ (k : Int) (n : Nat) : pairsFrom k (n + 1) = pairsFrom k n ++ [(k + 2 * n, k + 2 * n + 1)] := by simp [pairsFrom, List.range_succ]
theorem pairsFrom_get (k : Int) (n i : Nat) (h : i < (pairsFrom k n).length) : (pairsFrom k n)[i] = (k + 2 * i, k + 2 * i + 1) := by simp [pairsFrom]
theorem toList_madeCells_one' (z : Value) (n : Nat) : (madeCells #[z] n).toList = List.replicate n z := toList_madeCells_one z n
theorem toList_madeCells_two (z : Value) (n : Nat) : (madeCells #[z, z] n).toList = List.replicate n z := by
  apply List.ext_getElem?
  intro j
  by_cases hj : j < n
  · rcases Nat.mod_two_eq_zero_or_one j with h | h <;> simp [madeCells, hj, h]
  · simp [madeCells, hj]
/-- Pairs of numbers are equal (hidden from the walk). -/
def peqB (x y u v : Int) : Bool := x == u && y == v
theorem peqB_true {x y u v : Int} (h : peqB x y u v = true) : (x, y) = (u, v) := by simpa [peqB] using h
theorem peqB_false {x y u v : Int} (h : peqB x y u v = false) : (x, y) ≠ (u, v) := by
  intro h'; simp at h'; simp [peqB, h'.1, h'.2] at h
theorem peqB_eq (p q : Int × Int) : peqB p.1 p.2 q.1 q.2 = (p == q) := by
  cases h : peqB p.1 p.2 q.1 q.2
  · symm; rw [beq_eq_false_iff_ne]; exact peqB_false h
  · symm; rw [beq_iff_eq]; exact peqB_true h
theorem len_ne_false {m n : Nat} (h : m = n) : ((m : Int) != (n : Int)) = false := by subst h; simp
theorem len_ne_true {m n : Nat} (h : m ≠ n) : ((m : Int) != (n : Int)) = true := by simp; omega
theorem len_eq_false {m n : Nat} (h : m ≠ n) : ((m : Int) == (n : Int)) = false := by simp; omega
theorem len_eq_true {m n : Nat} (h : m = n) : ((m : Int) == (n : Int)) = true := by subst h; simp
theorem beq_false_of {α : Type} [BEq α] [LawfulBEq α] {a b : α} (h : a ≠ b) : (a == b) = false := by rw [beq_eq_false_iff_ne]; exact h
/-- Two lists that agree up to k agree up to k + 1. -/
theorem take_eq_succ {α : Type} {l1 l2 : List α} {k : Nat} (h1 : k < l1.length) (h2 : k < l2.length) (h : l1.take k = l2.take k) (he : l1[k] = l2[k]) : l1.take (k + 1) = l2.take (k + 1) := by
  rw [List.take_succ_eq_append_getElem h1, List.take_succ_eq_append_getElem h2, h, he]
theorem eq_of_take {α : Type} {l1 l2 : List α} {k : Nat} (h1 : k = l1.length) (hl : l1.length = l2.length) (h : l1.take k = l2.take k) : l1 = l2 := by
  rw [h1, List.take_length, hl, List.take_length] at h; exact h
theorem ne_of_get {α : Type} {l1 l2 : List α} {k : Nat} (h1 : k < l1.length) (h2 : k < l2.length) (he : l1[k] ≠ l2[k]) : l1 ≠ l2 := by
  intro h; subst h; exact he rfl
theorem below_dN {B : Nat} {a w : World} (h : Below B a w) (n : Nat) : Below B a (w.drewN n) := ⟨h.os, h.tape, h.output, h.size, h.block⟩

end Go.Proofs.Ytafblagnkjkdcaa
