/- Appends of one element onto a row of the call's own. No program in sight. -/
import Derived.Test.YtafblagnkjkdcaaHeap
namespace Go.Proofs.Ytafblagnkjkdcaa
open Go.RowKit
set_option linter.unusedSimpArgs false
set_option linter.unusedVariables false
section
variable {P : Program} {ops : Array Oper} {rest : List Oper} {o : Oper} {a : Act} {Q : Exit → Act → World → Prop}

theorem wpList_app1 (W : World) (cs : Array Value) (ec : TypeId) (hgd : o.guard = none) (s x : Operand) (t : TypeId)
    (ho : o.op = .call { callee := .builtin .append, args := #[s, x], argTypes := #[t, t] })
    (base : Nat) (e : TypeId) (i : TypeInfo) (z : Value) (size bytes : Nat) (ht : P.underlying t = some (.slice e)) (hi : P.info? e = some i) (hz : i.zero = some z)
    (hsize : i.size = size) (hby : i.bytes = bytes) (hzs : z.cells.size = size) (hsz : 0 < size)
    (v : Value) (n : Nat) (xs : List Value) (hs : a.eval s = v) (hown : W.ownsRow base e size v n xs)
    (hx : a.eval x = .slice (some ⟨W.heap.size, 0, none⟩) 1 1) (hcs : cs.size = size) (h1 : ∀ u ∈ cs.toList, u.oneCell' = true)
    (h63 : n + 1 ≤ maxLen) (hbytes : (n + 1) * bytes ≤ 140737488355328) (hbase : base ≤ W.heap.size)
    (h : ∀ v' w', w'.ownsRow base e size v' (n + 1) (xs ++ cs.toList) → W.grownBy w' v.ownBlock → wpList P ops Q rest (a.put o.dst v') w') : wpList P ops Q (o :: rest) a (W.alloc (.cells cs ec)) := by
  refine wpList_append_own _ hgd s x t ho base e i z size bytes ht hi hz hsize hby hzs hsz v n xs hs (hown.alloc _) ⟨W.heap.size, 0, none⟩ 1 1 cs.toList hx (by simpa using hcs) ?_ h1 h63 hbytes (Nat.le_trans hbase (by simp)) ?_
  · intro j u hj
    rw [Addr.add_lit, Nat.zero_add, cell_alloc_new]
    simpa using hj
  · intro v' w' h2 h3 _
    exact h v' w' h2 (grownBy_trans (World.grownBy_alloc W _ _) h3)

/-- one int more -/
theorem wpList_appI (W : World) (x : Int) (ec : TypeId) (hgd : o.guard = none) (s y : Operand) (t : TypeId)
    (ho : o.op = .call { callee := .builtin .append, args := #[s, y], argTypes := #[t, t] })
    (base : Nat) (e : TypeId) (i : TypeInfo) (ht : P.underlying t = some (.slice e)) (hi : P.info? e = some i) (hz : i.zero = some (.int .i64 0))
    (hsize : i.size = 1) (hby : i.bytes = 8)
    (v : Value) (l : List Int) (hs : a.eval s = v) (hown : W.ownsRow base e 1 v l.length (l.map (Value.int .i64)))
    (hx : a.eval y = .slice (some ⟨W.heap.size, 0, none⟩) 1 1)
    (hn : l.length ≤ 8589934592) (hbase : base ≤ W.heap.size)
    (h : ∀ v' w', w'.ownsRow base e 1 v' (l ++ [x]).length ((l ++ [x]).map (Value.int .i64)) → W.grownBy w' v.ownBlock → wpList P ops Q rest (a.put o.dst v') w') : wpList P ops Q (o :: rest) a (W.alloc (.cells #[.int .i64 x] ec)) := by
  refine wpList_app1 W _ ec hgd s y t ho base e i _ 1 8 ht hi hz hsize hby rfl (by decide) v l.length _ hs hown hx rfl (by intro u hu; simp at hu; subst hu; rfl) (by unfold maxLen; omega) (by omega) hbase ?_
  intro v' w' h2 h3
  exact h v' w' (by simpa using h2) h3

/-- the same inside a region that draws -/
theorem wp_appI {K : Act → World → Prop} (W : World) (x : Int) (ec : TypeId) (s y : Operand) (t : TypeId)
    (ho : o.op = .call { callee := .builtin .append, args := #[s, y], argTypes := #[t, t] })
    (base : Nat) (e : TypeId) (i : TypeInfo) (ht : P.underlying t = some (.slice e)) (hi : P.info? e = some i) (hz : i.zero = some (.int .i64 0))
    (hsize : i.size = 1) (hby : i.bytes = 8)
    (v : Value) (l : List Int) (hs : a.eval s = v) (hown : W.ownsRow base e 1 v l.length (l.map (Value.int .i64)))
    (hx : a.eval y = .slice (some ⟨W.heap.size, 0, none⟩) 1 1)
    (hn : l.length ≤ 8589934592) (hbase : base ≤ W.heap.size)
    (h : ∀ v' w', w'.ownsRow base e 1 v' (l ++ [x]).length ((l ++ [x]).map (Value.int .i64)) → W.grownBy w' v.ownBlock → K (a.put o.dst v') w') : o.wp P a (W.alloc (.cells #[.int .i64 x] ec)) K Q := by
  refine wp_append_own _ s y t ho base e i _ 1 8 ht hi hz hsize hby rfl (by decide) v l.length _ hs (hown.alloc _) ⟨W.heap.size, 0, none⟩ 1 1 [.int .i64 x] hx rfl ?_ (by intro u hu; simp at hu; subst hu; rfl) (by unfold maxLen; omega) (by omega) (Nat.le_trans hbase (by simp)) ?_
  · intro j u hj
    rw [Addr.add_lit, Nat.zero_add, cell_alloc_new]
    simpa using hj
  · intro v' w' h2 h3 _
    exact h v' w' (by simpa using h2) (grownBy_trans (World.grownBy_alloc W _ _) h3)

theorem pcells_append (l m : List (Int × Int)) : pcells (l ++ m) = pcells l ++ pcells m := by simp [pcells]
/-- one pair more -/
theorem wpList_appP (W : World) (x y : Int) (ec : TypeId) (hgd : o.guard = none) (s z : Operand) (t : TypeId)
    (ho : o.op = .call { callee := .builtin .append, args := #[s, z], argTypes := #[t, t] })
    (base : Nat) (e : TypeId) (i : TypeInfo) (ht : P.underlying t = some (.slice e)) (hi : P.info? e = some i) (hz : i.zero = some (.agg #[.int .i64 0, .int .i64 0]))
    (hsize : i.size = 2) (hby : i.bytes = 16)
    (v : Value) (l : List (Int × Int)) (hs : a.eval s = v) (hown : W.ownsRow base e 2 v l.length (pcells l))
    (hx : a.eval z = .slice (some ⟨W.heap.size, 0, none⟩) 1 1)
    (hn : l.length ≤ 4294967296) (hbase : base ≤ W.heap.size)
    (h : ∀ v' w', w'.ownsRow base e 2 v' (l ++ [(x, y)]).length (pcells (l ++ [(x, y)])) → W.grownBy w' v.ownBlock → wpList P ops Q rest (a.put o.dst v') w') : wpList P ops Q (o :: rest) a (W.alloc (.cells #[.int .i64 x, .int .i64 y] ec)) := by
  refine wpList_app1 W _ ec hgd s z t ho base e i _ 2 16 ht hi hz hsize hby rfl (by decide) v l.length _ hs hown hx rfl (by intro u hu; simp at hu; rcases hu with rfl | rfl <;> rfl) (by unfold maxLen; omega) (by omega) hbase ?_
  intro v' w' h2 h3
  exact h v' w' (by rw [pcells_append]; simpa [pcells] using h2) h3

/-- one slice more, onto a slice of slices -/
theorem wpList_appV (W : World) (u : Value) (ec : TypeId) (hgd : o.guard = none) (s z : Operand) (t : TypeId)
    (ho : o.op = .call { callee := .builtin .append, args := #[s, z], argTypes := #[t, t] })
    (base : Nat) (e : TypeId) (i : TypeInfo) (ht : P.underlying t = some (.slice e)) (hi : P.info? e = some i) (hz : i.zero = some (.slice none 0 0))
    (hsize : i.size = 1) (hby : i.bytes = 24)
    (v : Value) (us : List Value) (hs : a.eval s = v) (hown : W.ownsRow base e 1 v us.length us)
    (hx : a.eval z = .slice (some ⟨W.heap.size, 0, none⟩) 1 1) (hu : u.oneCell' = true)
    (hn : us.length ≤ 4294967296) (hbase : base ≤ W.heap.size)
    (h : ∀ v' w', w'.ownsRow base e 1 v' (us ++ [u]).length (us ++ [u]) → W.grownBy w' v.ownBlock → wpList P ops Q rest (a.put o.dst v') w') : wpList P ops Q (o :: rest) a (W.alloc (.cells #[u] ec)) := by
  refine wpList_app1 W _ ec hgd s z t ho base e i _ 1 24 ht hi hz hsize hby rfl (by decide) v us.length _ hs hown hx rfl (by intro y hy; simp at hy; subst hy; exact hu) (by unfold maxLen; omega) (by omega) hbase ?_
  intro v' w' h2 h3
  exact h v' w' (by simpa using h2) h3
end
/-- Below the base nothing has turned. -/
theorem below_grown {w0 W w' : World} {v : Value} {base : Nat} {e : TypeId} {size n : Nat} {xs : List Value} (h : Below w0.heap.size w0 W) (hown : W.ownsRow base e size v n xs) (hb : w0.heap.size ≤ base) (hg : W.grownBy w' v.ownBlock) : Below w0.heap.size w0 w' :=
  h.grown hg h.size (fun k hk => Nat.le_trans hb (hown.lt k hk).1)
end Go.Proofs.Ytafblagnkjkdcaa
