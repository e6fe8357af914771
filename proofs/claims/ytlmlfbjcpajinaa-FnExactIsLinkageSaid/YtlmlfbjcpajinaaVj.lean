/- The rules for rows: made, appended to, given away. No program in sight. -/
import Derived.Test.YtlmlfbjcpajinaaVi
import Derived.Laws.MakeOwn
namespace Go.Proofs.Ytlmlfbjcpajinaa
open Go.RowKit Go.Deep
set_option linter.unusedSimpArgs false
set_option linter.unusedVariables false

theorem foldl_set (cs : List Value) : ∀ (k off : Nat) (a : Array Value), off + k + cs.length ≤ a.size →
    ((cs.zipIdx k).foldl (fun a (p : Value × Nat) => a.setIfInBounds (off + p.2) p.1) a).toList = a.toList.take (off + k) ++ cs ++ a.toList.drop (off + k + cs.length) := by
  induction cs with
  | nil => intro k off a h; simp
  | cons c cs ih =>
    intro k off a h
    simp only [List.zipIdx_cons, List.foldl_cons]
    rw [ih (k + 1) off _ (by simp at h ⊢; omega)]
    simp only [Array.toList_setIfInBounds, List.length_cons]
    have hlt : off + k < a.toList.length := by simp at h ⊢; omega
    rw [show off + (k + 1) = (off + k) + 1 from by omega]
    rw [List.take_succ_eq_append_getElem (by simpa using hlt)]
    rw [List.getElem_set_self, List.take_set_of_le (Nat.le_refl _), List.drop_set_of_lt (by omega)]
    simp only [List.append_assoc, List.cons_append, List.nil_append]
    rw [show off + k + 1 + cs.length = off + k + (cs.length + 1) from by omega]

def idxL : Nat → List Value → List (Nat × Value)
  | _, [] => []
  | i, v :: l => (i, v) :: idxL (i + 1) l
theorem fill_all (sz : Nat) : ∀ (vs : List Value) (i : Nat) (cells : Array Value), (∀ v ∈ vs, v.cells.size = sz) → cells.size = (i + vs.length) * sz →
    (Instr.fill (fun i => some (i * sz, sz)) cells (idxL i vs)) = some (cells.toList.take (i * sz) ++ vs.flatMap (fun v => v.cells.toList)).toArray
  | [], i, cells, _, hs => by
    simp only [idxL, Instr.fill, List.flatMap_nil, List.append_nil]
    rw [List.take_of_length_le (by simp at hs ⊢; omega)]
  | v :: vs, i, cells, hv, hs => by
    have hv0 := hv v (by simp)
    simp only [List.length_cons] at hs
    have hle : i * sz + sz ≤ cells.size := by
      rw [hs]
      have : (i + 1) * sz ≤ (i + (vs.length + 1)) * sz := Nat.mul_le_mul_right _ (by omega)
      rw [Nat.add_mul, Nat.one_mul] at this; exact this
    have hf := foldl_set v.cells.toList 0 (i * sz) cells (by simp [hv0]; omega)
    simp only [Nat.add_zero, Array.length_toList, hv0] at hf
    have hfa : v.cells.zipIdx.foldl (fun cs (p : Value × Nat) => cs.setIfInBounds (i * sz + p.2) p.1) cells = (cells.toList.take (i * sz) ++ v.cells.toList ++ cells.toList.drop (i * sz + sz)).toArray := by
      rw [← Array.toList_inj, ← hf, ← Array.foldl_toList, Array.toList_zipIdx]
    simp only [idxL, Instr.fill]
    rw [if_neg (by simp [hv0]; omega)]
    have hfa' : (Array.foldl (fun cs (x : Value × Nat) => match x with | (c, j) => cs.setIfInBounds (i * sz + j) c) cells v.cells.zipIdx) = (cells.toList.take (i * sz) ++ v.cells.toList ++ cells.toList.drop (i * sz + sz)).toArray := hfa
    rw [hfa']
    have hlen : (cells.toList.take (i * sz) ++ v.cells.toList).length = (i + 1) * sz := by simp [hv0, Nat.add_mul]; omega
    rw [fill_all sz vs (i + 1) _ (fun x hx => hv x (by simp [hx])) (by
      simp only [List.size_toArray, List.length_append, List.length_take, List.length_drop, Array.length_toList, hv0, hs]
      have h3 : (i + 1 + vs.length) * sz = (i + (vs.length + 1)) * sz := by congr 1; omega
      rw [h3]; omega)]
    congr 2
    rw [List.flatMap_cons, ← List.append_assoc]
    congr 1
    rw [← hlen, List.take_left]

def getInt : D → Option Int | .int n => some n | _ => none
def getBool : D → Option Bool | .bool b => some b | _ => none
def getPair : D → Option (Int × Int) | .agg [.int a, .int b] => some (a, b) | _ => none
def getInts : D → Option (List Int) | .ro true (.ints l) => some l | _ => none
def getPairs : D → Option (List (Int × Int)) | .ro true (.pairs l) => some l | _ => none
def getBools : D → Option (List Bool) | .ro true (.bools l) => some l | _ => none
def getRaise : D → Option (Int × List Int) | .agg [.int a, .ro true (.ints l)] => some (a, l) | _ => none
def getStr : D → Option ByteArray | .val (.string s) => some s | _ => none
def mapO {α : Type} (f : D → Option α) : List D → Option (List α)
  | [] => some []
  | d :: l => match f d, mapO f l with | some x, some m => some (x :: m) | _, _ => none
theorem mapO_ok {α : Type} {f : D → Option α} : ∀ {l : List D} {m : List α}, mapO f l = some m → m.length = l.length ∧ ∀ (i : Nat) (d : D), l[i]? = some d → ∃ x, m[i]? = some x ∧ f d = some x
  | [], m, h => by simp [mapO] at h; subst h; simp
  | d :: l, m, h => by
    simp only [mapO] at h
    split at h
    case h_2 => cases h
    rename_i x m' h1 h2
    cases h
    obtain ⟨a1, a2⟩ := mapO_ok h2
    refine ⟨by simp [a1], fun i d' hd => ?_⟩
    cases i with
    | zero => simp at hd; subst hd; exact ⟨x, rfl, h1⟩
    | succ i => simpa using a2 i d' (by simpa using hd)
def Sq.ofL : Sq → List D → Option Sq
  | .ints _, l => (mapO getInt l).map .ints | .bools _, l => (mapO getBool l).map .bools | .pairs _, l => (mapO getPair l).map .pairs | .intss _, l => (mapO getInts l).map .intss
  | .pairss _, l => (mapO getPairs l).map .pairss | .boolss _, l => (mapO getBools l).map .boolss | .raises _, l => (mapO getRaise l).map .raises | .strs _, l => (mapO getStr l).map .strs
theorem Sq.ofL_ok {k q : Sq} {l : List D} (h : k.ofL l = some q) : q.len = l.length ∧ q.sz = k.sz ∧ ∀ i d, l[i]? = some d → d.flat = true ∧ d.cells = q.elem true i := by
  cases k <;> simp only [Sq.ofL] at h <;> obtain ⟨m, hm, rfl⟩ := Option.map_eq_some_iff.1 h <;> obtain ⟨h1, h2⟩ := mapO_ok hm <;> refine ⟨h1, rfl, fun i d hd => ?_⟩ <;> obtain ⟨x, h3, h4⟩ := h2 i d hd
  · cases d <;> simp [getInt] at h4; subst h4; exact ⟨rfl, by simp [D.cells, Sq.elem, h3]⟩
  · unfold getPair at h4; split at h4 <;> simp at h4; subst h4; exact ⟨rfl, by simp [D.cells, Sq.elem, h3]⟩
  · cases d <;> simp [getBool] at h4; subst h4; exact ⟨rfl, by simp [D.cells, Sq.elem, h3]⟩
  · unfold getInts at h4; split at h4 <;> simp at h4; subst h4; exact ⟨rfl, by simp [D.cells, Sq.elem, h3]⟩
  · unfold getPairs at h4; split at h4 <;> simp at h4; subst h4; exact ⟨rfl, by simp [D.cells, Sq.elem, h3]⟩
  · unfold getBools at h4; split at h4 <;> simp at h4; subst h4; exact ⟨rfl, by simp [D.cells, Sq.elem, h3]⟩
  · unfold getRaise at h4; split at h4 <;> simp at h4; subst h4; exact ⟨rfl, by simp [D.cells, Sq.elem, h3]⟩
  · unfold getStr at h4; split at h4 <;> simp at h4; subst h4; exact ⟨rfl, by simp [D.cells, Sq.elem, h3]⟩

/-- the parts of a literal, in order -/
def partsD (s : PS) : Nat → List (Nat × Operand) → Option (List D)
  | _, [] => some []
  | i, (j, x) :: l => match Nat.beq i j, partsD s (i + 1) l with | true, some m => some (s.ev x :: m) | _, _ => none
theorem partsD_ok {w0 : World} {O0 : Nat → Prop} {n : Nat} {M : Mp} {s : PS} {a : Act} {w : World} (h : Rel w0 O0 n M s a w) : ∀ {l : List (Nat × Operand)} {i : Nat} {ds : List D}, partsD s i l = some ds →
    ∃ vs : List Value, l.map (fun p => (p.1, a.eval p.2)) = idxL i vs ∧ vs.length = ds.length ∧ ∀ j d, ds[j]? = some d → VR M (Ow (Fs w0 O0) M) w d (vs.getD j undef)
  | [], i, ds, hp => by simp [partsD] at hp; subst hp; exact ⟨[], rfl, rfl, by simp⟩
  | (j, x) :: l, i, ds, hp => by
    simp only [partsD] at hp
    split at hp
    case h_2 => cases hp
    rename_i m h1 h2
    cases hp
    obtain ⟨vs, g1, g2, g3⟩ := partsD_ok h h2
    have := Nat.eq_of_beq_eq_true h1
    subst this
    refine ⟨a.eval x :: vs, by simp [idxL, g1], by simp [g2], fun k d hd => ?_⟩
    cases k with
    | zero => simp at hd; subst hd; simpa using h.ev x
    | succ k => simpa using g3 k d (by simpa using hd)

theorem flatMap_get {sz : Nat} : ∀ (vs : List Value) (i j : Nat), (∀ v ∈ vs, v.cells.size = sz) → i < vs.length → j < sz → (vs.flatMap fun v => v.cells.toList)[i * sz + j]? = (vs.getD i undef).cells[j]?
  | [], i, j, _, h, _ => by simp at h
  | v :: vs, i, j, hv, hi, hj => by
    have hv0 := hv v (by simp)
    rw [List.flatMap_cons]
    cases i with
    | zero => rw [Nat.zero_mul, Nat.zero_add, List.getElem?_append_left (by simpa [hv0] using hj)]; simp
    | succ i =>
      rw [List.getElem?_append_right (by simp [hv0, Nat.add_mul]; omega)]
      have : (i + 1) * sz + j - v.cells.toList.length = i * sz + j := by simp [hv0, Nat.add_mul]; omega
      rw [this, flatMap_get vs i j (fun x hx => hv x (by simp [hx])) (by simpa using hi) hj]
      simp
theorem flatMap_len {sz : Nat} : ∀ (vs : List Value), (∀ v ∈ vs, v.cells.size = sz) → (vs.flatMap fun v => v.cells.toList).length = vs.length * sz
  | [], _ => by simp
  | v :: vs, hv => by rw [List.flatMap_cons, List.length_append, flatMap_len vs (fun x hx => hv x (by simp [hx]))]; simp [hv v (by simp), Nat.add_mul]; omega

section
variable {C : Cx} {ops : Array Oper} {K : PS → Prop} {o : Oper} {rest : List Oper} {s s' : PS} {TT : List (Nat × Ty)}
def rowN (r : Nat) (x : Option (Nat × Nat × Nat)) : Mp := ⟨fun _ => none, fun y => if y = r then some x else none⟩
def isR (r : Nat) : Nat → Bool := fun y => Nat.beq r y
theorem look_one {α : Type} (r : Nat) (x : α) (y : Nat) : look [(r, x)] y = if r = y then some x else none := by
  by_cases h : r = y
  · subst h; simp [look_cons_self]
  · rw [look_cons_ne h, if_neg h]; rfl
/-- One new row. -/
theorem Rel.newRow {w0 : World} {O0 : Nat → Prop} {n : Nat} {M : Mp} {s : PS} {a : Act} {w w' : World} (h : Rel w0 O0 n M s a w) {r m : Nat} {e : TypeId} {q : Sq} {cur : Array Value} (hq : q.len = m) (hm : m ≤ maxLen) (hc : cur.size = m * q.sz)
    (hw : w'.heap[w.heap.size]? = some (.cells cur e (0, 0))) (hos : w'.os = w.os) (ht : w'.tape = w.tape) (ho : w'.output = w.output) (hs : w.heap.size ≤ w'.heap.size) (hb : ∀ k, k < w.heap.size → w'.heap[k]? = w.heap[k]?)
    (hv : ∀ i j d, i < m → (q.elem true i)[j]? = some d → VR M (Ow (Fs w0 O0) M) w d (cur.getD (i * q.sz + j) undef)) (hf : Fresh s noB (isR r)) :
    ∃ M', Rel w0 O0 n M' (s.setR r (some (e, q))) a w' ∧ VR M' (Ow (Fs w0 O0) M') w' (.row r 0 m) (.slice (some ⟨w.heap.size, 0, none⟩) m m) := by
  subst hq
  let N := rowN r (some (w.heap.size, q.len, q.sz))
  have hNo : ∀ k, N.owned k → k = w.heap.size := by
    rintro k (⟨b, hb⟩ | ⟨y, c, z, hy⟩)
    · cases hb
    · simp only [N, rowN] at hy
      split at hy
      · cases hy; rfl
      · cases hy
  have hN : New N (fun f k => Ow (Fs w0 O0) M f k ∧ k < w.heap.size) w w' [(r, some (e, q))] := by
    refine ⟨hos, ht, ho, hs, hb, fun _ => rfl, fun y e' q' hy => ?_, fun y hy => ?_, fun k hk => by rw [hNo k hk]; exact Nat.le_refl _, fun y y' k c z c' z' h1 h2 => ?_⟩
    · rw [look_one] at hy
      split at hy
      · rename_i hry
        cases hy
        refine .inr ⟨w.heap.size, q.len, cur, by simp [N, rowN, hry], hw, Nat.le_refl _, hm, hc, fun i j d hi hd => (hv i j d hi hd).elem_any hd fun f b h1 h2 => ⟨⟨h2, h1⟩, by omega, hb b h1⟩⟩
      · cases hy
    · simp only [N, rowN]
      split
      · rename_i hyr; exact absurd (by rw [look_one, if_pos hyr.symm]) (hy (e, q))
      · rfl
    · simp only [N, rowN] at h1 h2
      split at h1 <;> split at h2 <;> simp_all
  have hfr : Fresh s (fun _ => false) (fun y => (look [(r, some (e, q))] y).isSome) := by
    have : (fun y => (look [(r, some (e, q))] y).isSome) = isR r := by
      funext y
      simp only [look, isR]
      cases Nat.beq r y <;> rfl
    rw [this]; exact hf
  obtain ⟨M', h1, h2⟩ := h.newRows hN (fun f k hk hA => ⟨⟨fun ho => by have := hNo k ho; omega, hA.1.1⟩, hA.1.2⟩) hfr
  refine ⟨M', h1, h2 _ _ (by simp [ment, mentA, mentS, look, Nat.beq_refl]) (.row _ _ _ _ rfl fun x hx => ?_)⟩
  simp [N, rowN] at hx
  subst hx
  exact ⟨by omega, some ⟨w.heap.size, 0, none⟩, by simp, fun _ => by simp⟩

theorem run_buildSlice {P : Program} {t e : TypeId} {k : Sq} {by' : Nat} (hty : TyOK P t (.sl e k by')) (w : World) (m : Nat) (ps : Array (Nat × Value)) (arr : Array Value) (hbig : m * k.sz ≤ 16777216)
    (hfill : ∀ cells : Array Value, cells.size = m * k.sz → Instr.fill (fun i => some (i * k.sz, k.sz)) cells ps.toList = some arr) :
    (Instr.buildSlice t m ps).run P w = .ok (.slice (some ⟨w.heap.size, 0, none⟩) m m) (w.alloc (.cells arr e)) := by
  have hs := ty_sl hty w
  have hz' := ty_size hty w
  obtain ⟨_, _, i, hi, hsz, _, z, hz, hzc⟩ := hty
  have hb2 : ¬ (2 ^ 24 < m * k.sz) := by omega
  have hnew : ∀ cs, (newRow e cs).run P w = .ok ⟨w.heap.size, 0, none⟩ (w.alloc (.cells cs e)) := fun _ => rfl
  have hzv : (zeroValue e).run P w = .ok z w := by simp [zeroValue, typeInfo, hi, hz, go_sem]
  have hpure : ∀ (x : Array Value), (pure x : Sem (Array Value)).run P w = .ok x w := fun _ => rfl
  unfold Instr.buildSlice
  rw [Sem.run_bind, hs]
  simp only [Result.andThen_ok, Sem.run_bind, hz', gt_iff_lt, hb2, if_false]
  by_cases h0 : m * k.sz = 0
  · have hf0 := hfill (Array.map (fun x => (#[] : Array Value)[x % (#[] : Array Value).size]!) (Array.range (m * k.sz))) (by simp)
    simp only [h0] at hf0
    simp only [h0, if_true, Sem.run_bind, hpure, Result.andThen_ok]
    rw [hf0]
    rfl
  · have hf0 := hfill (Array.map (fun x => z.cells[x % z.cells.size]!) (Array.range (m * k.sz))) (by simp)
    simp only [h0, if_false, Sem.run_bind, hzv, hpure, Result.andThen_ok]
    rw [hf0]
    rfl
theorem sBuildSlice (hT : TTOK C.P TT) {t e : TypeId} {k q : Sq} {by' m b : Nat} {parts : Array (Nat × Operand)} {ds : List D} (hop : o.op = .buildSlice t m parts) (hd : o.dst = some b) (hy : look TT t = some (.sl e k by')) (hp : partsD s 0 parts.toList = some ds)
    (hm : Nat.beq ds.length m = true) (hq : k.ofL ds = some q) (hbig : Nat.ble (m * k.sz) 16777216 = true) (hn : Nat.blt b C.n = true) (hf : Fresh s noB (isR b)) (h : K ((s.setR b (some (e, q))).put (some b) (.row b 0 m))) : Step C o s K := ⟨fun M a w Q K' hr hk => by
  have hty := hT t _ hy
  obtain ⟨_, _, i, hi, hsz, _, z, hz, hzc⟩ := hty
  obtain ⟨vs, g1, g2, g3⟩ := partsD_ok hr hp
  obtain ⟨q1, q2, q3⟩ := Sq.ofL_ok hq
  have hm' : ds.length = m := Nat.eq_of_beq_eq_true hm
  have hvs : ∀ v ∈ vs, v.cells.size = k.sz := fun v hv => by
    obtain ⟨j, hj, rfl⟩ := List.getElem_of_mem hv
    have h1 : ds[j]? = some ds[j] := List.getElem?_eq_getElem (by omega)
    obtain ⟨a1, a2⟩ := q3 j _ h1
    obtain ⟨c1, _⟩ := (g3 j _ h1).cells a1
    rw [a2, Sq.elem_len, q2] at c1
    simpa [hj] using c1.symm
  have hbig' := Nat.le_of_ble_eq_true hbig
  have hfill : ∀ cells : Array Value, cells.size = m * k.sz → Instr.fill (fun i => some (i * k.sz, k.sz)) cells (idxL 0 vs) = some (vs.flatMap fun v => v.cells.toList).toArray := fun cells hc => by
    have := fill_all k.sz vs 0 cells hvs (by rw [hc, g2, hm', Nat.zero_add])
    simpa using this
  have hrun : (execOp a.eval o).run C.P w = .ok (.value (.slice (some ⟨w.heap.size, 0, none⟩) m m)) (w.alloc (.cells (vs.flatMap fun v => v.cells.toList).toArray e)) := by
    have hparts : (parts.map fun (p : Nat × Operand) => (p.1, a.eval p.2)).toList = idxL 0 vs := by rw [← g1]; simp
    have := run_buildSlice (hT t _ hy) w m _ (vs.flatMap fun v => v.cells.toList).toArray (by omega) (fun cells hc => by rw [hparts]; exact hfill cells hc)
    unfold execOp
    rw [hop]
    simp only [Sem.run_bind, this, Result.andThen_ok]
    rfl
  obtain ⟨M', h1, h2⟩ := hr.newRow (r := b) (m := m) (e := e) (q := q) (cur := (vs.flatMap fun v => v.cells.toList).toArray) (w' := w.alloc (.cells (vs.flatMap fun v => v.cells.toList).toArray e)) (by omega) (by
      have : 0 < k.sz := k.sz_pos
      have h3 : m * 1 ≤ m * k.sz := Nat.mul_le_mul_left _ this
      unfold maxLen; omega) (by simp only [List.size_toArray]; rw [flatMap_len vs hvs, q2, g2, hm']) (heap_alloc_new w _) rfl rfl rfl (by simp) (fun k hk => Below.heap_alloc w _ k hk) (fun i j d hi hd => by
      have h4 : ds[i]? = some ds[i] := List.getElem?_eq_getElem (by omega)
      obtain ⟨a1, a2⟩ := q3 i _ h4
      obtain ⟨c1, c2, _⟩ := (g3 i _ h4).cells a1
      rw [a2] at c1 c2
      have hj : j < k.sz := by rw [← q2, ← Sq.elem_len true q i]; exact (List.getElem?_eq_some_iff.1 hd).1
      have := c2 j d hd
      rw [q2]
      have h5 := flatMap_get vs i j hvs (by omega) hj
      have h6 : (vs.flatMap fun v => v.cells.toList).toArray.getD (i * k.sz + j) undef = (vs.getD i undef).cells.getD j undef := by
        simp only [Array.getD_eq_getD_getElem?, List.getElem?_toArray, h5]
      rw [h6]; exact this) hf
  unfold Oper.wp
  rw [hrun]
  refine hk M' _ _ _ h ?_
  rw [hd]
  exact h1.put hn h2⟩
end
end Go.Proofs.Ytlmlfbjcpajinaa
