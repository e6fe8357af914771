/- Reading operations, on. No program in sight. -/
import Derived.Test.YtlmlfbjcpajinaaVc
import Derived.Laws.Cells
import Derived.Deep.Slices
namespace Go.Proofs.Ytlmlfbjcpajinaa
open Go.RowKit Go.Deep
set_option linter.unusedSimpArgs false
set_option linter.unusedVariables false

/-- the cells from a pointer on, and what must hold for them to be there -/
def ptrCells (s : PS) : D → Option (Prop × List D)
  | .ptr b off => match s.b b with | some cs => some (True, cs.drop off) | none => none
  | .eptr r i off => match s.r r with | some (_, q) => some (0 ≤ i ∧ i < q.len, (q.elem true i.toNat).drop off) | none => none
  | .rptr f q i off => some (True, (q.elem f i.toNat).drop off)
  | _ => none
theorem ptrCells_ok {w0 : World} {O0 : Nat → Prop} {n : Nat} {M : Mp} {s : PS} {a : Act} {w : World} (h : Rel w0 O0 n M s a w) {p : D} {v : Value} (hv : VR M (Ow (Fs w0 O0) M) w p v)
    {ob : Prop} {cs : List D} (hp : ptrCells s p = some (ob, cs)) (ho : ob) : ∃ b o, v = .pointer (some ⟨b, o, none⟩) ∧ ∀ j d, cs[j]? = some d → ∃ u, w.cell? ⟨b, o + j, none⟩ = some u ∧ VR M (Ow (Fs w0 O0) M) w d u := by
  cases hv with
  | ptr b off _ h1 hv =>
    simp only [ptrCells] at hp
    split at hp
    · rename_i cs0 hb
      simp only [Option.some.injEq, Prod.mk.injEq] at hp
      obtain ⟨rfl, rfl⟩ := hp
      obtain ⟨k, cur, e, hk, hh, hl, hc⟩ := h.box b cs0 hb
      refine ⟨k, off, hv k hk, fun j d hd => ?_⟩
      rw [List.getElem?_drop] at hd
      have hlt : off + j < cur.size := by rw [← hl]; exact (List.getElem?_eq_some_iff.1 hd).1
      exact ⟨cur[off + j], by rw [cell_of_row w k (off + j) cur e (0, 0) hh]; simp [hlt], by have := hc _ d hd; simpa [hlt] using this⟩
    · cases hp
  | eptr r i off _ hv =>
    simp only [ptrCells] at hp
    split at hp
    · rename_i e q hr
      simp only [Option.some.injEq, Prod.mk.injEq] at hp
      obtain ⟨rfl, rfl⟩ := hp
      obtain ⟨h1, h2⟩ := ho
      have hi : i.toNat < q.len := by omega
      rcases h.row r e q hr with ⟨_, h0⟩ | ⟨g, cap, cur, hg, hh, hl, hm, hsz, hc⟩
      · omega
      · refine ⟨g, i.toNat * q.sz + off, hv g cap q.sz hg, fun j d hd => ?_⟩
        rw [List.getElem?_drop] at hd
        have hj : off + j < q.sz := by rw [← Sq.elem_len true q i.toNat]; exact (List.getElem?_eq_some_iff.1 hd).1
        have hlt : i.toNat * q.sz + (off + j) < cur.size := by
          rw [hsz]
          have h4 : (i.toNat + 1) * q.sz ≤ cap * q.sz := Nat.mul_le_mul_right _ (by omega)
          rw [Nat.add_mul, Nat.one_mul] at h4; omega
        refine ⟨cur[i.toNat * q.sz + (off + j)], ?_, ?_⟩
        · rw [Nat.add_assoc, cell_of_row w g _ cur e (0, 0) hh]; simp [hlt]
        · have := hc i.toNat _ d hi hd; simpa [hlt] using this
    · cases hp
  | rptr f q i off b o u hb hA hu hv =>
    simp only [ptrCells, Option.some.injEq, Prod.mk.injEq] at hp
    obtain ⟨rfl, rfl⟩ := hp
    refine ⟨b, o + off, rfl, fun j d hd => ?_⟩
    rw [List.getElem?_drop] at hd
    exact ⟨u (off + j), by rw [Nat.add_assoc]; exact hu _ d hd, hv _ d hd⟩
  | _ => simp [ptrCells] at hp

theorem Sq.len_take (q : Sq) (k : Nat) : (q.take k).len = min k q.len := by cases q <;> simp [Sq.take, Sq.len]
theorem Sq.len_drop (q : Sq) (k : Nat) : (q.drop k).len = q.len - k := by cases q <;> simp [Sq.drop, Sq.len]
theorem Sq.sz_take (q : Sq) (k : Nat) : (q.take k).sz = q.sz := by cases q <;> rfl
theorem Sq.sz_drop (q : Sq) (k : Nat) : (q.drop k).sz = q.sz := by cases q <;> rfl
theorem Sq.elem_sub (f : Bool) (q : Sq) (lo hi i : Nat) (h : i < hi - lo) : ((q.take hi).drop lo).elem f i = q.elem f (lo + i) := by
  have : lo + i < hi := by omega
  cases q <;> simp [Sq.take, Sq.drop, Sq.elem, List.getElem?_drop, List.getElem?_take, this]
/-- A part of what is only read. -/
theorem VR.ro_sub {f : Bool} {M : Mp} {A : Bool → Nat → Prop} {w : World} {q : Sq} {ao : Option Addr} {cap lo hi : Nat} (h : VR M A w (.ro f q) (.slice ao q.len cap)) (h1 : lo ≤ hi) (h2 : hi ≤ q.len) :
    VR M A w (.ro f ((q.take hi).drop lo)) (.slice (if cap = lo then ao else ao.map (·.add (lo * q.sz))) (hi - lo) (cap - lo)) := by
  cases h with
  | ro _ _ _ _ b o u hn hc hao hu hv =>
    have hl : ((q.take hi).drop lo).len = hi - lo := by rw [Sq.len_drop, Sq.len_take]; omega
    have := VR.ro (M := M) (A := A) (w := w) f ((q.take hi).drop lo) (if cap = lo then ao else ao.map (·.add (lo * q.sz))) (cap - lo) b (o + lo * q.sz) (fun i j => u (lo + i) j) (by rw [hl]; omega) (by rw [hl]; omega)
      (fun h0 => by
        rw [hl] at h0
        obtain ⟨a1, a2, a3⟩ := hao (by omega)
        refine ⟨?_, a2, a3⟩
        rw [if_neg (by omega), a1]; simp [Addr.add_lit])
      (fun i j d hi' hd => by
        rw [hl] at hi'
        rw [Sq.elem_sub f q lo hi i hi'] at hd
        have := hu (lo + i) j d (by omega) hd
        rw [Sq.sz_drop, Sq.sz_take]
        rw [show o + lo * q.sz + i * q.sz + j = o + (lo + i) * q.sz + j from by rw [Nat.add_mul]; omega]; exact this)
      (fun i j d hi' hd => by
        rw [hl] at hi'
        rw [Sq.elem_sub f q lo hi i hi'] at hd
        exact hv (lo + i) j d (by omega) hd)
    rwa [hl] at this
def optI (s : PS) : Option Operand → Option (Option Int)
  | none => some none
  | some x => match s.ev x with | .int n => some (some n) | _ => none
def evalV (TT : List (Nat × Ty)) (s : PS) : Op → Option (Prop × D)
  | .move x | .assign x => some (True, s.ev x)
  | .pick c a b => match s.ev c, s.ev a, s.ev b with
    | .bool c, .bool x, .bool y => some (True, .bool (bif c then x else y))
    | _, _, _ => none
  | .binOp op _ x y _ => evalBin op (s.ev x) (s.ev y)
  | .unOp .not _ x => match s.ev x with | .bool b => some (True, .bool (!b)) | _ => none
  | .unOp .neg _ x => match s.ev x with | .int n => some (Rg64 (-n), .int (-n)) | _ => none
  | .load t x => match ptrCells s (s.ev x), look TT t with
    | some (ob, cs), some (.st _ zs) => match Nat.ble zs.length cs.length with | true => some (ob, .agg (cs.take zs.length)) | false => none
    | some (ob, d :: _), some (.sl _ _ _) => some (ob, d)
    | some (ob, d :: _), some (.sc _) => some (ob, d)
    | _, _ => none
  | .fieldAddr t x f => match look TT t with
    | some (.st offs _) => match offs[f]? with
      | some o => match s.ev x with
        | .ptr b off => match s.b b with | some _ => some (True, .ptr b (off + o.1)) | none => none
        | .eptr r i off => match s.r r with | some (_, q) => some (0 ≤ i ∧ i < q.len, .eptr r i (off + o.1)) | none => none
        | .rptr f q i off => some (True, .rptr f q i (off + o.1))
        | _ => none
      | none => none
    | _ => none
  | .indexAddr t x i => match look TT t with
    | some (.sl _ k _) => match s.ev x, s.ev i with
      | .ro f q, .int i => match Nat.beq k.sz q.sz with | true => some (0 ≤ i ∧ i < q.len, .rptr f q i 0) | false => none
      | .row r 0 n, .int i => match s.r r with | some (_, q) => (match Nat.beq k.sz q.sz with | true => some (0 ≤ i ∧ i < n, .eptr r i 0) | false => none) | none => none
      | _, _ => none
    | _ => none
  | .slice t x lo hi none => match look TT t, optI s lo, optI s hi with
    | some (.sl _ k _), some lo, some hi => match s.ev x with
      | .ro f q => match Nat.beq k.sz q.sz with
        | true => match lo, hi with
          | some lo, some hi => some (0 ≤ lo ∧ lo ≤ hi ∧ hi ≤ q.len, .ro f ((q.take hi.toNat).drop lo.toNat))
          | some lo, none => some (0 ≤ lo ∧ lo ≤ q.len, .ro f ((q.take q.len).drop lo.toNat))
          | none, some hi => some (0 ≤ hi ∧ hi ≤ q.len, .ro f ((q.take hi.toNat).drop 0))
          | none, none => some (True, .ro f ((q.take q.len).drop 0))
        | false => none
      | .row r off n => match s.r r with
        | some (_, q) => match Nat.beq k.sz q.sz with
          | true => match lo, hi with
            | some lo, some hi => some (0 ≤ lo ∧ lo ≤ hi ∧ hi ≤ n, .row r (off + lo.toNat) (hi.toNat - lo.toNat))
            | some lo, none => some (0 ≤ lo ∧ lo ≤ n, .row r (off + lo.toNat) (n - lo.toNat))
            | none, some hi => some (0 ≤ hi ∧ hi ≤ n, .row r off hi.toNat)
            | none, none => some (True, .row r off n)
          | false => none
        | none => none
      | _ => none
    | _, _, _ => none
  | .extract x i => match s.ev x with
    | .tup l => match l[i]? with | some d => some (True, d) | none => none
    | _ => none
  | .call c => match c.callee, c.args.toList, c.argTypes.toList with
    | .builtin .len, [x], [t] => match look TT t with
      | some (.sl _ _ _) => match s.ev x with
        | .ro _ q => some (True, .int q.len)
        | .row r _ n => match s.r r with | some _ => some (True, .int n) | none => none
        | .nil => some (True, .int 0)
        | _ => none
      | _ => none
    | .builtin .min, [x, y], _ => match s.ev x, s.ev y with
      | .int a, .int b => some (True, .int (min a b))
      | _, _ => none
    | .builtin .max, [x, y], _ => match s.ev x, s.ev y with
      | .int a, .int b => some (True, .int (max a b))
      | _, _ => none
    | _, _, _ => none
  | _ => none

theorem add_lit (b o k : Nat) : (⟨b, o, none⟩ : Addr).add k = ⟨b, o + k, none⟩ := by simp [Addr.add_lit]
theorem ty_sl {P : Program} {t e : TypeId} {k : Sq} {b : Nat} (h : TyOK P t (.sl e k b)) (w : World) : (underlying t).run P w = .ok (.slice e) w := Go.run_underlying h.1 w
theorem ty_size {P : Program} {t e : TypeId} {k : Sq} {b : Nat} (h : TyOK P t (.sl e k b)) (w : World) : (sizeOf e).run P w = .ok k.sz w := by
  obtain ⟨_, _, i, hi, hs, _⟩ := h
  simp [sizeOf, typeInfo, hi, go_sem, hs]

section
variable {P : Program} {w0 : World} {O0 : Nat → Prop} {n : Nat} {M : Mp} {s : PS} {a : Act} {w : World} {TT : List (Nat × Ty)}
/-- the run of a reading operation -/
def RunV (F : Nat → Prop) (P : Program) (M : Mp) (w : World) (m : Sem Value) (d : D) : Prop := ∃ v, m.run P w = .ok v w ∧ VR M (Ow F M) w d v

theorem load_ok (hT : TTOK P TT) (h : Rel w0 O0 n M s a w) {t : TypeId} {x : Operand} {ob : Prop} {d : D} (hv : evalV TT s (.load t x) = some (ob, d)) (ho : ob) : RunV (Fs w0 O0) P M w (Instr.loadAt t (a.eval x)) d := by
  simp only [evalV] at hv
  have hx := h.ev x
  split at hv
  · rename_i ob' cs offs zs hp ht
    split at hv
    · rename_i hle
      simp only [Option.some.injEq, Prod.mk.injEq] at hv
      obtain ⟨rfl, rfl⟩ := hv
      obtain ⟨b, o, hvx, hc⟩ := ptrCells_ok h hx hp ho
      have hle' : zs.length ≤ cs.length := Nat.le_of_ble_eq_true hle
      obtain ⟨⟨fs, hu, _⟩, ⟨i, hi, hs, _⟩, _⟩ := hT t _ ht
      have hcell : ∀ j, j < zs.length → ∃ u, w.cell? ⟨b, o + j, none⟩ = some u ∧ ∀ d, cs[j]? = some d → VR M (Ow (Fs w0 O0) M) w d u := fun j hj => by
        have h1 : cs[j]? = some cs[j] := List.getElem?_eq_getElem (by omega)
        obtain ⟨u, h2, h3⟩ := hc j _ h1
        exact ⟨u, h2, fun d hd => by rw [h1] at hd; cases hd; exact h3⟩
      obtain ⟨f, hf⟩ := choose_lt hcell
      have hrun := run_loadCells (P := P) (w := w) ⟨b, o, none⟩ zs.length f (fun j hj => by rw [add_lit]; exact (hf j hj).1)
      unfold loadCells at hrun
      refine ⟨.agg (List.map f (List.range zs.length)).toArray, ?_, ?_⟩
      · rw [hvx]
        simp [Instr.loadAt, Instr.sureAddr, loadVar, isAgg, Go.run_underlying hu, sizeOf, typeInfo, hi, hs, go_sem, loadCells, hrun]
      · refine .agg _ _ (by simp; omega) fun j d hd => ?_
        rw [List.getElem?_take] at hd
        split at hd
        · rename_i hj
          have := (hf j hj).2 d hd
          simpa [hj] using this
        · cases hd
    · cases hv
  · rename_i ob' d' cs e k by' hp ht
    simp only [Option.some.injEq, Prod.mk.injEq] at hv
    obtain ⟨rfl, rfl⟩ := hv
    obtain ⟨b, o, hvx, hc⟩ := ptrCells_ok h hx hp ho
    obtain ⟨u, h1, h2⟩ := hc 0 d' rfl
    refine ⟨u, ?_, h2⟩
    rw [hvx]
    rw [Nat.add_zero] at h1
    simp [Instr.loadAt, Instr.sureAddr, loadVar, isAgg, ty_sl (hT t _ ht), go_sem, h1]
  · rename_i ob' d' cs z hp ht
    simp only [Option.some.injEq, Prod.mk.injEq] at hv
    obtain ⟨rfl, rfl⟩ := hv
    obtain ⟨b, o, hvx, hc⟩ := ptrCells_ok h hx hp ho
    obtain ⟨u, h1, h2⟩ := hc 0 d' rfl
    refine ⟨u, ?_, h2⟩
    rw [hvx]
    rw [Nat.add_zero] at h1
    obtain ⟨⟨dd, hu, hn1, hn2⟩, _⟩ := hT t _ ht
    have hag : (isAgg t).run P w = .ok false w := by
      cases dd <;> simp [isAgg, Go.run_underlying hu, go_sem]
      all_goals first | exact hn1 _ rfl | exact hn2 _ _ rfl
    simp [Instr.loadAt, Instr.sureAddr, loadVar, hag, go_sem, h1]
  · cases hv

theorem field_ok (hT : TTOK P TT) (h : Rel w0 O0 n M s a w) {t : TypeId} {x : Operand} {f : Nat} {ob : Prop} {d : D} (hv : evalV TT s (.fieldAddr t x f) = some (ob, d)) (ho : ob) : RunV (Fs w0 O0) P M w (Instr.fieldAt t (a.eval x) f) d := by
  simp only [evalV] at hv
  have hx := h.ev x
  split at hv
  case h_2 => cases hv
  rename_i offs zs ht
  split at hv
  case h_2 => cases hv
  rename_i o hof
  obtain ⟨⟨fs, hu, hfs⟩, _⟩ := hT t _ ht
  obtain ⟨fd, i, h1, h2, h3, h4, h5⟩ := hfs f o hof
  have hrun : ∀ b k, a.eval x = .pointer (some ⟨b, k, none⟩) → (Instr.fieldAt t (a.eval x) f).run P w = .ok (.pointer (some ⟨b, k + o.1, none⟩)) w := fun b k he => by
    rw [he]
    have h6 : i.size ≠ 0 := by rw [h4]; exact h5
    simp [Instr.fieldAt, Instr.sureAddr, Go.run_underlying hu, h1, fieldPlace, sizeOf, typeInfo, h3, h6, go_sem, add_lit, h2]
  split at hv
  · rename_i b off hev
    rw [hev] at hx
    split at hv
    · rename_i cs hb
      simp only [Option.some.injEq, Prod.mk.injEq] at hv
      obtain ⟨rfl, rfl⟩ := hv
      obtain ⟨k, cur, e, hk, _⟩ := h.box b cs hb
      cases hx with
      | ptr _ _ _ g1 g2 =>
        refine ⟨_, hrun k off (g2 k hk), .ptr _ _ _ rfl fun k' hk' => ?_⟩
        rw [hk] at hk'; cases hk'; rfl
    · cases hv
  · rename_i r i' off hev
    rw [hev] at hx
    split at hv
    · rename_i e q hr
      simp only [Option.some.injEq, Prod.mk.injEq] at hv
      obtain ⟨rfl, rfl⟩ := hv
      rcases h.row r e q hr with ⟨_, h0⟩ | ⟨g, cap, cur, hg, _⟩
      · omega
      · cases hx with
        | eptr _ _ _ _ g2 =>
          refine ⟨_, hrun g _ (g2 g cap q.sz hg), .eptr _ _ _ _ fun g' c' z' hg' => ?_⟩
          rw [hg] at hg'; cases hg'; rw [Nat.add_assoc]
    · cases hv
  · rename_i f' q i' off hev
    rw [hev] at hx
    simp only [Option.some.injEq, Prod.mk.injEq] at hv
    obtain ⟨rfl, rfl⟩ := hv
    generalize hx' : a.eval x = vx at hx
    cases hx with
    | rptr _ _ _ _ b o' u hb hA hu' hv' => 
      have hr := hrun b (o' + off) hx'
      rw [hx', Nat.add_assoc] at hr
      exact ⟨_, hr, .rptr _ q i' _ b o' u hb hA hu' hv'⟩
  · cases hv

theorem index_ok (hT : TTOK P TT) (h : Rel w0 O0 n M s a w) {t : TypeId} {x y : Operand} {ob : Prop} {d : D} (hv : evalV TT s (.indexAddr t x y) = some (ob, d)) (ho : ob) : RunV (Fs w0 O0) P M w (Instr.indexAt t (a.eval x) (a.eval y)) d := by
  simp only [evalV] at hv
  have hx := h.ev x
  have hy := h.ev y
  split at hv
  case h_2 => cases hv
  rename_i e k by' ht
  have hty := hT t _ ht
  have hrun : ∀ b o len cap (i : Int), a.eval x = .slice (some ⟨b, o, none⟩) len cap → a.eval y = .int .i64 i → 0 ≤ i → i < len → (Instr.indexAt t (a.eval x) (a.eval y)).run P w = .ok (.pointer (some ⟨b, o + i.toNat * k.sz, none⟩)) w := fun b o len cap i h1 h2 h3 h4 => by
    rw [h1, h2]
    simp [Instr.indexAt, asIntOf, ty_sl hty, ty_size hty, go_sem, h3, h4, add_lit]
  split at hv
  · rename_i f q i hex hey
    rw [hex] at hx
    rw [hey] at hy
    split at hv
    · rename_i hk
      have hk := Nat.eq_of_beq_eq_true hk
      simp only [Option.some.injEq, Prod.mk.injEq] at hv
      obtain ⟨rfl, rfl⟩ := hv
      obtain ⟨h1, h2⟩ := ho
      generalize hx' : a.eval x = vx at hx
      cases hx with
      | ro _ _ ao cap b o u hn hc hao hu hv =>
        obtain ⟨a1, a2, a3⟩ := hao (by omega)
        subst a1
        have hr := hrun b o _ _ i hx' hy.int_inv h1 (by omega)
        rw [hx'] at hr
        refine ⟨_, hr, ?_⟩
        exact .rptr f q i 0 b (o + i.toNat * k.sz) (fun j => u i.toNat j) a2 a3 (fun j d hd => by rw [hk]; exact hu i.toNat j d (by omega) hd) (fun j d hd => hv i.toNat j d (by omega) hd)
    · cases hv
  · rename_i r n' i hex hey
    rw [hex] at hx
    rw [hey] at hy
    split at hv
    · rename_i e' q hr
      split at hv
      · rename_i hk
        have hk := Nat.eq_of_beq_eq_true hk
        simp only [Option.some.injEq, Prod.mk.injEq] at hv
        obtain ⟨rfl, rfl⟩ := hv
        obtain ⟨h1, h2⟩ := ho
        cases hx with
        | row _ _ _ _ g1 g2 =>
          rcases h.row r e' q hr with ⟨hg, _⟩ | ⟨g, cap, cur, hg, _⟩
          · obtain ⟨_, h0, _⟩ := g2 _ hg
            omega
          · obtain ⟨h3, ao, h4, h5⟩ := g2 _ hg
            have h6 := h5 (.inr rfl)
            subst h6
            refine ⟨_, hrun g _ _ _ i h4 hy.int_inv h1 h2, .eptr _ _ _ _ fun g' c' z' hg' => ?_⟩
            rw [hg] at hg'; cases hg'
            simp [hk]
      · cases hv
    · cases hv
  · cases hv
end
end Go.Proofs.Ytlmlfbjcpajinaa
