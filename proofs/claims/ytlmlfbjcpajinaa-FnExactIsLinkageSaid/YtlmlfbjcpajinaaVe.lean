/- The other reading operations, and the rule for them all. No program in sight. -/
import Derived.Test.YtlmlfbjcpajinaaVd
namespace Go.Proofs.Ytlmlfbjcpajinaa
open Go.RowKit Go.Deep
set_option linter.unusedSimpArgs false
set_option linter.unusedVariables false

section
variable {P : Program} {w0 : World} {O0 : Nat → Prop} {n : Nat} {M : Mp} {s : PS} {a : Act} {w : World} {TT : List (Nat × Ty)}

theorem VR.slice_form {A : Bool → Nat → Prop} {f : Bool} {q : Sq} {v : Value} (h : VR M A w (.ro f q) v) : ∃ ao cap, v = .slice ao q.len cap ∧ q.len ≤ cap := by
  cases h with | ro _ _ ao cap b o u hn hc => exact ⟨ao, cap, rfl, hc⟩

theorem optI_ok (h : Rel w0 O0 n M s a w) {x : Option Operand} {r : Option Int} (he : optI s x = some r) : x.map a.eval = r.map (Value.int .i64) := by
  cases x with
  | none => simp [optI] at he; subst he; rfl
  | some x =>
    simp only [optI] at he
    split at he
    · rename_i k hk
      simp at he
      subst he
      have := h.ev x
      rw [hk] at this
      simp [this.int_inv]
    · cases he

theorem run_bounds (len cap : Nat) (lo hi : Option Int) (h1 : ∀ l, lo = some l → 0 ≤ l) (h2 : ∀ h, hi = some h → 0 ≤ h ∧ h ≤ cap) (h3 : ∀ l, lo = some l → l ≤ (hi.getD (len : Int))) :
    (Instr.sliceBounds true len cap (lo.map (Value.int .i64)) (hi.map (Value.int .i64)) none).run P w = .ok ((lo.getD 0).toNat, (hi.getD (len : Int)).toNat, cap) w := by
  cases lo with
  | none =>
    cases hi with
    | none => simp [Instr.sliceBounds, go_sem]
    | some h =>
      obtain ⟨a1, a2⟩ := h2 h rfl
      simp [Instr.sliceBounds, Instr.sliceBound, asIntOf, go_sem, a1, a2]
  | some l =>
    have b1 := h1 l rfl
    have b2 := h3 l rfl
    cases hi with
    | none => simp at b2; simp [Instr.sliceBounds, Instr.sliceBound, asIntOf, go_sem, b1, b2]
    | some h =>
      obtain ⟨a1, a2⟩ := h2 h rfl
      simp at b2
      have b3 : l ≤ ((h.toNat : Nat) : Int) := by omega
      simp [Instr.sliceBounds, Instr.sliceBound, asIntOf, go_sem, a1, a2, b1, b2, b3] <;> (intro hh; omega)

theorem slice_ok (hT : TTOK P TT) (h : Rel w0 O0 n M s a w) {t : TypeId} {x : Operand} {lo hi : Option Operand} {ob : Prop} {d : D} (hv : evalV TT s (.slice t x lo hi none) = some (ob, d)) (ho : ob) :
    RunV (Fs w0 O0) P M w (Instr.sliceAt t (a.eval x) (lo.map a.eval) (hi.map a.eval) none) d := by
  simp only [evalV] at hv
  have hx := h.ev x
  split at hv
  case h_2 => cases hv
  rename_i e k by' lo' hi' ht hlo hhi
  have hty := hT t _ ht
  rw [optI_ok h hlo, optI_ok h hhi]
  have hrun : ∀ ao len cap (l u : Nat), (Instr.sliceBounds true len cap (lo'.map (Value.int .i64)) (hi'.map (Value.int .i64)) none).run P w = .ok (l, u, cap) w →
      (Instr.sliceAt t (.slice ao len cap) (lo'.map (Value.int .i64)) (hi'.map (Value.int .i64)) none).run P w = .ok (.slice (if cap = l then ao else ao.map (·.add (l * k.sz))) (u - l) (cap - l)) w := fun ao len cap l u hb => by
    simp [Instr.sliceBounds, go_sem] at hb
    simp [Instr.sliceAt, Instr.slice, ty_sl hty, ty_size hty, go_sem, Instr.sliceBounds, hb]
  split at hv
  · rename_i f q hex
    rw [hex] at hx
    split at hv
    case h_2 => cases hv
    rename_i hk
    have hk := Nat.eq_of_beq_eq_true hk
    obtain ⟨ao, cap, hvx, hcap⟩ := hx.slice_form
    rw [hvx] at hx ⊢
    rw [hk] at hrun
    cases lo' <;> cases hi' <;> simp only [Option.some.injEq, Prod.mk.injEq] at hv <;> obtain ⟨rfl, rfl⟩ := hv
    · have hb := run_bounds (P := P) (w := w) q.len cap none none (by simp) (by simp) (by simp)
      exact ⟨_, hrun _ _ _ _ _ hb, by simpa using hx.ro_sub (lo := 0) (hi := q.len) (by omega) (by omega)⟩
    · rename_i u
      obtain ⟨h1, h2⟩ := ho
      have hb := run_bounds (P := P) (w := w) q.len cap none (some u) (by simp) (by intro h e; cases e; omega) (by simp)
      exact ⟨_, hrun _ _ _ _ _ hb, by simpa using hx.ro_sub (lo := 0) (hi := u.toNat) (by omega) (by omega)⟩
    · rename_i l
      obtain ⟨h1, h2⟩ := ho
      have hb := run_bounds (P := P) (w := w) q.len cap (some l) none (by intro h e; cases e; omega) (by simp) (by intro h e; cases e; simp; omega)
      exact ⟨_, hrun _ _ _ _ _ hb, by simpa using hx.ro_sub (lo := l.toNat) (hi := q.len) (by omega) (by omega)⟩
    · rename_i l u
      obtain ⟨h1, h2, h3⟩ := ho
      have hb := run_bounds (P := P) (w := w) q.len cap (some l) (some u) (by intro h e; cases e; omega) (by intro h e; cases e; omega) (by intro h e; cases e; simp; omega)
      exact ⟨_, hrun _ _ _ _ _ hb, by simpa using hx.ro_sub (lo := l.toNat) (hi := u.toNat) (by omega) (by omega)⟩
  · rename_i r off m hex
    rw [hex] at hx
    split at hv
    case h_2 => cases hv
    rename_i e' q hr
    split at hv
    case h_2 => cases hv
    rename_i hk
    have hk := Nat.eq_of_beq_eq_true hk
    rw [hk] at hrun
    generalize hvx : a.eval x = vx at hx
    cases hx with
    | row _ _ _ _ g1 g2 =>
      have key : ∀ (l u : Nat), l ≤ u → u ≤ m → ∀ ao c, vx = .slice ao m c → VR M (Ow (Fs w0 O0) M) w (.row r (off + l) (u - l)) (.slice (if c = l then ao else ao.map (·.add (l * q.sz))) (u - l) (c - l)) := fun l u h1 h2 ao c hvx => by
        refine .row _ _ _ _ rfl fun y hy => ?_
        have hr' := g2 y hy
        rcases h.row r e' q hr with ⟨hg, h0⟩ | ⟨g, cap, cur, hg, _⟩
        · rw [hg] at hy; cases hy
          simp only [RowV] at hr' ⊢
          obtain ⟨h3, h4, h5⟩ := hr'
          rw [hvx] at h3; cases h3
          have : l = 0 := by omega
          subst this
          exact ⟨by simp <;> omega, by omega, by omega⟩
        · rw [hg] at hy; cases hy
          simp only [RowV] at hr' ⊢
          obtain ⟨h3, ao', h4, h5⟩ := hr'
          rw [hvx] at h4; cases h4
          refine ⟨by omega, _, by rw [show cap - off - l = cap - (off + l) from by omega], fun h6 => ?_⟩
          by_cases hl : cap - off = l
          · rw [if_pos hl]
            have : off = 0 := by omega
            subst this
            have hl0 : l = 0 := by omega
            subst hl0
            have := h5 (.inr rfl)
            simp [this]
          · rw [if_neg hl]
            have := h5 (by omega)
            rw [this]; simp [add_lit, Nat.add_mul]
      have form : ∃ ao c, vx = .slice ao m c ∧ m ≤ c := by
        rcases h.row r e' q hr with ⟨hg, h0⟩ | ⟨g, cap, cur, hg, _⟩
        · have := g2 _ hg; simp only [RowV] at this; exact ⟨none, 0, by rw [this.1, this.2.1], by omega⟩
        · have := g2 _ hg; simp only [RowV] at this; obtain ⟨h1, ao, h2, _⟩ := this; exact ⟨ao, _, h2, by omega⟩
      obtain ⟨ao, c, hvx', hc⟩ := form
      rw [hvx']
      cases lo' <;> cases hi' <;> simp only [Option.some.injEq, Prod.mk.injEq] at hv <;> obtain ⟨rfl, rfl⟩ := hv
      · have hb := run_bounds (P := P) (w := w) m c none none (by simp) (by simp) (by simp)
        exact ⟨_, hrun _ _ _ _ _ hb, by simpa using key 0 m (by omega) (by omega) ao c hvx'⟩
      · rename_i u
        obtain ⟨h1, h2⟩ := ho
        have hb := run_bounds (P := P) (w := w) m c none (some u) (by simp) (by intro h e; cases e; omega) (by simp)
        exact ⟨_, hrun _ _ _ _ _ hb, by simpa using key 0 u.toNat (by omega) (by omega) ao c hvx'⟩
      · rename_i l
        obtain ⟨h1, h2⟩ := ho
        have hb := run_bounds (P := P) (w := w) m c (some l) none (by intro h e; cases e; omega) (by simp) (by intro h e; cases e; simp; omega)
        exact ⟨_, hrun _ _ _ _ _ hb, by simpa using key l.toNat m (by omega) (by omega) ao c hvx'⟩
      · rename_i l u
        obtain ⟨h1, h2, h3⟩ := ho
        have hb := run_bounds (P := P) (w := w) m c (some l) (some u) (by intro h e; cases e; omega) (by intro h e; cases e; omega) (by intro h e; cases e; simp; omega)
        exact ⟨_, hrun _ _ _ _ _ hb, by simpa using key l.toNat u.toNat (by omega) (by omega) ao c hvx'⟩
  · cases hv

/-- Every reading operation does what it is reckoned to do. -/
theorem val_ok (hT : TTOK P TT) (h : Rel w0 O0 n M s a w) {o : Oper} {ob : Prop} {d : D} (hv : evalV TT s o.op = some (ob, d)) (ho : ob) :
    ∃ v, (execOp a.eval o).run P w = .ok (.value v) w ∧ VR M (Ow (Fs w0 O0) M) w d v := by
  have wrap : ∀ {m : Sem Value}, RunV (Fs w0 O0) P M w m d → ∃ v, (do pure (Next.value (← m)) : Sem Next).run P w = .ok (.value v) w ∧ VR M (Ow (Fs w0 O0) M) w d v := by
    rintro m ⟨v, h1, h2⟩
    exact ⟨v, by simp [go_sem, h1], h2⟩
  unfold execOp
  generalize o.op = op at hv ⊢
  cases op <;> try (simp [evalV] at hv; done)
  case move x => simp only [evalV, Option.some.injEq, Prod.mk.injEq] at hv; obtain ⟨rfl, rfl⟩ := hv; exact ⟨_, by simp [go_sem], h.ev x⟩
  case assign x => simp only [evalV, Option.some.injEq, Prod.mk.injEq] at hv; obtain ⟨rfl, rfl⟩ := hv; exact ⟨_, by simp [go_sem], h.ev x⟩
  case pick c x y =>
    simp only [evalV] at hv
    have hc := h.ev c
    have hx := h.ev x
    have hy := h.ev y
    split at hv
    · rename_i bc bx by' e1 e2 e3
      rw [e1] at hc; rw [e2] at hx; rw [e3] at hy
      simp only [Option.some.injEq, Prod.mk.injEq] at hv
      obtain ⟨rfl, rfl⟩ := hv
      refine ⟨.bool (bif bc then bx else by'), ?_, .bool _⟩
      simp only [hc.bool_inv, hx.bool_inv, hy.bool_inv]
      cases bc <;> simp [asBool, go_sem]
    · cases hv
  case load t x => exact wrap (load_ok hT h hv ho)
  case binOp op t x y u =>
    simp only [evalV] at hv
    obtain ⟨v, h1, h2⟩ := evalBin_ok (P := P) (t := t) (x := x) (y := y) hv ho (h.ev x) (h.ev y)
    exact wrap ⟨v, h1, h2⟩
  case unOp op t x =>
    have hx := h.ev x
    cases op <;> simp only [evalV] at hv <;> try (cases hv; done)
    · split at hv
      · rename_i k hk
        rw [hk] at hx
        simp only [Option.some.injEq, Prod.mk.injEq] at hv
        obtain ⟨rfl, rfl⟩ := hv
        exact ⟨.int .i64 (-k), by simp only [hx.int_inv]; simp [Op.unary, Op.intArith, go_sem, R64_wrap ho], .int _⟩
      · cases hv
    · split at hv
      · rename_i b hb
        rw [hb] at hx
        simp only [Option.some.injEq, Prod.mk.injEq] at hv
        obtain ⟨rfl, rfl⟩ := hv
        exact ⟨.bool (!b), by simp only [hx.bool_inv]; simp [Op.unary, go_sem], .bool _⟩
      · cases hv
  case slice t x lo hi mx =>
    cases mx with
    | none => exact wrap (slice_ok hT h hv ho)
    | some _ => simp [evalV] at hv
  case fieldAddr t x f => exact wrap (field_ok hT h hv ho)
  case indexAddr t x y => exact wrap (index_ok hT h hv ho)
  case extract x i =>
    have hx := h.ev x
    simp only [evalV] at hv
    split at hv
    case h_2 => cases hv
    rename_i l hl
    split at hv
    case h_2 => cases hv
    rename_i d' hd
    simp only [Option.some.injEq, Prod.mk.injEq] at hv
    obtain ⟨rfl, rfl⟩ := hv
    rw [hl] at hx
    obtain ⟨us, h1, h2, h3⟩ := hx.tup_inv
    have hi : i < us.size := by rw [← h2]; exact (List.getElem?_eq_some_iff.1 hd).1
    exact ⟨us[i], by simp only [h1]; simp [Instr.extract, hi, go_sem], by have := h3 i _ hd; simpa [hi] using this⟩
  case call c =>
    obtain ⟨callee, args, ts⟩ := c
    simp only [evalV] at hv
    split at hv
    · rename_i x t e1 e2
      obtain rfl : args = #[x] := by cases args; simp_all
      obtain rfl : ts = #[t] := by cases ts; simp_all
      have hx := h.ev x
      split at hv
      case h_2 => cases hv
      rename_i e k b ht
      have hty := hT t _ ht
      have hrun : ∀ ao m c, a.eval x = .slice ao m c → (do let d ← resolve a.eval { callee := .builtin .len, args := #[x], argTypes := #[t] } o.type; invoke d.target d.args : Sem Next).run P w = .ok (.value (.int .i64 m)) w := fun ao m c he => by
        simp only [resolve, List.map_toArray, List.map_cons, List.map_nil, he]
        simp [invoke, Go.builtin, Builtin.len_, ty_sl hty, go_sem, goInt]
      split at hv
      · rename_i f q hq
        rw [hq] at hx
        simp only [Option.some.injEq, Prod.mk.injEq] at hv
        obtain ⟨rfl, rfl⟩ := hv
        obtain ⟨ao, cap, he, _⟩ := hx.slice_form
        exact ⟨_, hrun _ _ _ he, .int _⟩
      · rename_i r off m hq
        rw [hq] at hx
        split at hv
        case h_2 => cases hv
        rename_i x' hr
        obtain ⟨e', q⟩ := x'
        simp only [Option.some.injEq, Prod.mk.injEq] at hv
        obtain ⟨rfl, rfl⟩ := hv
        generalize he : a.eval x = vx at hx
        cases hx with
        | row _ _ _ _ g1 g2 =>
          have form : ∃ ao c, vx = .slice ao m c := by
            rcases h.row r e' q hr with ⟨hg, h0⟩ | ⟨g, cap, cur, hg, _⟩
            · have := g2 _ hg; simp only [RowV] at this; exact ⟨none, 0, by rw [this.1, this.2.1]⟩
            · have := g2 _ hg; simp only [RowV] at this; obtain ⟨h1, ao, h2, _⟩ := this; exact ⟨ao, _, h2⟩
          obtain ⟨ao, c, hf⟩ := form
          exact ⟨_, hrun _ _ _ (he.trans hf), .int _⟩
      · rename_i hq
        rw [hq] at hx
        simp only [Option.some.injEq, Prod.mk.injEq] at hv
        obtain ⟨rfl, rfl⟩ := hv
        exact ⟨_, hrun _ _ _ hx.nil_inv, .int _⟩
      · cases hv
    · rename_i x y e2
      obtain rfl : args = #[x, y] := by cases args; simp_all
      have hx := h.ev x
      have hy := h.ev y
      split at hv
      · rename_i p q e1 e2
        rw [e1] at hx; rw [e2] at hy
        simp only [Option.some.injEq, Prod.mk.injEq] at hv
        obtain ⟨rfl, rfl⟩ := hv
        refine ⟨.int .i64 (if q < p then q else p), ?_, ?_⟩
        · simp only [resolve, List.map_toArray, List.map_cons, List.map_nil, hx.int_inv, hy.int_inv]
          simp [invoke, Go.builtin, Builtin.min_, Builtin.min2, go_sem]
        · rw [show min p q = (if q < p then q else p) from by split <;> omega]; exact .int _
      · cases hv
    · rename_i x y e2
      obtain rfl : args = #[x, y] := by cases args; simp_all
      have hx := h.ev x
      have hy := h.ev y
      split at hv
      · rename_i p q e1 e2
        rw [e1] at hx; rw [e2] at hy
        simp only [Option.some.injEq, Prod.mk.injEq] at hv
        obtain ⟨rfl, rfl⟩ := hv
        refine ⟨.int .i64 (if p < q then q else p), ?_, ?_⟩
        · simp only [resolve, List.map_toArray, List.map_cons, List.map_nil, hx.int_inv, hy.int_inv]
          simp [invoke, Go.builtin, Builtin.max_, Builtin.max2, go_sem]
        · rw [show max p q = (if p < q then q else p) from by split <;> omega]; exact .int _
      · cases hv
    · cases hv
end
end Go.Proofs.Ytlmlfbjcpajinaa
