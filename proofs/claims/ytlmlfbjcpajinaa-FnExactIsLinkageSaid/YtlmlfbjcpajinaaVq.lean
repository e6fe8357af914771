/- The rules inside a region that draws its order. No program in sight. -/
import Derived.Test.YtlmlfbjcpajinaaVp
namespace Go.Proofs.Ytlmlfbjcpajinaa
open Go.RowKit Go.Deep
set_option linter.unusedSimpArgs false
set_option linter.unusedVariables false

theorem evalV_congr {TT : List (Nat × Ty)} {s s1 : PS} {op : Op} (he : ∀ x ∈ op.operands, s1.ev x = s.ev x) (hr : ∀ r, s1.r r = s.r r) (hb : ∀ b, s1.b b = s.b b) : evalV TT s1 op = evalV TT s op := by
  have hp : ∀ d, ptrCells s1 d = ptrCells s d := fun d => by cases d <;> simp [ptrCells, hr, hb]
  cases op <;> simp only [Op.operands] at he <;> try rfl
  case move x => simp only [evalV]; rw [he x (by simp)]
  case assign x => simp only [evalV]; rw [he x (by simp)]
  case pick c x y => simp only [evalV]; rw [he c (by simp), he x (by simp), he y (by simp)]
  case load t x => simp only [evalV]; rw [he x (by simp), hp]
  case binOp op t x y u => simp only [evalV]; rw [he x (by simp), he y (by simp)]
  case unOp op t x => cases op <;> simp only [evalV] <;> rw [he x (by simp)]
  case slice t x lo hi mx =>
    cases mx with
    | some m => rfl
    | none =>
      have h1 : optI s1 lo = optI s lo := by cases lo with | none => rfl | some y => simp only [optI]; rw [he y (by simp)]
      have h2 : optI s1 hi = optI s hi := by cases hi with | none => rfl | some y => simp only [optI]; rw [he y (by simp)]
      simp only [evalV, h1, h2, hr]
      rw [he x (by simp)]
  case fieldAddr t x f => simp only [evalV, hr, hb]; rw [he x (by simp)]
  case indexAddr t x y => simp only [evalV, hr]; rw [he x (by simp), he y (by simp)]
  case extract x i => simp only [evalV]; rw [he x (by simp)]
  case call c =>
    obtain ⟨callee, args, ts⟩ := c
    simp only [evalV]
    have ha : ∀ x ∈ args.toList, s1.ev x = s.ev x := fun x hx => he x (by simp only [Call.operands]; exact Array.mem_append.2 (.inr (by simpa using hx)))
    generalize args.toList = l at ha
    split
    · rw [ha _ (by simp)]; simp only [hr]
    · rw [ha _ (by simp), ha _ (by simp)]
    · rw [ha _ (by simp), ha _ (by simp)]
    · rename_i h1 h2 h3
      rfl

theorem fitS_congr {s s1 : PS} (hr : ∀ r, s1.r r = s.r r) (d d' : D) : fitS s1 d d' = fitS s d d' := by
  cases d with
  | row r off m => cases off <;> cases d' <;> simp only [fitS, hr]
  | _ => cases d' <;> rfl
theorem fitL_congr {s s1 : PS} (hr : ∀ r, s1.r r = s.r r) : ∀ (l l' : List D), fitL s1 l l' = fitL s l l'
  | [], [] => rfl
  | x :: l, y :: l' => by simp only [fitL]; rw [fitS_congr hr, fitL_congr hr l l']
  | [], _ :: _ => rfl
  | _ :: _, [] => rfl
theorem fit_congr {s s1 : PS} (hr : ∀ r, s1.r r = s.r r) (d d' : D) : fit s1 d d' = fit s d d' := by
  cases d with
  | agg l =>
    cases d' with
    | agg m => exact fitL_congr hr l m
    | _ => rfl
  | _ => cases d' <;> (simp only [fit]; exact fitS_congr hr _ _)
theorem fits_congr {s s1 : PS} (hr : ∀ r, s1.r r = s.r r) : ∀ (xs : List Operand) (ds : List D), (∀ x ∈ xs, s1.ev x = s.ev x) → fits s1 xs ds = fits s xs ds
  | [], [], _ => rfl
  | x :: xs, d :: ds, h => by simp only [fits]; rw [h x (by simp), fit_congr hr, fits_congr hr xs ds (fun y hy => h y (by simp [hy]))]
  | [], _ :: _, _ => rfl
  | _ :: _, [], _ => rfl

section
variable {C : Cx} {ops : Array Oper} {o : Oper} {K : PS → Prop} {TT : List (Nat × Ty)} {rest : List Oper} {tm : List (Nat × D)} {rw' : List (Nat × Option (TypeId × Sq))} {bx : List (Nat × Option (List D))} {s : PS}
theorem looksAt_guard {j t : Nat} {want : Bool} (hg : o.guard = some (j, want)) (hd : gdst ops j = some t) : t ∈ o.looksAt ops := by
  unfold gdst at hd
  rw [Array.getElem?_toList] at hd
  refine List.mem_append_right _ ?_
  rw [hg]
  cases h : ops[j]? with
  | none => rw [h] at hd; cases hd
  | some o' => rw [h] at hd; simp [h, hd]
/-- when it is not passed over: by its guard, or having none -/
def Wanted (C : Cx) (ops : Array Oper) (o : Oper) (s : PS) : Prop :=
  o.guard = none ∨ ∃ j want t b, o.guard = some (j, want) ∧ gdst ops j = some t ∧ Nat.blt t C.n = true ∧ s.t t = .bool b ∧ b = want
theorem Wanted.ok (h : Wanted C ops o s) {s1 : PS} {M : Mp} {a : Act} {w : World} (hag : Agree ops o s s1) (hr : Rel C.w0 C.O0 C.n M s1 a w) : Region.wanted o (yielded ops a.tmps) = true := by
  rcases h with hg | ⟨j, want, t, b, hg, hd, ht, hs, hb⟩
  · simp [Region.wanted, hg]
  · have h1 : s1.t t = .bool b := by rw [hag.t t (looksAt_guard hg hd)]; exact hs
    simp [Region.wanted, hg, yield_of hr hd h1 ht, hb]
theorem qStep {d : D} (hw : Wanted C ops o s) (h : ∀ s1, Agree ops o s s1 → Step C o s1 (fun s' => s' = s1.put o.dst d)) : QV C ops o s d :=
  ⟨fun s1 M a w hag hr => .inl ⟨hw.ok hag hr, h s1 hag⟩⟩
theorem qNo {j t : Nat} {want b : Bool} (hg : o.guard = some (j, want)) (hd : gdst ops j = some t) (ht : Nat.blt t C.n = true) (hs : s.t t = .bool b) (hb : b = !want) (ho : dstOk C.n o.dst = true) : QV C ops o s (.tup []) :=
  ⟨fun s1 M a w hag hr => .inr ⟨by
    have h1 : s1.t t = .bool b := by rw [hag.t t (looksAt_guard hg hd)]; exact hs
    simp [Region.wanted, hg, yield_of hr hd h1 ht, hb], rfl, ho⟩⟩
theorem qNoU {j t : Nat} {want : Bool} (hg : o.guard = some (j, want)) (hd : gdst ops j = some t) (hs : s.t t = .tup []) (ho : dstOk C.n o.dst = true) : QV C ops o s (.tup []) :=
  ⟨fun s1 M a w hag hr => .inr ⟨by
    have h1 := hr.tmp t
    rw [hag.t t (looksAt_guard hg hd), hs] at h1
    obtain ⟨us, h2, h3, _⟩ := h1.tup_inv
    have h5 : (ops[j]?).bind (·.dst) = some t := by
      unfold gdst at hd
      rw [Array.getElem?_toList] at hd
      cases h : ops[j]? with
      | none => rw [h] at hd; cases hd
      | some o => rw [h] at hd; exact hd
    have hy : yielded ops a.tmps j = none := by
      simp only [yielded, h5, Option.bind_some]
      cases h6 : a.tmps[t]? with
      | none => rfl
      | some v =>
        have : v = .tuple us := by simpa [h6] using h2
        subst this; rfl
    simp [Region.wanted, hg, hy], rfl, ho⟩⟩
theorem qVal (hT : TTOK C.P TT) {ob : Prop} {d : D} (hw : Wanted C ops o s) (hv : evalF TT s o.op = some (ob, d)) (ho : dstOk C.n o.dst = true) (hob : ob) : QV C ops o s d :=
  qStep hw fun s1 hag => sVal hT (by rw [evalV_congr (fun x hx => hag.ev x hx) hag.r hag.b]; exact evalF_ok hv) ho hob rfl
theorem qPick {c x y : Operand} {b : Bool} {d : D} (hop : o.op = .pick c x y) (hw : Wanted C ops o s) (hc : s.ev c = .bool b) (ho : dstOk C.n o.dst = true) (hb : (b = true ∧ d = s.ev x) ∨ (b = false ∧ d = s.ev y)) : QV C ops o s d :=
  qStep hw fun s1 hag => by
    have e : ∀ z ∈ [c, x, y], s1.ev z = s.ev z := fun z hz => hag.ev z (by rw [hop]; simpa [Op.operands] using hz)
    refine sPick hop (by rw [e c (by simp)]; exact hc) ho ?_ rfl
    rw [e x (by simp), e y (by simp)]
    exact hb
theorem Rel.later {w0 : World} {O0 : Nat → Prop} {n : Nat} {M : Mp} {s : PS} {a : Act} {w w' : World} (h : Rel w0 O0 n M s a w) (hos : w'.os = w.os) (ht : w'.tape = w.tape) (ho : w'.output = w.output) (hs : w.heap.size ≤ w'.heap.size) (hb : ∀ k, k < w.heap.size → w'.heap[k]? = w.heap[k]?) :
    Rel w0 O0 n M s a w' := by
  have hA : ∀ f b, b < w.heap.size → Ow (Fs w0 O0) M f b → Ow (Fs w0 O0) M f b ∧ b < w'.heap.size ∧ w'.heap[b]? = w.heap[b]? := fun f b h1 h2 => ⟨h2, by omega, hb b h1⟩
  have mono : ∀ {d v}, VR M (Ow (Fs w0 O0) M) w d v → VR M (Ow (Fs w0 O0) M) w' d v := fun hv => hv.mono hA (fun _ _ h => h) (fun _ _ h => h)
  refine ⟨h.fr.step hos ht ho hs fun k h1 _ => hb k (Nat.lt_of_lt_of_le h1 h.fr.size), h.dfr, h.sz, fun t => mono (h.tmp t), fun b cs hx => ?_, h.boxn, fun r e q hx => ?_, h.rown, h.low, h.inj1, h.inj2, h.inj3⟩
  · obtain ⟨k, cur, e, g1, g2, g3, g4⟩ := h.box b cs hx
    exact ⟨k, cur, e, g1, (hb k (Array.getElem?_eq_some_iff.1 g2).1).trans g2, g3, fun j d hd => mono (g4 j d hd)⟩
  · rcases h.row r e q hx with ⟨g1, g2⟩ | ⟨g, cap, cur, g1, g2, g3, g4, g5, g6⟩
    · exact .inl ⟨g1, g2⟩
    · exact .inr ⟨g, cap, cur, g1, (hb g (Array.getElem?_eq_some_iff.1 g2).1).trans g2, g3, g4, g5, fun i j d hi hd => mono (g6 i j d hi hd)⟩
/-- a call that yields no row -/
theorem sCall0 {f : FuncId} {args : Array Operand} {ts : Array TypeId} {ds : List D} {d : D} (hop : o.op = .call { callee := .value (.func f), args := args, argTypes := ts }) (hp : PCall C.P f ds [] d) (hds : dstOk C.n o.dst = true)
    (hfit : fits s args.toList ds) (hno : (ds.all noIds) = true) (hm : noIds d = true) (hd : ren id (fun j => 0 + j) d = d) (h : K (s.put o.dst d)) : Step C o s K := ⟨fun M a w Q K' hr hk => by
  have hrun : (execOp a.eval o).run C.P w = .ok (.enter f (args.map a.eval)) w := by
    have := hp.enter (args.map a.eval) w
    unfold execOp
    rw [hop]
    show ((do let d ← resolve a.eval _ o.type; invoke d.target d.args : Sem Next)).run C.P w = _
    simp only [resolve]
    show ((callFunc f ((#[] ++ args.map a.eval) ++ #[])) : Sem Next).run C.P w = _
    rw [show (#[] ++ args.map a.eval) ++ #[] = args.map a.eval by simp]
    exact this
  unfold Oper.wp
  rw [hrun]
  refine (hp.run w _ (fits_args hr hfit hno)).mono ?_
  rintro e w' ⟨v, rfl, hB⟩
  obtain ⟨N, hN, hv⟩ := hB 0
  rw [hd] at hv
  refine hk M _ _ _ h ((hr.later hN.os hN.tape hN.output hN.size hN.block).put hds ?_)
  refine VR.new (b := fun _ => true) (r := fun _ => true) (fun f b hb hA => ⟨⟨fun ho => ?_, fun _ => .inl (Nat.le_trans hr.fr.size hA.1)⟩, hb, rfl⟩) (fun x y hx => by simp at hx) (fun x y hx => by simp at hx) (by simpa [noIds] using hm) hv
  have := hr.lt b ho; have := hA.1; omega⟩
theorem qCall {f : FuncId} {args : Array Operand} {ts : Array TypeId} {ds : List D} {d : D} (hp : PCall C.P f ds [] d) (hop : o.op = .call { callee := .value (.func f), args := args, argTypes := ts }) (hw : Wanted C ops o s) (hn : dstOk C.n o.dst = true)
    (hno : (ds.all noIds) = true) (hm : noIds d = true) (hd : ren id (fun j => 0 + j) d = d) (hfit : fits s args.toList ds) : QV C ops o s d :=
  qStep hw fun s1 hag => by
    refine sCall0 hop hp hn ?_ hno hm hd rfl
    rw [fits_congr hag.r _ _ (fun x hx => hag.ev x (by rw [hop]; simp only [Op.operands, Call.operands]; exact Array.mem_append.2 (.inr (by simpa using hx))))]
    exact hfit

/-! ### the moves of a chain, states written out -/
theorem cNil (h : K s) : QC C ops K [] s := h
theorem wNone (hg : o.guard = none) : Wanted C ops o s := .inl hg
theorem wSome {j t : Nat} {want b : Bool} (hg : o.guard = some (j, want)) (hd : gdst ops j = some t) (ht : Nat.blt t C.n = true) (hs : s.t t = .bool b) (hb : b = want) : Wanted C ops o s := .inr ⟨j, want, t, b, hg, hd, ht, hs, hb⟩
theorem cVal (hT : TTOK C.P TT) (hi : isV o.op = true) (hw : Wanted C ops o ⟨tm, rw', bx⟩) {t : Nat} (hd : o.dst = some t) (hn : Nat.blt t C.n = true) {ob : Prop} {d : D} (hv : evalF TT ⟨tm, rw', bx⟩ o.op = some (ob, d)) (hob : ob) (h : QC C ops K rest ⟨(t, d) :: tm, rw', bx⟩) : QC C ops K (o :: rest) ⟨tm, rw', bx⟩ :=
  ⟨d, qVal hT hw hv (by rw [hd]; exact hn) hob, by rw [hd]; exact h⟩
theorem cNo {j y : Nat} {want b : Bool} (hg : o.guard = some (j, want)) (hgd : gdst ops j = some y) (hy : Nat.blt y C.n = true) (hs : (PS.t ⟨tm, rw', bx⟩ y) = .bool b) (hb : b = !want) {t : Nat} (hd : o.dst = some t) (hn : Nat.blt t C.n = true)
    (h : QC C ops K rest ⟨(t, .tup []) :: tm, rw', bx⟩) : QC C ops K (o :: rest) ⟨tm, rw', bx⟩ :=
  ⟨.tup [], qNo hg hgd hy hs hb (by rw [hd]; exact hn), by rw [hd]; exact h⟩
theorem cNoU {j y : Nat} {want : Bool} (hg : o.guard = some (j, want)) (hgd : gdst ops j = some y) (hs : (PS.t ⟨tm, rw', bx⟩ y) = .tup []) {t : Nat} (hd : o.dst = some t) (hn : Nat.blt t C.n = true)
    (h : QC C ops K rest ⟨(t, .tup []) :: tm, rw', bx⟩) : QC C ops K (o :: rest) ⟨tm, rw', bx⟩ :=
  ⟨.tup [], qNoU hg hgd hs (by rw [hd]; exact hn), by rw [hd]; exact h⟩
theorem cPickT {c x y : Operand} {b : Bool} (hop : o.op = .pick c x y) (hw : Wanted C ops o ⟨tm, rw', bx⟩) (hc : (PS.ev ⟨tm, rw', bx⟩ c) = .bool b) {t : Nat} (hd : o.dst = some t) (hn : Nat.blt t C.n = true) {d : D} (hb : b = true) (hx : (fcD (PS.ev ⟨tm, rw', bx⟩ x) some) = some d)
    (h : QC C ops K rest ⟨(t, d) :: tm, rw', bx⟩) : QC C ops K (o :: rest) ⟨tm, rw', bx⟩ := by
  rw [fcD_eq] at hx
  cases hx
  exact ⟨_, qPick hop hw hc (by rw [hd]; exact hn) (.inl ⟨hb, rfl⟩), by rw [hd]; exact h⟩
theorem cPickF {c x y : Operand} {b : Bool} (hop : o.op = .pick c x y) (hw : Wanted C ops o ⟨tm, rw', bx⟩) (hc : (PS.ev ⟨tm, rw', bx⟩ c) = .bool b) {t : Nat} (hd : o.dst = some t) (hn : Nat.blt t C.n = true) {d : D} (hb : b = false) (hx : (fcD (PS.ev ⟨tm, rw', bx⟩ y) some) = some d)
    (h : QC C ops K rest ⟨(t, d) :: tm, rw', bx⟩) : QC C ops K (o :: rest) ⟨tm, rw', bx⟩ := by
  rw [fcD_eq] at hx
  cases hx
  exact ⟨_, qPick hop hw hc (by rw [hd]; exact hn) (.inr ⟨hb, rfl⟩), by rw [hd]; exact h⟩
theorem cCall {f : FuncId} {args : Array Operand} {ts : Array TypeId} {ds : List D} {d d' : D} (hp : PCall C.P f ds [] d) (hop : o.op = .call { callee := .value (.func f), args := args, argTypes := ts }) (hw : Wanted C ops o ⟨tm, rw', bx⟩) {b : Nat} (hd : o.dst = some b) (hn : Nat.blt b C.n = true)
    (hno : (ds.all noIds) = true) (hm : noIds d = true) (hre : ren id (fun j => 0 + j) d = d) (hx : (fcD d some) = some d') (hfit : fits ⟨tm, rw', bx⟩ args.toList ds) (h : QC C ops K rest ⟨(b, d') :: tm, rw', bx⟩) : QC C ops K (o :: rest) ⟨tm, rw', bx⟩ := by
  rw [fcD_eq] at hx
  cases hx
  exact ⟨d, qCall hp hop hw (by rw [hd]; exact hn) hno hm hre hfit, by rw [hd]; exact h⟩
end
end Go.Proofs.Ytlmlfbjcpajinaa
