/- Functions that write what they are handed; other names; maps. -/
import Derived.Test.YtkpmijmlbpdknaaM3
import Derived.MapKept
namespace Go.Proofs.Ytkpmijmlbpdknaa
open Go.RowKit Go.Deep
set_option linter.unusedSimpArgs false
set_option linter.unusedVariables false

section
variable {C : Cx} {ops : Array Oper} {K : PS → Prop} {o : Oper} {rest : List Oper} {s s' : PS} {rk rids bk bids pids : List Nat} {tm : List (Nat × D)} {rw' : List (Nat × Option (TypeId × Sq))} {bx : List (Nat × Option (List D))}
theorem oMCall {f : FuncId} {args : Array Operand} {ts : Array TypeId} {ds : List D} {r0 r1 : List (TypeId × Sq)} {b0 b1 : List (List D)} {d : D} (hp : MCall C.P f ds rk bk r0 r1 b0 b1 d) (rids bids pids : List Nat) (hg : o.guard = none) (hop : o.op = .call { callee := .value (.func f), args := args, argTypes := ts }) (hn : dstOk C.n o.dst = true)
    (hchk : mchk rk rids bk bids pids = true) (hf : frB ⟨tm, rw', bx⟩ noB (newP rids pids) = true)
    (hnf : nf ((PS.after ⟨tm, rw', bx⟩ rids pids r1 bids (b1.map fun cs => cs.map (renS (sgm bk bids) (sgm rk pids)))).put o.dst d) = some s')
    (hr : pairOk (PS.r ⟨tm, rw', bx⟩) rids r0) (hb : pairOk (PS.b ⟨tm, rw', bx⟩) bids (b0.map fun cs => cs.map (renS (sgm bk bids) (sgm rk rids)))) (hfit : fitsM rk rids bk bids ⟨tm, rw', bx⟩ args.toList ds) (h : VO C ops K rest s') : VO C ops K (o :: rest) ⟨tm, rw', bx⟩ :=
  vOp hg (sMCall hop hp hn hchk (frB_ok hf) hr hb hfit (vNf hnf h))
theorem oMCallG {f : FuncId} {args : Array Operand} {ts : Array TypeId} {ds : List D} {r0 r1 : List (TypeId × Sq)} {b0 b1 : List (List D)} {d : D} (hp : MCall C.P f ds rk bk r0 r1 b0 b1 d) (rids bids pids : List Nat) {j y : Nat} {want b' : Bool} (hg : o.guard = some (j, want)) (hgd : gdst ops j = some y) (hy : Nat.blt y C.n = true) (hs : (PS.t ⟨tm, rw', bx⟩ y) = .bool b') (hbb : b' = want)
    (hop : o.op = .call { callee := .value (.func f), args := args, argTypes := ts }) (hn : dstOk C.n o.dst = true)
    (hchk : mchk rk rids bk bids pids = true) (hf : frB ⟨tm, rw', bx⟩ noB (newP rids pids) = true)
    (hnf : nf ((PS.after ⟨tm, rw', bx⟩ rids pids r1 bids (b1.map fun cs => cs.map (renS (sgm bk bids) (sgm rk pids)))).put o.dst d) = some s')
    (hr : pairOk (PS.r ⟨tm, rw', bx⟩) rids r0) (hb : pairOk (PS.b ⟨tm, rw', bx⟩) bids (b0.map fun cs => cs.map (renS (sgm bk bids) (sgm rk rids)))) (hfit : fitsM rk rids bk bids ⟨tm, rw', bx⟩ args.toList ds) (h : VO C ops K rest s') : VO C ops K (o :: rest) ⟨tm, rw', bx⟩ :=
  vOpG hg hgd hy hs hbb (sMCall hop hp hn hchk (frB_ok hf) hr hb hfit (vNf hnf h))

/-! ### closures -/
theorem capsOf_all {β : Nat → Option Nat} : ∀ {bs : List Nat}, (∀ b ∈ bs, ∃ k, β b = some k) → ∃ ks, capsOf β bs = some ks ∧ ks.length = bs.length ∧ ∀ (i b : Nat), bs[i]? = some b → β b = ks[i]?
  | [], _ => ⟨[], rfl, rfl, by simp⟩
  | b :: bs, h => by
    obtain ⟨k, hk⟩ := h b (by simp)
    obtain ⟨ks, h1, h2, h3⟩ := capsOf_all (bs := bs) fun x hx => h x (by simp [hx])
    refine ⟨k :: ks, by simp [capsOf, hk, h1], by simp [h2], fun i x hx => ?_⟩
    cases i with
    | zero => simp at hx; subst hx; simpa using hk
    | succ i => simpa using h3 i x (by simpa using hx)
/-- a closure's call: what it holds comes behind the arguments -/
theorem sMClo {f : FuncId} {x : Operand} {args : Array Operand} {ts : Array TypeId} {bs cs : List Nat} {ds : List D} {r0 r1 : List (TypeId × Sq)} {b0 b1 : List (List D)} {d : D} (hop : o.op = .call { callee := .value x, args := args, argTypes := ts }) (hx : s.ev x = .clo f bs)
    (hp : MCall C.P f (ds ++ cs.map fun b => .ptr b 0) rk bk r0 r1 b0 b1 d) (hcs : cs.map (sgm bk bids) = bs) (hin : cs.all (isInL bk) = true) (hds : dstOk C.n o.dst = true)
    (hchk : mchk rk rids bk bids pids = true) (hf : Fresh s noB (newP rids pids)) (hr : pairOk s.r rids r0) (hb : pairOk s.b bids (b0.map fun cs => cs.map (renS (sgm bk bids) (sgm rk rids)))) (hfit : fitsM rk rids bk bids s args.toList ds)
    (h : K ((s.after rids pids r1 bids (b1.map fun cs => cs.map (renS (sgm bk bids) (sgm rk pids)))).put o.dst d)) : Step C o s K := by
  refine sMCallAny hp hds (fun M a w hr' => ?_) hchk hf hr hb h
  simp only [mchk, Bool.and_eq_true] at hchk
  have lb := Nat.eq_of_beq_eq_true hchk.1.1.1.1.2
  have hev := hr'.ev x
  rw [hx] at hev
  have hbox : ∀ {l : List Nat} {m : List (List D)}, pairOk s.b l m → ∀ b ∈ l, ∃ k, M.β b = some k := by
    intro l
    induction l with
    | nil => intro m _ b hb; simp at hb
    | cons i l ih =>
      intro m hm b hb
      cases m with
      | nil => exact hm.elim
      | cons y m =>
        rcases List.mem_cons.1 hb with rfl | hb
        · obtain ⟨k, cur, e, g, _⟩ := hr'.box b y hm.1
          exact ⟨k, g⟩
        · exact ih hm.2 b hb
  have hmem : ∀ c ∈ cs, ∃ i, mp bk bids c = some i ∧ i ∈ bids := fun c hc => by
    simp only [List.all_eq_true] at hin
    obtain ⟨i, hi⟩ := mp_some lb (isIn_mem (hin c hc))
    exact ⟨i, hi, (mp_mem hi).2⟩
  obtain ⟨ks, k1, k2, k3⟩ := capsOf_all (β := M.β) (bs := bs) fun b hb' => by
    rw [← hcs, List.mem_map] at hb'
    obtain ⟨c, hc, rfl⟩ := hb'
    obtain ⟨i, hi, hi'⟩ := hmem c hc
    simp only [sgm, hi]
    exact hbox hb i hi'
  have hv : a.eval x = cloV f ks := by cases hev with | clo _ _ _ h1 h2 => exact h2 ks k1
  refine ⟨args.map a.eval ++ (ks.map fun k => Value.pointer (some ⟨k, 0, none⟩)).toArray, ?_, ?_⟩
  · have := hp.enter (args.map a.eval ++ (ks.map fun k => Value.pointer (some ⟨k, 0, none⟩)).toArray) w
    unfold execOp
    rw [hop]
    show ((do let d ← resolve a.eval _ o.type; invoke d.target d.args : Sem Next)).run C.P w = _
    simp only [resolve, hv, cloV, Deferred.ofValue]
    show ((callFunc f ((#[] ++ args.map a.eval) ++ (ks.map fun k => Value.pointer (some ⟨k, 0, none⟩)).toArray)) : Sem Next).run C.P w = _
    rw [show (#[] ++ args.map a.eval) = args.map a.eval by simp]
    exact this
  · obtain ⟨g1, g2⟩ := fitsM_ok (M := M) (w := w) (a := a) Rel.mon (Nat.eq_of_beq_eq_true hchk.1.1.1.1.1.1) lb hr'.ev hfit
    have hk : ks.length = cs.length := by rw [k2, ← hcs]; simp
    refine ⟨by simp at g1; simp [g1, hk], fun i d hd => ?_⟩
    by_cases hi : i < ds.length
    · rw [List.getElem?_append_left hi] at hd
      obtain ⟨x, h1, h2⟩ := g2 i d hd
      rw [Array.getElem?_toList] at h1
      have hi2 : i < args.size := (Array.getElem?_eq_some_iff.1 h1).1
      have : (args.map a.eval ++ (ks.map fun k => Value.pointer (some ⟨k, 0, none⟩)).toArray).getD i undef = a.eval x := by
        have e1 : (args.map a.eval ++ (ks.map fun k => Value.pointer (some ⟨k, 0, none⟩)).toArray)[i]? = some (a.eval x) := by
          rw [Array.getElem?_append_left (by simpa using hi2)]; simp [h1]
        simp [e1]
      rw [this]; exact h2
    · rw [List.getElem?_append_right (by omega)] at hd
      rw [List.getElem?_map] at hd
      obtain ⟨c, hc, rfl⟩ := Option.map_eq_some_iff.1 hd
      obtain ⟨i', hi', _⟩ := hmem c (List.mem_of_getElem? hc)
      have h5 : bs[i - ds.length]? = some i' := by rw [← hcs]; simp [hc, sgm, hi']
      have h6 := k3 _ _ h5
      have hlt : i - ds.length < cs.length := (List.getElem?_eq_some_iff.1 hc).1
      have hlen : args.size = ds.length := by simpa using g1
      have e1 : (args.map a.eval ++ (ks.map fun k => Value.pointer (some ⟨k, 0, none⟩)).toArray)[i]? = some (.pointer (some ⟨ks[i - ds.length]'(by omega), 0, none⟩)) := by
        rw [Array.getElem?_append_right (by simp; omega)]
        simp [hlen, show i - ds.length < ks.length from by omega]
      have : (args.map a.eval ++ (ks.map fun k => Value.pointer (some ⟨k, 0, none⟩)).toArray).getD i undef = .pointer (some ⟨ks[i - ds.length]'(by omega), 0, none⟩) := by simp [e1]
      rw [this]
      refine .ptr _ _ _ rfl fun k hk' => ?_
      simp only [subM, hi'] at hk'
      rw [h6, List.getElem?_eq_getElem (by omega)] at hk'
      cases hk'; rfl
theorem oMClo {f : FuncId} {x : Operand} {args : Array Operand} {ts : Array TypeId} {bs cs : List Nat} {ds : List D} {r0 r1 : List (TypeId × Sq)} {b0 b1 : List (List D)} {d : D} (cs : List Nat) (ds : List D) (hp : MCall C.P f (ds ++ cs.map fun b => .ptr b 0) rk bk r0 r1 b0 b1 d) (rids bids pids : List Nat) (hg : o.guard = none) (hop : o.op = .call { callee := .value x, args := args, argTypes := ts })
    (hx : (PS.ev ⟨tm, rw', bx⟩ x) = .clo f bs) (hcs : cs.map (sgm bk bids) = bs) (hin : cs.all (isInL bk) = true) (hn : dstOk C.n o.dst = true)
    (hchk : mchk rk rids bk bids pids = true) (hf : frB ⟨tm, rw', bx⟩ noB (newP rids pids) = true)
    (hnf : nf ((PS.after ⟨tm, rw', bx⟩ rids pids r1 bids (b1.map fun cs => cs.map (renS (sgm bk bids) (sgm rk pids)))).put o.dst d) = some s')
    (hr : pairOk (PS.r ⟨tm, rw', bx⟩) rids r0) (hb : pairOk (PS.b ⟨tm, rw', bx⟩) bids (b0.map fun cs => cs.map (renS (sgm bk bids) (sgm rk rids)))) (hfit : fitsM rk rids bk bids ⟨tm, rw', bx⟩ args.toList ds) (h : VO C ops K rest s') : VO C ops K (o :: rest) ⟨tm, rw', bx⟩ :=
  vOp hg (sMClo hop hx hp hcs hin hn hchk (frB_ok hf) hr hb hfit (vNf hnf h))

/-- the closure made -/
theorem sMakeFunc {fn : FuncId} {caps : Array Operand} {bs : List Nat} {cd : List D} {b : Nat} (hop : o.op = .makeFunc (.func fn) #[] caps) (hd : o.dst = some b) (hc : caps.toList.map s.ev = cd) (hcd : cd = bs.map fun b => .ptr b 0) (hn : Nat.blt b C.n = true) (h : K (s.put (some b) (.clo fn bs))) : Step C o s K := by
  refine sRun (fun M a w hr => ?_) (by rw [hd]; exact hn) (by rw [hd]; exact h)
  refine ⟨.func (.func fn) #[] (caps.map a.eval), ?_, ?_⟩
  · unfold execOp
    rw [hop]
    show ((do pure (Next.value (← Instr.makeFunc (.func fn) ((#[] : Array Operand).map a.eval) (caps.map a.eval)))) : Sem Next).run C.P w = _
    rw [show (#[] : Array Operand).map a.eval = #[] from by simp]
    rfl
  · refine .clo _ _ _ rfl fun ks hk => ?_
    subst hcd
    unfold cloV
    congr 1
    have key : ∀ (l : List Operand) (bs : List Nat) (ks : List Nat), l.map s.ev = bs.map (fun b => D.ptr b 0) → capsOf M.β bs = some ks → l.map a.eval = ks.map fun k => Value.pointer (some ⟨k, 0, none⟩) := by
      intro l
      induction l with
      | nil => intro bs ks h1 h2; cases bs <;> simp at h1; simp [capsOf] at h2; subst h2; rfl
      | cons x l ih =>
        intro bs ks h1 h2
        cases bs with
        | nil => simp at h1
        | cons b bs =>
          simp only [List.map_cons, List.cons.injEq] at h1
          simp only [capsOf] at h2
          split at h2
          · rename_i k ks' e1 e2
            cases h2
            have hv := hr.ev x
            rw [h1.1] at hv
            cases hv with
            | ptr _ _ _ g1 g2 => simp only [List.map_cons]; rw [g2 k e1, ih bs ks' h1.2 e2]
          · cases h2
    apply Array.ext'
    rw [Array.toList_map]
    exact key caps.toList bs ks hc hk
theorem oMakeFunc (hg : o.guard = none) {fn : FuncId} {caps : Array Operand} (bs : List Nat) {b : Nat} (hop : o.op = .makeFunc (.func fn) #[] caps) (hd : o.dst = some b) (hc : caps.toList.map (PS.ev ⟨tm, rw', bx⟩) = bs.map fun b => .ptr b 0) (hn : Nat.blt b C.n = true) (h : VO C ops K rest ⟨(b, .clo fn bs) :: tm, rw', bx⟩) : VO C ops K (o :: rest) ⟨tm, rw', bx⟩ :=
  vOp hg (sMakeFunc hop hd hc rfl hn h)
end

/-! ### a function that writes what it is handed -/
def fixI : List Nat → List Nat → Bool
  | k :: rk, i :: ids => (Nat.blt k 1000000 || Nat.beq k i) && fixI rk ids
  | _, _ => true
theorem fixI_ok : ∀ {rk ids : List Nat} {k i : Nat}, fixI rk ids = true → mp rk ids k = some i → 1000000 ≤ k → i = k
  | [], ids, k, i, _, h, _ => by simp [mp] at h
  | k' :: rk, [], k, i, _, h, _ => by simp [mp] at h
  | k' :: rk, i' :: ids, k, i, hf, h, hk => by
    simp only [fixI, Bool.and_eq_true, Bool.or_eq_true] at hf
    by_cases he : k' = k
    · subst he
      rw [mp_cons_self] at h
      cases h
      rcases hf.1 with h1 | h1
      · rw [Nat.blt_eq] at h1; omega
      · exact (Nat.eq_of_beq_eq_true h1).symm
    · rw [mp_cons_ne he] at h
      exact fixI_ok hf.2 h hk
def RetM (TT : List (Nat × Ty)) (res : List ResultVar) (rk bk : List Nat) (r1 : List (TypeId × Sq)) (b1 : List (List D)) (d : D) : Exit → PS → Prop := fun e s => match e with
  | .normal | .ret => ∃ ids, retD TT s res = some d ∧ pairOk s.r ids r1 ∧ pairOk s.b bk (b1.map fun cs => cs.map (renS (sgm bk bk) (sgm rk ids))) ∧ (Nat.beq rk.length ids.length && nodupB ids && fixI rk ids) = true
  | _ => False
theorem pairOk_in {α : Type} {f : Nat → Option α} : ∀ {l : List Nat} {m : List α}, pairOk f l m → ∀ x ∈ l, ∃ y, f x = some y
  | [], _, _, x, h => by simp at h
  | i :: l, [], h, _, _ => h.elim
  | i :: l, y :: m, h, x, hx => by
    rcases List.mem_cons.1 hx with rfl | hx
    · exact ⟨y, h.1⟩
    · exact pairOk_in h.2 x hx
theorem mcall_intro {P : Program} {f : FuncId} {fn : Func} {c : Code} {TT : List (Nat × Ty)} {ds : List D} {rk bk : List Nat} {r0 r1 : List (TypeId × Sq)} {b0 b1 : List (List D)} {d : D} {n : Nat} {res : List ResultVar} (hT : TTOK P TT) (hf : P.funcs[f]? = some fn) (hb : fn.body = some c)
    (hname : (fn.name == "runtime.NumGoroutine") = false) (hn : fn.ntmps = n) (hres : fn.results.toList = res) (hds : Nat.ble ds.length n = true)
    (hlen : (Nat.beq rk.length r0.length && Nat.beq rk.length r1.length && Nat.beq bk.length b0.length && Nat.beq bk.length b1.length && nodupB rk && nodupB bk && bk.all (Nat.ble 1000000)) = true) (hc0 : conB rk bk b0 = true) (hc1 : conB rk bk b1 = true) (hd : noIds d = true)
    (h : ∀ w0 O0, VC ⟨P, w0, O0, n⟩ c (RetM TT res rk bk r1 b1 d) ⟨entL 0 ds, asL rk r0, asL bk b0⟩) (hn1000 : Nat.ble n 1000 = true := by rfl) : MCall P f ds rk bk r0 r1 b0 b1 d := by
  subst hn hres
  simp only [Bool.and_eq_true] at hlen
  obtain ⟨⟨⟨⟨⟨⟨l1, l2⟩, l3⟩, l4⟩, l5⟩, l6⟩, l7⟩ := hlen
  have m1 := Nat.eq_of_beq_eq_true l1
  have m2 := Nat.eq_of_beq_eq_true l2
  have m3 := Nat.eq_of_beq_eq_true l3
  have m4 := Nat.eq_of_beq_eq_true l4
  refine ⟨callFunc_of hf hname (by simp [hb]), ⟨m1, m2, m3, m4⟩, hc0, hc1, hd, ⟨l5, l6⟩, fun w0 N args A hAN hmon pre ⟨hsz, hargs⟩ => ?_⟩
  have hle := Nat.le_of_ble_eq_true hds
  let O0 : Hd := ⟨N.owned, fun f k => A f k ∨ N.owned k, fun _ _ h => .inr h, fun k h => h.imp_left (hmon k), fun b => if 1000000 ≤ b then N.β b else none, fun r => if 1000000 ≤ r then N.γ r else none,
    (fun b k hk => by split at hk <;> first | assumption | cases hk), (fun r x hx => by split at hx <;> first | assumption | cases hx)⟩
  have hA : ∀ f b, b < w0.heap.size → A f b → Ow (Fs w0 O0) N f b ∧ b < w0.heap.size ∧ w0.heap[b]? = w0.heap[b]? := fun f b h1 h2 => ⟨⟨hAN f b h2, .inr (.inl h2)⟩, h1, rfl⟩
  have hent : Rel w0 O0 fn.ntmps N ⟨entL 0 ds, asL rk r0, asL bk b0⟩ { tmps := args ++ Array.replicate (fn.ntmps - args.size) undef, defers := [] } w0 := by
    refine ⟨⟨rfl, rfl, rfl, Nat.le_refl _, fun _ _ _ => rfl⟩, rfl, by simp; omega, fun t => ?_, fun b cs hb => ?_, pre.boxn, fun r e q hr => ?_, pre.rown, fun k hk => .inr hk, pre.inj1, pre.inj2, pre.inj3, Nat.le_of_ble_eq_true hn1000, fun b k k' h1 h2 => ?_, fun r x x' h1 h2 => ?_⟩
    · simp only [PS.t, look_entL, Nat.zero_le, if_true, Nat.sub_zero]
      cases hd : ds[t]? with
      | none => exact .dead _
      | some d0 =>
        have hlt : t < args.size := by rw [hsz]; exact (List.getElem?_eq_some_iff.1 hd).1
        have h1 := hargs t d0 hd
        have h2 : (args ++ Array.replicate (fn.ntmps - args.size) undef).getD t undef = args.getD t undef := by
          simp [Array.getElem?_append_left hlt]
        rw [h2]
        exact h1.mono hA (fun _ _ h => h) (fun _ _ h => h)
    · obtain ⟨k, cur, e, g1, g2, g3, g4⟩ := pre.box b cs hb
      exact ⟨k, cur, e, g1, g2, g3, fun j d hj => (g4 j d hj).mono hA (fun _ _ h => h) (fun _ _ h => h)⟩
    · rcases pre.row r e q hr with ⟨g1, g2⟩ | ⟨g, cap, cur, g1, g2, g3, g4, g5, g6⟩
      · exact .inl ⟨g1, g2⟩
      · exact .inr ⟨g, cap, cur, g1, g2, g3, g4, g5, fun i j d hi hj => (g6 i j d hi hj).mono hA (fun _ _ h => h) (fun _ _ h => h)⟩
    · simp only [O0] at h1
      split at h1
      · rw [h1] at h2; cases h2; rfl
      · cases h1
    · simp only [O0] at h1
      split at h1
      · rw [h1] at h2; cases h2; rfl
      · cases h1
  refine calls_of_wp hf hb (Code.wp_mono ?_ ((h w0 O0).out N _ w0 hent))
  rintro e a' w' ⟨s', M', hq, hr⟩
  have fin : ∀ (hq : ∃ ids, retD TT s' fn.results.toList = some d ∧ pairOk s'.r ids r1 ∧ pairOk s'.b bk (b1.map fun cs => cs.map (renS (sgm bk bk) (sgm rk ids))) ∧ (Nat.beq rk.length ids.length && nodupB ids && fixI rk ids) = true),
      a'.defers = [] ∧ ∃ v, (results fn a'.tmps).run P w' = .ok v w' ∧ ∃ v', Ending.returned v = .returned v' ∧ ∃ N', HasM (A2 A w0 N N') N' ⟨[], asL rk r1, asL bk b1⟩ w' ∧ (∀ b, N'.β b = N.β b) ∧ (∀ r, 1000000 ≤ r → N'.γ r = N.γ r) ∧
        (∀ k, N'.owned k → N.owned k ∨ w0.heap.size ≤ k) ∧ w'.os = w0.os ∧ w'.tape = w0.tape ∧ w'.output = w0.output ∧ w0.heap.size ≤ w'.heap.size ∧ (∀ k, k < w0.heap.size → ¬ N.owned k → w'.heap[k]? = w0.heap[k]?) ∧ VR N' (A2 A w0 N N') w' d v' := by
    rintro ⟨ids, h1, h2, h3, h4⟩
    obtain ⟨v, h6, h7⟩ := ret_ok hT hr h1
    simp only [Bool.and_eq_true] at h4
    have k1 := Nat.eq_of_beq_eq_true h4.1.1
    have hAA : ∀ f k, k < w'.heap.size → Ow (Fs w0 O0) M' f k → A2 A w0 N (subM M' rk ids bk bk) f k := fun f k _ ho => by
      refine ⟨?_, fun h => ho.1 (subM_own h)⟩
      rcases ho.2 with g | g | g
      · exact .inr (.inl g)
      · exact .inl g
      · exact .inr (.inr g)
    have hs := hr.sub (A' := A2 A w0 N (subM M' rk ids bk bk)) hAA k1 rfl h2 h3 hc1 h4.1.2 l6
    have hself : ∀ {l : List Nat} {x : Nat}, x ∈ l → mp l l x = some x := by
      intro l
      induction l with
      | nil => intro x hx; simp at hx
      | cons y l ih =>
        intro x hx
        by_cases hy : y = x
        · subst hy; exact mp_cons_self _ _ _ _
        · rw [mp_cons_ne hy]; exact ih (by simpa [Ne.symm hy] using hx)
    refine ⟨hr.dfr, v, h6, v, rfl, subM M' rk ids bk bk, hs, fun b => ?_, fun r hr1 => ?_, fun k hk => ?_, hr.fr.os, hr.fr.tape, hr.fr.output, hr.fr.size, fun k g1 g2 => hr.fr.block k g1 g2, ?_⟩
    · by_cases hb' : b ∈ bk
      · simp only [subM, hself hb']
        obtain ⟨y, hy⟩ := pairOk_in h3 b hb'
        obtain ⟨k, cur, e, g1, _⟩ := hr.box b y hy
        have hge : 1000000 ≤ b := by
          have := (List.all_eq_true.1 l7) b hb'
          exact Nat.le_of_ble_eq_true this
        obtain ⟨z, hz⟩ : ∃ z, (PS.b ⟨entL 0 ds, asL rk r0, asL bk b0⟩ b) = some z := by
          rcases asL_look2 (k := bk) (i := bk) (x := b0) (r := b) rfl m3 with ⟨_, e2⟩ | ⟨y, j, e1, _, _⟩
          · rw [hself hb'] at e2; cases e2
          · exact ⟨y, by simp [PS.b, e1]⟩
        obtain ⟨k', cur', e', g1', _⟩ := pre.box b z hz
        have := hr.fxb b k' k (by simp [O0, hge, g1']) g1
        rw [g1, g1', this]
      · have e1 : mp bk bk b = none := by
          cases hm : mp bk bk b with
          | none => rfl
          | some i => exact absurd (mp_mem hm).1 hb'
        simp only [subM, e1]
        refine (pre.boxn b ?_).symm
        simp [PS.b, asL_none m3 hb']
    · by_cases hrk : r ∈ rk
      · obtain ⟨i, hi⟩ := mp_some k1 hrk
        have := fixI_ok h4.2 hi hr1
        subst this
        simp only [subM, hi]
        obtain ⟨⟨e0, q0⟩, hq0⟩ : ∃ z, (PS.r ⟨entL 0 ds, asL rk r0, asL bk b0⟩ i) = some z := by
          rcases asL_look2 (k := rk) (i := rk) (x := r0) (r := i) rfl m1 with ⟨_, e2⟩ | ⟨y, j, e1, _, _⟩
          · rw [hself hrk] at e2; cases e2
          · exact ⟨y, by simp [PS.r, e1]⟩
        obtain ⟨x, hx⟩ : ∃ x, N.γ i = some x := by
          rcases pre.row i e0 q0 hq0 with ⟨g1, _⟩ | ⟨g, cap, cur, g1, _⟩
          · exact ⟨_, g1⟩
          · exact ⟨_, g1⟩
        obtain ⟨⟨e1, q1⟩, hq1⟩ := pairOk_in h2 i (mp_mem hi).2
        obtain ⟨x', hx'⟩ : ∃ x, M'.γ i = some x := by
          rcases hr.row i e1 q1 hq1 with ⟨g1, _⟩ | ⟨g, cap, cur, g1, _⟩
          · exact ⟨_, g1⟩
          · exact ⟨_, g1⟩
        have := hr.fxr i x x' (by simp [O0, hr1, hx]) hx'
        rw [hx, hx', this]
      · have e1 : mp rk ids r = none := by
          cases hm : mp rk ids r with
          | none => rfl
          | some i => exact absurd (mp_mem hm).1 hrk
        simp only [subM, e1]
        refine (pre.rown r ?_).symm
        simp [PS.r, asL_none m1 hrk]
    · exact (hr.low k (subM_own hk)).symm
    · exact VR.new (b := fun _ => true) (r := fun _ => true) (fun f k g1 g2 => ⟨hAA f k g1 g2, g1, rfl⟩) (fun x y hx => by simp at hx) (fun x y hx => by simp at hx) (by simpa [noIds] using hd) h7
  cases e with
  | normal => exact fin hq
  | ret => exact fin hq
  | _ => exact hq.elim

/-! ### other names -/
def sgI (l m : List Nat) (r : Nat) : Nat := match mp l m r with | some i => i | none => r
def eqT (s : PS) (τ : Nat → Nat) : List (Nat × D) → Prop
  | [] => True
  | (t, d) :: l => (d = .dead ∨ s.t t = ren id τ d) ∧ eqT s τ l
def eqR (s : PS) (τ : Nat → Nat) : List (Nat × Option (TypeId × Sq)) → Prop
  | [] => True
  | (r, x) :: l => (x = none ∨ s.r (τ r) = x) ∧ eqR s τ l
def eqC (τ : Nat → Nat) : List D → List D → Prop
  | [], [] => True
  | a :: l, b :: m => (b = .dead ∨ a = renS id τ b) ∧ eqC τ l m
  | _, _ => False
theorem eqC_ok {τ : Nat → Nat} : ∀ {l m : List D}, eqC τ l m → l.length = m.length ∧ ∀ (j : Nat) d, m[j]? = some d → d = .dead ∨ l[j]? = some (renS id τ d)
  | [], [], _ => ⟨rfl, by simp⟩
  | a :: l, b :: m, h => by
    obtain ⟨h1, h2⟩ := eqC_ok h.2
    refine ⟨by simp [h1], fun j d hd => ?_⟩
    cases j with
    | zero => simp at hd; subst hd; simpa using h.1
    | succ j => simpa using h2 j d (by simpa using hd)
  | [], _ :: _, h => h.elim
  | _ :: _, [], h => h.elim
def eqB (s : PS) (τ : Nat → Nat) : List (Nat × Option (List D)) → Prop
  | [] => True
  | (b, x) :: l => (x = none ∨ ∃ cs0 cs, x = some cs ∧ s.b b = some cs0 ∧ eqC τ cs0 cs) ∧ eqB s τ l
/-- no structs within structs -/
def tidy (s : PS) : Bool := s.tmp.all (fun p => !ment noB noB p.2) && s.box.all (fun p => match p.2 with | some cs => cs.all (fun d => !mentS noB noB d) | none => true)
theorem eqT_ok {s : PS} {τ : Nat → Nat} : ∀ {l : List (Nat × D)}, eqT s τ l → ∀ t d, look l t = some d → d = .dead ∨ s.t t = ren id τ d
  | [], _, t, d, h => by simp [look] at h
  | (k, x) :: l, h, t, d, hl => by
    by_cases hk : k = t
    · subst hk; rw [look_cons_self] at hl; cases hl; exact h.1
    · rw [look_cons_ne hk] at hl; exact eqT_ok h.2 t d hl
theorem eqR_ok {s : PS} {τ : Nat → Nat} : ∀ {l : List (Nat × Option (TypeId × Sq))}, eqR s τ l → ∀ r x, look l r = some (some x) → s.r (τ r) = some x
  | [], _, t, d, h => by simp [look] at h
  | (k, y) :: l, h, r, x, hl => by
    by_cases hk : k = r
    · subst hk; rw [look_cons_self] at hl; cases hl; exact h.1.resolve_left (by simp)
    · rw [look_cons_ne hk] at hl; exact eqR_ok h.2 r x hl
theorem eqB_ok' {s : PS} {τ : Nat → Nat} : ∀ {l : List (Nat × Option (List D))}, eqB s τ l → ∀ b cs, look l b = some (some cs) → ∃ cs0, s.b b = some cs0 ∧ eqC τ cs0 cs
  | [], _, t, d, h => by simp [look] at h
  | (k, y) :: l, h, b, cs, hl => by
    by_cases hk : k = b
    · subst hk; rw [look_cons_self] at hl; cases hl
      rcases h.1 with h1 | ⟨cs0, cs', h1, h2, h3⟩
      · cases h1
      · cases h1; exact ⟨cs0, h2, h3⟩
    · rw [look_cons_ne hk] at hl; exact eqB_ok' h.2 b cs hl
def renOk (l m : List Nat) (s' : PS) : Bool := tidy s' && nodupB (s'.row.map fun p => sgI l m p.1) && s'.row.all fun p => Nat.blt p.1 1000000 || Nat.beq (sgI l m p.1) p.1
/-- The rows l of s' are the rows m of s; all else has its name. -/
theorem En.ren {C : Cx} {s s' : PS} (l m : List Nat) (hc : renOk l m s' = true) (h1 : eqT s (sgI l m) s'.tmp) (h2 : eqR s (sgI l m) s'.row) (h3 : eqB s (sgI l m) s'.box) : En C s s' := ⟨fun M a w h => by
  simp only [renOk, tidy, Bool.and_eq_true, List.all_eq_true] at hc
  obtain ⟨⟨⟨c1, c2⟩, c3⟩, c4⟩ := hc
  let M' : Mp := ⟨fun b => if (s'.b b).isSome then M.β b else none, fun r => if (s'.r r).isSome then M.γ (sgI l m r) else none⟩
  have hβ : ∀ b k, M'.β b = some k → M.β (id b) = some k := fun b k hk => by simp only [M'] at hk; split at hk; exact hk; cases hk
  have hγ : ∀ r x, M'.γ r = some x → M.γ (sgI l m r) = some x := fun r x hx => by simp only [M'] at hx; split at hx; exact hx; cases hx
  have hown : ∀ k, M'.owned k → M.owned k := by
    rintro k (⟨b, hb⟩ | ⟨r, c, z, hr⟩)
    · exact .inl ⟨b, hβ b k hb⟩
    · exact .inr ⟨_, c, z, hγ r _ hr⟩
  have hA : ∀ f b, b < w.heap.size → Ow (Fs C.w0 C.O0) M f b → Ow (Fs C.w0 C.O0) M' f b := fun f b _ h1 => ⟨fun h => h1.1 (hown b h), h1.2⟩
  have hA' : ∀ f b, b < w.heap.size → Ow (Fs C.w0 C.O0) M f b → Ow (Fs C.w0 C.O0) M' f b ∧ b < w.heap.size ∧ w.heap[b]? = w.heap[b]? := fun f b h1 h2 => ⟨hA f b h1 h2, h1, rfl⟩
  have hrow : ∀ r x, s'.r r = some x → look s'.row r = some (some x) := fun r x hx => by
    simp only [PS.r] at hx
    cases hl : look s'.row r with
    | none => rw [hl] at hx; cases hx
    | some y => rw [hl] at hx; simp only at hx; rw [hx]
  have inj : ∀ r r', (s'.r r).isSome = true → (s'.r r').isSome = true → sgI l m r = sgI l m r' → r = r' := by
    intro r r' e1 e2 e3
    obtain ⟨x, hx⟩ := Option.isSome_iff_exists.1 e1
    obtain ⟨y, hy⟩ := Option.isSome_iff_exists.1 e2
    have i1 := look_mem (hrow r x hx)
    have i2 := look_mem (hrow r' y hy)
    obtain ⟨a1, b1, g1⟩ := List.getElem_of_mem i1
    obtain ⟨a2, b2, g2⟩ := List.getElem_of_mem i2
    have := nodupB_ok c3 a1 a2 (by simpa using b1) (by simpa using b2) (by simp [List.getD, b1, b2, g1, g2, e3])
    subst this
    rw [g1] at g2
    exact (Prod.mk.inj g2).1
  refine ⟨M', h.fr, h.dfr, h.sz, fun t => ?_, fun b cs hb => ?_, fun b hb => ?_, fun r e q hr => ?_, fun r hr => ?_, fun k hk => h.low k (hown k hk), fun b b' k h1 h2 => h.inj1 b b' k (hβ _ _ h1) (hβ _ _ h2),
    fun r r' k c z c' z' g1 g2 => ?_, fun b r k c z h1 h2 => h.inj3 b _ k c z (hβ _ _ h1) (hγ _ _ h2), h.nle, fun b k k' h1 h2 => h.fxb b k k' h1 (hβ _ _ h2), fun r x x' g1 g2 => ?_⟩
  · simp only [PS.t]
    cases hl : look s'.tmp t with
    | none => exact .dead _
    | some d =>
      rcases eqT_ok h1 t d hl with hd | hd
      · rw [hd]; exact .dead _
      · have hv := h.tmp t
        rw [hd] at hv
        have hm := c1 _ (look_mem hl)
        exact VR.unren (M := M') (M' := M) hγ hβ hA (by simpa using hm) hv
  · have hl : look s'.box b = some (some cs) := by
      simp only [PS.b] at hb
      cases hl : look s'.box b with
      | none => rw [hl] at hb; cases hb
      | some y => rw [hl] at hb; simp only at hb; rw [hb]
    obtain ⟨cs0, d1, d2⟩ := eqB_ok' h3 b cs hl
    obtain ⟨k, cur, e, a1, a2, a3, a4⟩ := h.box b _ d1
    obtain ⟨d3, d4⟩ := eqC_ok d2
    refine ⟨k, cur, e, by simp [M', hb, a1], a2, by omega, fun j d hd => ?_⟩
    have hm := c2 _ (look_mem hl)
    simp only [List.all_eq_true] at hm
    rcases d4 j d hd with d5 | d5
    · rw [d5]; exact .dead _
    · exact VR.unrenS (M := M') (M' := M) hγ hβ hA (by simpa using hm d (List.mem_of_getElem? hd)) (a4 j (renS id (sgI l m) d) d5)
  · simp [M', hb]
  · have g := eqR_ok h2 r (e, q) (hrow r _ hr)
    rcases h.row _ e q g with ⟨a1, a2⟩ | ⟨gg, cap, cur, a1, a2, a3, a4, a5, a6⟩
    · exact .inl ⟨by simp [M', hr, a1], a2⟩
    · exact .inr ⟨gg, cap, cur, by simp [M', hr, a1], a2, a3, a4, a5, fun i j d hi hd => (a6 i j d hi hd).elem_any hd hA'⟩
  · simp [M', hr]
  · have e1 : (s'.r r).isSome = true := by simp only [M'] at g1; split at g1; assumption; cases g1
    have e2 : (s'.r r').isSome = true := by simp only [M'] at g2; split at g2; assumption; cases g2
    exact inj r r' e1 e2 (h.inj2 _ _ _ _ _ _ _ (hγ _ _ g1) (hγ _ _ g2))
  · have h5 := C.O0.lor r x g1
    have e1 : (s'.r r).isSome = true := by simp only [M'] at g2; split at g2; assumption; cases g2
    obtain ⟨y, hy⟩ := Option.isSome_iff_exists.1 e1
    have h6 := c4 _ (look_mem (hrow r y hy))
    simp only [Bool.or_eq_true, Nat.blt_eq] at h6
    rcases h6 with h6 | h6
    · omega
    · have h7 := hγ _ _ g2
      rw [Nat.eq_of_beq_eq_true h6] at h7
      exact h.fxr r x x' g1 h7⟩
/-- a row given away -/
theorem En.freeze {C : Cx} {tm : List (Nat × D)} {rw' : List (Nat × Option (TypeId × Sq))} {bx : List (Nat × Option (List D))} {s' : PS} (t : Nat) {r m : Nat} {e : TypeId} {q : Sq} (ht : (PS.t ⟨tm, rw', bx⟩ t) = .row r 0 m) (hr : (PS.r ⟨tm, rw', bx⟩ r) = some (e, q)) (hnf : nf ⟨(t, .ro true q) :: (PS.kill ⟨tm, rw', bx⟩ r).tmp, (r, none) :: rw', (PS.kill ⟨tm, rw', bx⟩ r).box⟩ = some s') (hm : m = q.len) : En C ⟨tm, rw', bx⟩ s' := ⟨fun M a w hrl => by
  obtain ⟨M', h'⟩ := hrl.freeze ht hr hm
  rw [nf_ok hnf]
  exact ⟨M', h'⟩⟩
end Go.Proofs.Ytkpmijmlbpdknaa
