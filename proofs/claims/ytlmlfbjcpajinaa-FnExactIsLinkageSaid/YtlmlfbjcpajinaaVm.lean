/- The rule for calls, and how a function's own text earns it. No program in sight. -/
import Derived.Test.YtlmlfbjcpajinaaVl
namespace Go.Proofs.Ytlmlfbjcpajinaa
open Go.RowKit Go.Deep
set_option linter.unusedSimpArgs false
set_option linter.unusedVariables false

def noIds (d : D) : Bool := !ment (fun _ => true) (fun _ => true) d
section
variable {w0 : World} {O0 : Nat → Prop} {n : Nat} {M : Mp} {s : PS} {a : Act} {w : World}
theorem fitL_ok (h : Rel w0 O0 n M s a w) : ∀ {l l' : List D}, fitL s l l' → l.length = l'.length ∧ ∀ (i : Nat) (d' : D), l'[i]? = some d' → ∃ d, l[i]? = some d ∧ fitS s d d'
  | [], [], _ => ⟨rfl, by simp⟩
  | x :: l, y :: l', hf => by
    obtain ⟨h1, h2⟩ := hf
    obtain ⟨g1, g2⟩ := fitL_ok h h2
    refine ⟨by simp [g1], fun i d' hd => ?_⟩
    cases i with
    | zero => simp at hd; subst hd; exact ⟨x, rfl, h1⟩
    | succ i => simpa using g2 i d' (by simpa using hd)
  | [], _ :: _, hf => hf.elim
  | _ :: _, [], hf => hf.elim
theorem fit_ok (h : Rel w0 O0 n M s a w) {d d' : D} {v : Value} (hv : VR M (Ow (Fs w0 O0) M) w d v) (hf : fit s d d') (hno : noIds d' = true) : VR M0 (fun _ _ => True) w d' v := by
  by_cases hag : ∃ l m, d = .agg l ∧ d' = .agg m
  · obtain ⟨l, m, rfl, rfl⟩ := hag
    obtain ⟨us, rfl, hl, hus⟩ := hv.agg_inv
    obtain ⟨g1, g2⟩ := fitL_ok h (show fitL s l m from hf)
    refine .agg m us (by omega) fun i d' hd => ?_
    obtain ⟨d, h1, h2⟩ := g2 i d' hd
    refine fitS_ok h (hus i d h1) h2 ?_
    simp only [noIds, ment, mentA, Bool.not_eq_true', List.any_eq_false] at hno
    simpa using hno d' (List.mem_of_getElem? hd)
  · have hf' : fitS s d d' := by
      cases d <;> first | exact hf | (cases d' <;> first | exact hf | exact absurd ⟨_, _, rfl, rfl⟩ hag)
    have hno' : mentS (fun _ => true) (fun _ => true) d' = false := by
      cases d' with
      | agg l => cases d <;> first | exact hf'.elim | (simp [fitS] at hf'; done) | exact absurd ⟨_, _, rfl, rfl⟩ hag
      | tup l => cases d <;> first | exact hf'.elim | (simp [fitS] at hf'; done)
      | _ => simpa [noIds, ment, mentA] using hno
    exact fitS_ok h hv hf' hno'
theorem fits_ok (h : Rel w0 O0 n M s a w) : ∀ {xs : List Operand} {ds : List D}, fits s xs ds → (ds.all noIds) = true → xs.length = ds.length ∧ ∀ (i : Nat) (d : D), ds[i]? = some d → ∃ x, xs[i]? = some x ∧ VR M0 (fun _ _ => True) w d (a.eval x)
  | [], [], _, _ => ⟨rfl, by simp⟩
  | x :: xs, d :: ds, hf, hno => by
    obtain ⟨h1, h2⟩ := hf
    simp only [List.all_cons, Bool.and_eq_true] at hno
    obtain ⟨g1, g2⟩ := fits_ok h h2 hno.2
    refine ⟨by simp [g1], fun i d' hd => ?_⟩
    cases i with
    | zero => simp at hd; subst hd; exact ⟨x, rfl, fit_ok h (h.ev x) h1 hno.1⟩
    | succ i => simpa using g2 i d' (by simpa using hd)
  | [], _ :: _, hf, _ => hf.elim
  | _ :: _, [], hf, _ => hf.elim
theorem fits_args (h : Rel w0 O0 n M s a w) {xs : Array Operand} {ds : List D} (hf : fits s xs.toList ds) (hno : (ds.all noIds) = true) : ArgsOK w ds (xs.map a.eval) := by
  obtain ⟨g1, g2⟩ := fits_ok h hf hno
  refine ⟨by simpa using g1, fun i d hd => ?_⟩
  obtain ⟨x, h1, h2⟩ := g2 i d hd
  have : (xs.map a.eval).getD i undef = a.eval x := by
    rw [Array.getElem?_toList] at h1
    simp [h1]
  rw [this]; exact h2
end

section
variable {C : Cx} {ops : Array Oper} {K : PS → Prop} {o : Oper} {rest : List Oper} {s s' : PS} {TT : List (Nat × Ty)}
def rowB (b : Nat) : Nat := 1000 + 10 * b
def dstB : Option Nat → Nat | some b => rowB b | none => rowB 0
theorem sCall {f : FuncId} {args : Array Operand} {ts : Array TypeId} {ds : List D} {rows : List (TypeId × Sq)} {d : D} (hop : o.op = .call { callee := .value (.func f), args := args, argTypes := ts }) (hp : PCall C.P f ds rows d) (hds : dstOk C.n o.dst = true)
    (hfit : fits s args.toList ds) (hno : (ds.all noIds) = true) (hf : Fresh s noB (fun r => (look (nrL (dstB o.dst) rows) r).isSome))
    (hm : ment (fun _ => true) (fun r => (look (nrL (dstB o.dst) rows) r).isNone) (ren id (fun j => dstB o.dst + j) d) = false) (h : K ((s.addRows (nrL (dstB o.dst) rows)).put o.dst (ren id (fun j => dstB o.dst + j) d))) : Step C o s K := ⟨fun M a w Q K' hr hk => by
  have hrun : (execOp a.eval o).run C.P w = .ok (.enter f (args.map a.eval)) w := by
    have := hp.enter (args.map a.eval) w
    unfold execOp
    rw [hop]
    show ((do let d ← resolve a.eval _ o.type; invoke d.target d.args : Sem Next)).run C.P w = _
    simp only [resolve]
    show ((callFunc f ((#[] ++ args.map a.eval) ++ #[])) : Sem Next).run C.P w = _
    rw [show (#[] ++ args.map a.eval) ++ #[] = args.map a.eval by simp]
    exact this
  unfold Oper.wp
  rw [hrun]
  refine (hp.run w _ (fits_args hr hfit hno)).mono ?_
  rintro e w' ⟨v, rfl, hB⟩
  obtain ⟨N, hN, hv⟩ := hB (dstB o.dst)
  obtain ⟨M', h1, h2⟩ := hr.newRows hN (fun f k hk hA => ⟨⟨hA.2, fun ho => by have := hr.lt k ho; have := hA.1; omega⟩, fun _ => .inl (Nat.le_trans hr.fr.size hA.1)⟩) hf
  exact hk M' _ _ _ h (h1.put hds (h2 _ _ hm hv))⟩

/-! ### a function's own text -/
def entL : Nat → List D → List (Nat × D)
  | _, [] => []
  | i, d :: l => (i, d) :: entL (i + 1) l
theorem look_entL : ∀ (l : List D) (i t : Nat), look (entL i l) t = if i ≤ t then l[t - i]? else none
  | [], i, t => by simp [entL, look]
  | d :: l, i, t => by
    by_cases h : i = t
    · subst h; simp [entL, look_cons_self]
    · rw [entL, look_cons_ne h, look_entL l (i + 1) t]
      by_cases h2 : i ≤ t
      · rw [if_pos (by omega), if_pos h2, show t - i = (t - (i + 1)) + 1 from by omega, List.getElem?_cons_succ]
      · rw [if_neg (by omega), if_neg h2]
/-- what a result variable holds -/
def retOne (TT : List (Nat × Ty)) (s : PS) : ResultVar → Option D
  | .tmp t => some (s.t t)
  | .cell a t => match s.t a with
    | .ptr b off => match s.b b, look TT t with
      | some cs, some (.st _ zs) => (match Nat.ble zs.length (cs.drop off).length with | true => some (.agg ((cs.drop off).take zs.length)) | false => none)
      | some cs, some _ => (cs.drop off)[0]?
      | _, _ => none
    | _ => none
def retAll (TT : List (Nat × Ty)) (s : PS) : List ResultVar → Option (List D)
  | [] => some []
  | r :: l => match retOne TT s r, retAll TT s l with | some d, some m => some (d :: m) | _, _ => none
def retD (TT : List (Nat × Ty)) (s : PS) (l : List ResultVar) : Option D := match retAll TT s l with
  | some [d] => some d
  | some ds => some (.tup ds)
  | none => none
theorem retOne_ok {P : Program} (hT : TTOK P TT) {w0 : World} {O0 : Nat → Prop} {n : Nat} {M : Mp} {s : PS} {a : Act} {w : World} (h : Rel w0 O0 n M s a w) {r : ResultVar} {d : D} (hr : retOne TT s r = some d) :
    ∃ v, (match r with | .tmp t => pure (a.tmps.getD t undef) | .cell x t => do loadVar t (← asAddr (a.tmps.getD x undef)) : Sem Value).run P w = .ok v w ∧ VR M (Ow (Fs w0 O0) M) w d v := by
  cases r with
  | tmp t => simp only [retOne, Option.some.injEq] at hr; subst hr; exact ⟨_, rfl, h.tmp t⟩
  | cell x t =>
    simp only [retOne] at hr
    split at hr
    case h_2 => cases hr
    rename_i b off hx
    have hsome : (s.b b).isSome = true := by
      cases hb : s.b b with
      | none => simp [hb] at hr
      | some cs => rfl
    have hv := h.tmp x
    rw [hx] at hv
    have hload : ∃ ob, evalV TT s (.load t (.tmp x)) = some (ob, d) ∧ ob := by
      simp only [evalV, PS.ev, hx, ptrCells]
      cases hb : s.b b with
      | none => simp [hb] at hr
      | some cs =>
        simp only [hb] at hr ⊢
        cases hy : look TT t with
        | none => simp [hy] at hr
        | some y =>
          simp only [hy] at hr ⊢
          cases y with
          | st offs zs =>
            simp only at hr ⊢
            split at hr
            · rename_i hle; cases hr; exact ⟨True, by simp only [hle], trivial⟩
            · cases hr
          | sl e k b' =>
            simp only at hr ⊢
            cases hc : cs.drop off with
            | nil => simp [hc] at hr
            | cons d0 l => simp [hc] at hr; subst hr; exact ⟨True, rfl, trivial⟩
          | sc z =>
            simp only at hr ⊢
            cases hc : cs.drop off with
            | nil => simp [hc] at hr
            | cons d0 l => simp [hc] at hr; subst hr; exact ⟨True, rfl, trivial⟩
    obtain ⟨ob, h1, h2⟩ := hload
    obtain ⟨v, h3, h4⟩ := load_ok hT h h1 h2
    refine ⟨v, ?_, h4⟩
    obtain ⟨cs, hb⟩ := Option.isSome_iff_exists.1 hsome
    obtain ⟨k, cur, e, hk, _⟩ := h.box b cs hb
    have hpv : a.tmps.getD x undef = .pointer (some ⟨k, off, none⟩) := by
      generalize a.tmps.getD x undef = v at hv ⊢
      cases hv with | ptr _ _ _ _ g => exact g k hk
    have hev : a.eval (.tmp x) = .pointer (some ⟨k, off, none⟩) := hpv
    rw [hev] at h3
    simp only [hpv]
    exact h3
theorem retAll_ok {P : Program} (hT : TTOK P TT) {w0 : World} {O0 : Nat → Prop} {n : Nat} {M : Mp} {s : PS} {a : Act} {w : World} (h : Rel w0 O0 n M s a w) : ∀ {l : List ResultVar} {ds : List D}, retAll TT s l = some ds →
    ∃ vs : List Value, (l.mapM (fun r => (match r with | .tmp t => pure (a.tmps.getD t undef) | .cell x t => do loadVar t (← asAddr (a.tmps.getD x undef)) : Sem Value))).run P w = .ok vs w ∧ vs.length = ds.length ∧ ∀ (i : Nat) (d : D), ds[i]? = some d → VR M (Ow (Fs w0 O0) M) w d (vs.getD i undef)
  | [], ds, hr => by simp [retAll] at hr; subst hr; exact ⟨[], rfl, rfl, by simp⟩
  | r :: l, ds, hr => by
    simp only [retAll] at hr
    split at hr
    case h_2 => cases hr
    rename_i d m h1 h2
    cases hr
    obtain ⟨v, g1, g2⟩ := retOne_ok hT h h1
    obtain ⟨vs, g3, g4, g5⟩ := retAll_ok hT h h2
    refine ⟨v :: vs, ?_, by simp [g4], fun i d' hd => ?_⟩
    · rw [List.mapM_cons, Sem.run_bind, g1]
      simp only [Result.andThen_ok]
      rw [Sem.run_bind, g3]
      rfl
    · cases i with
      | zero => simp at hd; subst hd; simpa using g2
      | succ i => simpa using g5 i d' (by simpa using hd)
theorem ret_ok {P : Program} (hT : TTOK P TT) {w0 : World} {O0 : Nat → Prop} {n : Nat} {M : Mp} {s : PS} {a : Act} {w : World} (h : Rel w0 O0 n M s a w) {fn : Func} {d : D} (hr : retD TT s fn.results.toList = some d) :
    ∃ v, (results fn a.tmps).run P w = .ok v w ∧ VR M (Ow (Fs w0 O0) M) w d v := by
  unfold retD at hr
  have main : ∀ ds, retAll TT s fn.results.toList = some ds → ∃ vs : List Value, (results fn a.tmps).run P w = .ok (if h : vs.toArray.size = 1 then vs.toArray[0] else .tuple vs.toArray) w ∧ vs.length = ds.length ∧ ∀ (i : Nat) (d : D), ds[i]? = some d → VR M (Ow (Fs w0 O0) M) w d (vs.getD i undef) := fun ds hds => by
    obtain ⟨vs, g1, g2, g3⟩ := retAll_ok hT h hds
    refine ⟨vs, ?_, g2, g3⟩
    unfold results
    rw [Array.mapM_eq_mapM_toList, Sem.run_bind]
    have : ((Functor.map List.toArray (List.mapM (fun r => (match r with | .tmp t => pure (a.tmps.getD t undef) | .cell x t => do loadVar t (← asAddr (a.tmps.getD x undef)) : Sem Value)) fn.results.toList) : Sem (Array Value))).run P w = .ok vs.toArray w := by
      show (Sem.bind _ _).run P w = _
      have hb : ∀ {α β : Type} (m : Sem α) (f : α → Sem β), (Sem.bind m f).run P w = (m >>= f).run P w := fun _ _ => rfl
      rw [hb, Sem.run_bind, g1]
      rfl
    refine (congrArg (fun r => Result.andThen r (fun (a : Array Value) w' => Sem.run P (pure (if h : a.size = 1 then a[0] else .tuple a)) w')) this).trans ?_
    rfl
  split at hr
  · rename_i d0 hds
    cases hr
    obtain ⟨vs, g1, g2, g3⟩ := main _ hds
    match vs, g2 with
    | [v], _ => exact ⟨v, by rw [g1]; rfl, by simpa using g3 0 _ rfl⟩
  · rename_i ds hne hds
    cases hr
    obtain ⟨vs, g1, g2, g3⟩ := main _ hds
    have hl : vs.toArray.size ≠ 1 := by
      intro he
      have : ds.length = 1 := by simpa [g2] using he
      match ds, this with
      | [d0], _ => exact hne d0 rfl
    refine ⟨.tuple vs.toArray, by rw [g1, dif_neg hl], .tup _ _ (by simp [g2]) fun i d hd => by simpa using g3 i d hd⟩
  · cases hr
end
end Go.Proofs.Ytlmlfbjcpajinaa
