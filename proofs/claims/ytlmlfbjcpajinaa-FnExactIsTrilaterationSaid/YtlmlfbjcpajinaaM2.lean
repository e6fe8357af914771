/- Texts without a program, put together by merge.py: Vl Vm Vn Vo Vp Vq Plain Heap GraphP Vr Vu Vs Vx Vxa Vxb Vxc Vue Sh Law Open Vz PinP. -/
import Derived.Test.YtlmlfbjcpajinaaM1
import Derived.Orders
import Derived.WalkKit
import Derived.ProofKit
import Derived.Lib.Hide
import Derived.Deep.QuietTactic
import Derived.Laws.StructEq
import Derived.Laws.Tables
import Derived.OpenShut
import Derived.ChangeSame
import Derived.SizedLaws
import Derived.Deep.Slices
/-! ## Vl -/
namespace Go.Proofs.Ytlmlfbjcpajinaa
open Go.RowKit Go.Deep
set_option linter.unusedSimpArgs false
set_option linter.unusedVariables false

def nrL : Nat → List (TypeId × Sq) → List (Nat × Option (TypeId × Sq))
  | _, [] => []
  | B, x :: l => (B, some x) :: nrL (B + 1) l
theorem look_nrL : ∀ (l : List (TypeId × Sq)) (B r : Nat), look (nrL B l) r = if B ≤ r then (l[r - B]?).map some else none
  | [], B, r => by simp [nrL, look]
  | x :: l, B, r => by
    by_cases h : B = r
    · subst h; simp [nrL, look_cons_self]
    · rw [nrL, look_cons_ne h, look_nrL l (B + 1) r]
      by_cases h2 : B ≤ r
      · rw [if_pos (by omega), if_pos h2, show r - B = (r - (B + 1)) + 1 from by omega, List.getElem?_cons_succ]
      · rw [if_neg (by omega), if_neg h2]
/-- what a call leaves: its rows and the value -/
def Rs (w : World) (N : Mp) : Bool → Nat → Prop := fun _ k => w.heap.size ≤ k ∧ ¬ N.owned k
def ArgsOK (w : World) (ds : List D) (args : Array Value) : Prop :=
  args.size = ds.length ∧ ∀ i d, ds[i]? = some d → VR ⟨fun _ => none, fun _ => none⟩ (fun _ _ => True) w d (args.getD i undef)
structure PCall (P : Program) (f : FuncId) (ds : List D) (rows : List (TypeId × Sq)) (d : D) : Prop where
  enter : ∀ args w, (callFunc f args).run P w = .ok (.enter f args) w
  run : ∀ w args, ArgsOK w ds args → Calls P f args w fun e w' => ∃ v, e = .returned v ∧ ∀ B, ∃ N, New N (Rs w N) w w' (nrL B rows) ∧ VR N (Rs w N) w' (ren id (fun j => B + j) d) v

theorem callFunc_of {P : Program} {f : FuncId} {fn : Func} (hf : P.funcs[f]? = some fn) (h1 : (fn.name == "runtime.NumGoroutine") = false) (h2 : fn.body.isNone = false) : ∀ args w, (callFunc f args).run P w = .ok (.enter f args) w := fun args w => by
  unfold callFunc
  show (match P.funcs[f]? with | none => _ | some fn => _ : Sem Next).run P w = _
  rw [hf]
  simp only [h1, h2]
  rfl

/-! ### how a datum fits what a function wants -/
def fitS (s : PS) : D → D → Prop
  | .nil, .ro _ q => q.len = 0
  | .row r 0 m, .ro _ q' => match s.r r with | some (_, q) => (m = q.len ∧ q' = q) ∨ (m ≤ q.len ∧ q' = q.take m) | none => False
  | .row r (off + 1) m, .ro _ q' => match s.r r with | some (_, q) => off + 1 + m ≤ q.len ∧ q' = (q.take (off + 1 + m)).drop (off + 1) | none => False
  | .ro _ q, .ro _ q' => q = q'
  | .agg _, _ => False
  | .tup _, _ => False
  | d, d' => d = d'
def fitL (s : PS) : List D → List D → Prop
  | [], [] => True
  | a :: l, b :: m => fitS s a b ∧ fitL s l m
  | _, _ => False
def fit (s : PS) : D → D → Prop
  | .agg l, .agg m => fitL s l m
  | d, d' => fitS s d d'
def fits (s : PS) : List Operand → List D → Prop
  | [], [] => True
  | x :: l, b :: m => fit s (s.ev x) b ∧ fits s l m
  | _, _ => False

section
variable {w0 : World} {O0 : Nat → Prop} {n : Nat} {M : Mp} {s : PS} {a : Act} {w : World}
abbrev M0 : Mp := ⟨fun _ => none, fun _ => none⟩
def sameD : D → D → Prop
  | .int a, .int b => a = b
  | .bool a, .bool b => a = b
  | .val a, .val b => a = b
  | .ro _ q, .ro _ q' => q = q'
  | _, _ => False
theorem elem_same (f f' : Bool) (q : Sq) (i j : Nat) (d' : D) (h : (q.elem f' i)[j]? = some d') : ∃ d, (q.elem f i)[j]? = some d ∧ sameD d d' := by
  cases q <;> simp only [Sq.elem] at h ⊢ <;> rcases j with _ | _ | j <;> simp at h ⊢ <;> subst h <;> simp [sameD]
theorem VR.same {A : Bool → Nat → Prop} {d : D} {v : Value} (h : VR M A w d v) : ∀ d', sameD d d' → VR M0 (fun _ _ => True) w d' v := by
  induction h with
  | ro f q ao cap b o u hn hc hao hu hv ih =>
    intro d' hd
    cases d' <;> simp only [sameD] at hd
    rename_i f' q'
    subst hd
    refine .ro f' q ao cap b o u hn hc (fun h0 => ⟨(hao h0).1, (hao h0).2.1, trivial⟩) (fun i j d' hi hd' => ?_) (fun i j d' hi hd' => ?_)
    · obtain ⟨d, h1, _⟩ := elem_same f f' q i j d' hd'; exact hu i j d hi h1
    · obtain ⟨d, h1, h2⟩ := elem_same f f' q i j d' hd'; exact ih i j d hi h1 d' h2
  | int n => intro d' hd; cases d' <;> simp only [sameD] at hd; subst hd; exact .int _
  | bool b => intro d' hd; cases d' <;> simp only [sameD] at hd; subst hd; exact .bool _
  | val v h => intro d' hd; cases d' <;> simp only [sameD] at hd; subst hd; exact .val _ h
  | _ => intro d' hd; simp [sameD] at hd
theorem fitS_ok (h : Rel w0 O0 n M s a w) {d d' : D} {v : Value} (hv : VR M (Ow (Fs w0 O0) M) w d v) (hf : fitS s d d') (hno : mentS (fun _ => true) (fun _ => true) d' = false) : VR M0 (fun _ _ => True) w d' v := by
  have hA : ∀ f b, b < w.heap.size → Ow (Fs w0 O0) M f b → True ∧ b < w.heap.size ∧ w.heap[b]? = w.heap[b]? := fun _ b h1 _ => ⟨trivial, h1, rfl⟩
  have plain : ∀ d0, d0 = d' → VR M (Ow (Fs w0 O0) M) w d0 v → VR M0 (fun _ _ => True) w d' v := fun d0 he hv => by
    subst he
    exact VR.newS (b := fun _ => true) (r := fun _ => true) hA (fun x y hx => by simp at hx) (fun x y hx => by simp at hx) hno hv
  have key : ∀ r off m, VR M (Ow (Fs w0 O0) M) w (.row r off m) v → ∀ e q, s.r r = some (e, q) → off + m ≤ q.len → ∀ f, VR M0 (fun _ _ => True) w (.ro f ((q.take (off + m)).drop off)) v := fun r off m hv e q hr hle f => by
    have hlen : ((q.take (off + m)).drop off).len = m := by rw [Sq.len_drop, Sq.len_take]; omega
    have hsz : ((q.take (off + m)).drop off).sz = q.sz := by rw [Sq.sz_drop, Sq.sz_take]
    cases hv with
    | row _ _ _ _ g1 g2 =>
      rcases h.row r e q hr with ⟨hg, h0⟩ | ⟨g, cap, cur, hg, hh, hl, hm, hcs, hc⟩
      · have := g2 _ hg
        simp only [RowV] at this
        obtain ⟨rfl, rfl, rfl⟩ := this
        have := VR.ro (M := M0) (A := fun _ _ => True) (w := w) f ((q.take (0 + 0)).drop 0) none 0 0 0 (fun _ _ => undef) (by omega) (by omega) (by omega) (by intro i j d hi; omega) (by intro i j d hi; omega)
        rwa [hlen] at this
      · have := g2 _ hg
        simp only [RowV] at this
        obtain ⟨h1, ao, h2, h3⟩ := this
        have hcell : ∀ i j d, i < m → (q.elem f (off + i))[j]? = some d → (off + i) * q.sz + j < cur.size := fun i j d hi hd => by
          have hj : j < q.sz := by rw [← Sq.elem_len f q (off + i)]; exact (List.getElem?_eq_some_iff.1 hd).1
          rw [hcs]
          have h4 : (off + i + 1) * q.sz ≤ cap * q.sz := Nat.mul_le_mul_right _ (by omega)
          rw [Nat.add_mul, Nat.one_mul] at h4; omega
        have := VR.ro (M := M0) (A := fun _ _ => True) (w := w) f ((q.take (off + m)).drop off) ao (cap - off) g (off * q.sz) (fun i j => cur.getD ((off + i) * q.sz + j) undef) (by omega) (by omega)
          (fun h0 => ⟨h3 (by omega), (Array.getElem?_eq_some_iff.1 hh).1, trivial⟩)
          (fun i j d hi hd => by
            rw [hlen] at hi
            rw [Sq.elem_sub _ _ _ _ _ (by omega)] at hd
            have hlt := hcell i j d hi hd
            rw [hsz, show off * q.sz + i * q.sz + j = (off + i) * q.sz + j from by rw [Nat.add_mul], cell_of_row w g _ cur e (0, 0) hh]
            simp [hlt])
          (fun i j d hi hd => by
            rw [hlen] at hi
            rw [Sq.elem_sub _ _ _ _ _ (by omega)] at hd
            obtain ⟨d0, h5, h6⟩ := elem_same true f q (off + i) j d hd
            exact (hc (off + i) j d0 (by omega) h5).same d h6)
        rw [hlen] at this
        rw [h2]; exact this
  cases d with
  | nil =>
    by_cases hro : ∃ f q, d' = .ro f q
    · obtain ⟨f, q, rfl⟩ := hro
      simp only [fitS] at hf
      rw [hv.nil_inv]
      have := VR.ro (M := M0) (A := fun _ _ => True) (w := w) f q none 0 0 0 (fun _ _ => undef) (by omega) (by omega) (by omega) (by intro i j d hi; omega) (by intro i j d hi; omega)
      rwa [hf] at this
    · exact plain _ (by cases d' <;> first | exact hf | exact absurd ⟨_, _, rfl⟩ hro) hv
  | row r off m =>
    by_cases hro : ∃ f q, d' = .ro f q
    · obtain ⟨f, q', rfl⟩ := hro
      cases off <;> simp only [fitS] at hf
      · split at hf
        · rename_i e q hr
          rcases hf with ⟨rfl, rfl⟩ | ⟨h1, rfl⟩
          · have := key r 0 _ hv e _ hr (by omega) f
            rw [Nat.zero_add, Sq.take_len] at this
            cases q' <;> simpa [Sq.drop] using this
          · have := key r 0 m hv e q hr (by omega) f
            rw [Nat.zero_add] at this
            cases q <;> simpa [Sq.drop, Sq.take] using this
        · exact hf.elim
      · rename_i off
        split at hf
        · rename_i e q hr
          obtain ⟨h1, rfl⟩ := hf
          exact key r (off + 1) m hv e q hr h1 f
        · exact hf.elim
    · exact plain _ (by cases d' <;> cases off <;> first | exact hf | exact absurd ⟨_, _, rfl⟩ hro) hv
  | ro f q =>
    by_cases hro : ∃ f q, d' = .ro f q
    · obtain ⟨f', q', rfl⟩ := hro
      simp only [fitS] at hf
      subst hf
      exact hv.same _ rfl
    · exact plain _ (by cases d' <;> first | exact hf | exact absurd ⟨_, _, rfl⟩ hro) hv
  | agg l => simp [fitS] at hf
  | tup l => simp [fitS] at hf
  | _ => simp only [fitS] at hf; exact plain _ hf hv
end
end Go.Proofs.Ytlmlfbjcpajinaa

/-! ## Vm -/
namespace Go.Proofs.Ytlmlfbjcpajinaa
open Go.RowKit Go.Deep
set_option linter.unusedSimpArgs false
set_option linter.unusedVariables false

def noIds (d : D) : Bool := !ment (fun _ => true) (fun _ => true) d
section
variable {w0 : World} {O0 : Nat → Prop} {n : Nat} {M : Mp} {s : PS} {a : Act} {w : World}
theorem fitL_ok (h : Rel w0 O0 n M s a w) : ∀ {l l' : List D}, fitL s l l' → l.length = l'.length ∧ ∀ (i : Nat) (d' : D), l'[i]? = some d' → ∃ d, l[i]? = some d ∧ fitS s d d'
  | [], [], _ => ⟨rfl, by simp⟩
  | x :: l, y :: l', hf => by
    obtain ⟨h1, h2⟩ := hf
    obtain ⟨g1, g2⟩ := fitL_ok h h2
    refine ⟨by simp [g1], fun i d' hd => ?_⟩
    cases i with
    | zero => simp at hd; subst hd; exact ⟨x, rfl, h1⟩
    | succ i => simpa using g2 i d' (by simpa using hd)
  | [], _ :: _, hf => hf.elim
  | _ :: _, [], hf => hf.elim
theorem fit_ok (h : Rel w0 O0 n M s a w) {d d' : D} {v : Value} (hv : VR M (Ow (Fs w0 O0) M) w d v) (hf : fit s d d') (hno : noIds d' = true) : VR M0 (fun _ _ => True) w d' v := by
  by_cases hag : ∃ l m, d = .agg l ∧ d' = .agg m
  · obtain ⟨l, m, rfl, rfl⟩ := hag
    obtain ⟨us, rfl, hl, hus⟩ := hv.agg_inv
    obtain ⟨g1, g2⟩ := fitL_ok h (show fitL s l m from hf)
    refine .agg m us (by omega) fun i d' hd => ?_
    obtain ⟨d, h1, h2⟩ := g2 i d' hd
    refine fitS_ok h (hus i d h1) h2 ?_
    simp only [noIds, ment, mentA, Bool.not_eq_true', List.any_eq_false] at hno
    simpa using hno d' (List.mem_of_getElem? hd)
  · have hf' : fitS s d d' := by
      cases d <;> first | exact hf | (cases d' <;> first | exact hf | exact absurd ⟨_, _, rfl, rfl⟩ hag)
    have hno' : mentS (fun _ => true) (fun _ => true) d' = false := by
      cases d' with
      | agg l => cases d <;> first | exact hf'.elim | (simp [fitS] at hf'; done) | exact absurd ⟨_, _, rfl, rfl⟩ hag
      | tup l => cases d <;> first | exact hf'.elim | (simp [fitS] at hf'; done)
      | _ => simpa [noIds, ment, mentA] using hno
    exact fitS_ok h hv hf' hno'
theorem fits_ok (h : Rel w0 O0 n M s a w) : ∀ {xs : List Operand} {ds : List D}, fits s xs ds → (ds.all noIds) = true → xs.length = ds.length ∧ ∀ (i : Nat) (d : D), ds[i]? = some d → ∃ x, xs[i]? = some x ∧ VR M0 (fun _ _ => True) w d (a.eval x)
  | [], [], _, _ => ⟨rfl, by simp⟩
  | x :: xs, d :: ds, hf, hno => by
    obtain ⟨h1, h2⟩ := hf
    simp only [List.all_cons, Bool.and_eq_true] at hno
    obtain ⟨g1, g2⟩ := fits_ok h h2 hno.2
    refine ⟨by simp [g1], fun i d' hd => ?_⟩
    cases i with
    | zero => simp at hd; subst hd; exact ⟨x, rfl, fit_ok h (h.ev x) h1 hno.1⟩
    | succ i => simpa using g2 i d' (by simpa using hd)
  | [], _ :: _, hf, _ => hf.elim
  | _ :: _, [], hf, _ => hf.elim
theorem fits_args (h : Rel w0 O0 n M s a w) {xs : Array Operand} {ds : List D} (hf : fits s xs.toList ds) (hno : (ds.all noIds) = true) : ArgsOK w ds (xs.map a.eval) := by
  obtain ⟨g1, g2⟩ := fits_ok h hf hno
  refine ⟨by simpa using g1, fun i d hd => ?_⟩
  obtain ⟨x, h1, h2⟩ := g2 i d hd
  have : (xs.map a.eval).getD i undef = a.eval x := by
    rw [Array.getElem?_toList] at h1
    simp [h1]
  rw [this]; exact h2
end

section
variable {C : Cx} {ops : Array Oper} {K : PS → Prop} {o : Oper} {rest : List Oper} {s s' : PS} {TT : List (Nat × Ty)}
def rowB (b : Nat) : Nat := 1000 + 10 * b
def dstB : Option Nat → Nat | some b => rowB b | none => rowB 0
theorem sCall {f : FuncId} {args : Array Operand} {ts : Array TypeId} {ds : List D} {rows : List (TypeId × Sq)} {d : D} (hop : o.op = .call { callee := .value (.func f), args := args, argTypes := ts }) (hp : PCall C.P f ds rows d) (hds : dstOk C.n o.dst = true)
    (hfit : fits s args.toList ds) (hno : (ds.all noIds) = true) (hf : Fresh s noB (fun r => (look (nrL (dstB o.dst) rows) r).isSome))
    (hm : ment (fun _ => true) (fun r => (look (nrL (dstB o.dst) rows) r).isNone) (ren id (fun j => dstB o.dst + j) d) = false) (h : K ((s.addRows (nrL (dstB o.dst) rows)).put o.dst (ren id (fun j => dstB o.dst + j) d))) : Step C o s K := ⟨fun M a w Q K' hr hk => by
  have hrun : (execOp a.eval o).run C.P w = .ok (.enter f (args.map a.eval)) w := by
    have := hp.enter (args.map a.eval) w
    unfold execOp
    rw [hop]
    show ((do let d ← resolve a.eval _ o.type; invoke d.target d.args : Sem Next)).run C.P w = _
    simp only [resolve]
    show ((callFunc f ((#[] ++ args.map a.eval) ++ #[])) : Sem Next).run C.P w = _
    rw [show (#[] ++ args.map a.eval) ++ #[] = args.map a.eval by simp]
    exact this
  unfold Oper.wp
  rw [hrun]
  refine (hp.run w _ (fits_args hr hfit hno)).mono ?_
  rintro e w' ⟨v, rfl, hB⟩
  obtain ⟨N, hN, hv⟩ := hB (dstB o.dst)
  obtain ⟨M', h1, h2⟩ := hr.newRows hN (fun f k hk hA => ⟨⟨hA.2, fun ho => by have := hr.lt k ho; have := hA.1; omega⟩, fun _ => .inl (Nat.le_trans hr.fr.size hA.1)⟩) hf
  exact hk M' _ _ _ h (h1.put hds (h2 _ _ hm hv))⟩

/-! ### a function's own text -/
def entL : Nat → List D → List (Nat × D)
  | _, [] => []
  | i, d :: l => (i, d) :: entL (i + 1) l
theorem look_entL : ∀ (l : List D) (i t : Nat), look (entL i l) t = if i ≤ t then l[t - i]? else none
  | [], i, t => by simp [entL, look]
  | d :: l, i, t => by
    by_cases h : i = t
    · subst h; simp [entL, look_cons_self]
    · rw [entL, look_cons_ne h, look_entL l (i + 1) t]
      by_cases h2 : i ≤ t
      · rw [if_pos (by omega), if_pos h2, show t - i = (t - (i + 1)) + 1 from by omega, List.getElem?_cons_succ]
      · rw [if_neg (by omega), if_neg h2]
/-- what a result variable holds -/
def retOne (TT : List (Nat × Ty)) (s : PS) : ResultVar → Option D
  | .tmp t => some (s.t t)
  | .cell a t => match s.t a with
    | .ptr b off => match s.b b, look TT t with
      | some cs, some (.st _ zs) => (match Nat.ble zs.length (cs.drop off).length with | true => some (.agg ((cs.drop off).take zs.length)) | false => none)
      | some cs, some _ => (cs.drop off)[0]?
      | _, _ => none
    | _ => none
def retAll (TT : List (Nat × Ty)) (s : PS) : List ResultVar → Option (List D)
  | [] => some []
  | r :: l => match retOne TT s r, retAll TT s l with | some d, some m => some (d :: m) | _, _ => none
def retD (TT : List (Nat × Ty)) (s : PS) (l : List ResultVar) : Option D := match retAll TT s l with
  | some [d] => some d
  | some ds => some (.tup ds)
  | none => none
theorem retOne_ok {P : Program} (hT : TTOK P TT) {w0 : World} {O0 : Nat → Prop} {n : Nat} {M : Mp} {s : PS} {a : Act} {w : World} (h : Rel w0 O0 n M s a w) {r : ResultVar} {d : D} (hr : retOne TT s r = some d) :
    ∃ v, (match r with | .tmp t => pure (a.tmps.getD t undef) | .cell x t => do loadVar t (← asAddr (a.tmps.getD x undef)) : Sem Value).run P w = .ok v w ∧ VR M (Ow (Fs w0 O0) M) w d v := by
  cases r with
  | tmp t => simp only [retOne, Option.some.injEq] at hr; subst hr; exact ⟨_, rfl, h.tmp t⟩
  | cell x t =>
    simp only [retOne] at hr
    split at hr
    case h_2 => cases hr
    rename_i b off hx
    have hsome : (s.b b).isSome = true := by
      cases hb : s.b b with
      | none => simp [hb] at hr
      | some cs => rfl
    have hv := h.tmp x
    rw [hx] at hv
    have hload : ∃ ob, evalV TT s (.load t (.tmp x)) = some (ob, d) ∧ ob := by
      simp only [evalV, PS.ev, hx, ptrCells]
      cases hb : s.b b with
      | none => simp [hb] at hr
      | some cs =>
        simp only [hb] at hr ⊢
        cases hy : look TT t with
        | none => simp [hy] at hr
        | some y =>
          simp only [hy] at hr ⊢
          cases y with
          | st offs zs =>
            simp only at hr ⊢
            split at hr
            · rename_i hle; cases hr; exact ⟨True, by simp only [hle], trivial⟩
            · cases hr
          | sl e k b' =>
            simp only at hr ⊢
            cases hc : cs.drop off with
            | nil => simp [hc] at hr
            | cons d0 l => simp [hc] at hr; subst hr; exact ⟨True, rfl, trivial⟩
          | sc z =>
            simp only at hr ⊢
            cases hc : cs.drop off with
            | nil => simp [hc] at hr
            | cons d0 l => simp [hc] at hr; subst hr; exact ⟨True, rfl, trivial⟩
    obtain ⟨ob, h1, h2⟩ := hload
    obtain ⟨v, h3, h4⟩ := load_ok hT h h1 h2
    refine ⟨v, ?_, h4⟩
    obtain ⟨cs, hb⟩ := Option.isSome_iff_exists.1 hsome
    obtain ⟨k, cur, e, hk, _⟩ := h.box b cs hb
    have hpv : a.tmps.getD x undef = .pointer (some ⟨k, off, none⟩) := by
      generalize a.tmps.getD x undef = v at hv ⊢
      cases hv with | ptr _ _ _ _ g => exact g k hk
    have hev : a.eval (.tmp x) = .pointer (some ⟨k, off, none⟩) := hpv
    rw [hev] at h3
    simp only [hpv]
    exact h3
theorem retAll_ok {P : Program} (hT : TTOK P TT) {w0 : World} {O0 : Nat → Prop} {n : Nat} {M : Mp} {s : PS} {a : Act} {w : World} (h : Rel w0 O0 n M s a w) : ∀ {l : List ResultVar} {ds : List D}, retAll TT s l = some ds →
    ∃ vs : List Value, (l.mapM (fun r => (match r with | .tmp t => pure (a.tmps.getD t undef) | .cell x t => do loadVar t (← asAddr (a.tmps.getD x undef)) : Sem Value))).run P w = .ok vs w ∧ vs.length = ds.length ∧ ∀ (i : Nat) (d : D), ds[i]? = some d → VR M (Ow (Fs w0 O0) M) w d (vs.getD i undef)
  | [], ds, hr => by simp [retAll] at hr; subst hr; exact ⟨[], rfl, rfl, by simp⟩
  | r :: l, ds, hr => by
    simp only [retAll] at hr
    split at hr
    case h_2 => cases hr
    rename_i d m h1 h2
    cases hr
    obtain ⟨v, g1, g2⟩ := retOne_ok hT h h1
    obtain ⟨vs, g3, g4, g5⟩ := retAll_ok hT h h2
    refine ⟨v :: vs, ?_, by simp [g4], fun i d' hd => ?_⟩
    · rw [List.mapM_cons, Sem.run_bind, g1]
      simp only [Result.andThen_ok]
      rw [Sem.run_bind, g3]
      rfl
    · cases i with
      | zero => simp at hd; subst hd; simpa using g2
      | succ i => simpa using g5 i d' (by simpa using hd)
theorem ret_ok {P : Program} (hT : TTOK P TT) {w0 : World} {O0 : Nat → Prop} {n : Nat} {M : Mp} {s : PS} {a : Act} {w : World} (h : Rel w0 O0 n M s a w) {fn : Func} {d : D} (hr : retD TT s fn.results.toList = some d) :
    ∃ v, (results fn a.tmps).run P w = .ok v w ∧ VR M (Ow (Fs w0 O0) M) w d v := by
  unfold retD at hr
  have main : ∀ ds, retAll TT s fn.results.toList = some ds → ∃ vs : List Value, (results fn a.tmps).run P w = .ok (if h : vs.toArray.size = 1 then vs.toArray[0] else .tuple vs.toArray) w ∧ vs.length = ds.length ∧ ∀ (i : Nat) (d : D), ds[i]? = some d → VR M (Ow (Fs w0 O0) M) w d (vs.getD i undef) := fun ds hds => by
    obtain ⟨vs, g1, g2, g3⟩ := retAll_ok hT h hds
    refine ⟨vs, ?_, g2, g3⟩
    unfold results
    rw [Array.mapM_eq_mapM_toList, Sem.run_bind]
    have : ((Functor.map List.toArray (List.mapM (fun r => (match r with | .tmp t => pure (a.tmps.getD t undef) | .cell x t => do loadVar t (← asAddr (a.tmps.getD x undef)) : Sem Value)) fn.results.toList) : Sem (Array Value))).run P w = .ok vs.toArray w := by
      show (Sem.bind _ _).run P w = _
      have hb : ∀ {α β : Type} (m : Sem α) (f : α → Sem β), (Sem.bind m f).run P w = (m >>= f).run P w := fun _ _ => rfl
      rw [hb, Sem.run_bind, g1]
      rfl
    refine (congrArg (fun r => Result.andThen r (fun (a : Array Value) w' => Sem.run P (pure (if h : a.size = 1 then a[0] else .tuple a)) w')) this).trans ?_
    rfl
  split at hr
  · rename_i d0 hds
    cases hr
    obtain ⟨vs, g1, g2, g3⟩ := main _ hds
    match vs, g2 with
    | [v], _ => exact ⟨v, by rw [g1]; rfl, by simpa using g3 0 _ rfl⟩
  · rename_i ds hne hds
    cases hr
    obtain ⟨vs, g1, g2, g3⟩ := main _ hds
    have hl : vs.toArray.size ≠ 1 := by
      intro he
      have : ds.length = 1 := by simpa [g2] using he
      match ds, this with
      | [d0], _ => exact hne d0 rfl
    refine ⟨.tuple vs.toArray, by rw [g1, dif_neg hl], .tup _ _ (by simp [g2]) fun i d hd => by simpa using g3 i d hd⟩
  · cases hr
end
end Go.Proofs.Ytlmlfbjcpajinaa

/-! ## Vn -/
namespace Go.Proofs.Ytlmlfbjcpajinaa
open Go.RowKit Go.Deep
set_option linter.unusedSimpArgs false
set_option linter.unusedVariables false

def nwS (g : Bool) : D → Bool
  | .ro f _ => f == g
  | .rptr _ _ _ _ | .eptr _ _ _ | .ptr _ _ | .agg _ | .tup _ | .dead => false
  | _ => true
def nwA (g : Bool) : D → Bool
  | .agg l => l.all (nwS g)
  | .dead => true
  | d => nwS g d
def nwD (g : Bool) : D → Bool
  | .tup l => l.all (nwA g)
  | d => nwA g d
theorem elem_new (g : Bool) (q : Sq) (i j : Nat) (d : D) (h : (q.elem g i)[j]? = some d) : nwS g d = true ∧ sameD d d := by
  cases q <;> simp only [Sq.elem] at h <;> rcases j with _ | _ | j <;> simp at h <;> subst h <;> simp [nwS, sameD]
section
variable {M M' : Mp} {A : Bool → Nat → Prop} {w : World} {g : Bool}
theorem VR.flagE {d : D} {v : Value} (h : VR M A w d v) (hs : sameD d d) (hn : nwS g d = true) : VR M' (fun f k => A f k ∧ f = g) w d v := by
  induction h with
  | ro f q ao cap b o u hn' hc hao hu hv ih =>
    simp only [nwS, beq_iff_eq] at hn
    subst hn
    exact .ro f q ao cap b o u hn' hc (fun h0 => ⟨(hao h0).1, (hao h0).2.1, (hao h0).2.2, rfl⟩) hu fun i j d hi hd => ih i j d hi hd (elem_new f q i j d hd).2 (elem_new f q i j d hd).1
  | int n => exact .int _
  | bool b => exact .bool _
  | val v h => exact .val _ h
  | _ => simp [sameD] at hs
theorem VR.flagS {d : D} {v : Value} (h : VR M A w d v) (hn : nwS g d = true) : VR M (fun f k => A f k ∧ f = g) w d v := by
  cases h with
  | nil => exact .nil
  | row r off n v h1 h => exact .row r off n v h1 h
  | int n => exact .int _
  | bool b => exact .bool _
  | val v h => exact .val _ h
  | ro f q ao cap b o u hn' hc hao hu hv => exact VR.flagE (.ro f q ao cap b o u hn' hc hao hu hv) rfl hn
  | _ => simp [nwS] at hn
theorem VR.flagA {d : D} {v : Value} (h : VR M A w d v) (hn : nwA g d = true) : VR M (fun f k => A f k ∧ f = g) w d v := by
  cases d with
  | agg l =>
    cases h with | agg _ us hl h =>
    simp only [nwA, List.all_eq_true] at hn
    exact .agg _ us hl fun i d hi => (h i d hi).flagS (hn d (List.mem_of_getElem? hi))
  | dead => exact .dead _
  | _ => exact VR.flagS h hn
theorem VR.flag {d : D} {v : Value} (h : VR M A w d v) (hn : nwD g d = true) : VR M (fun f k => A f k ∧ f = g) w d v := by
  cases d with
  | tup l =>
    cases h with | tup _ us hl h =>
    simp only [nwD, List.all_eq_true] at hn
    exact .tup _ us hl fun i d hi => (h i d hi).flagA (hn d (List.mem_of_getElem? hi))
  | _ => exact VR.flagA h hn
end

def rowsOk (s : PS) : List Nat → List (TypeId × Sq) → Prop
  | [], [] => True
  | i :: l, x :: m => s.r i = some x ∧ rowsOk s l m
  | _, _ => False
theorem rowsOk_ok {s : PS} : ∀ {l : List Nat} {m : List (TypeId × Sq)}, rowsOk s l m → l.length = m.length ∧ ∀ (j : Nat) x, m[j]? = some x → s.r (l.getD j 0) = some x
  | [], [], _ => ⟨rfl, by simp⟩
  | i :: l, x :: m, h => by
    obtain ⟨h1, h2⟩ := h
    obtain ⟨g1, g2⟩ := rowsOk_ok h2
    refine ⟨by simp [g1], fun j y hy => ?_⟩
    cases j with
    | zero => simp at hy; subst hy; simpa using h1
    | succ j => simpa using g2 j y (by simpa using hy)
  | [], _ :: _, h => h.elim
  | _ :: _, [], h => h.elim
def nodupB : List Nat → Bool
  | [] => true
  | i :: l => (l.all fun j => !Nat.beq i j) && nodupB l
theorem nodupB_ok : ∀ {l : List Nat}, nodupB l = true → ∀ i j, i < l.length → j < l.length → l.getD i 0 = l.getD j 0 → i = j
  | [], _, i, j, hi, _, _ => by simp at hi
  | x :: l, h, i, j, hi, hj, he => by
    simp only [nodupB, Bool.and_eq_true, List.all_eq_true] at h
    have hno : ∀ k, k < l.length → x ≠ l.getD k 0 := fun k hk hx => by
      have := h.1 (l.getD k 0) (by simp [hk])
      rw [← hx] at this
      simp [Nat.beq_refl] at this
    cases i with
    | zero =>
      cases j with
      | zero => rfl
      | succ j => exact absurd (by simpa using he) (hno j (by simpa using hj))
    | succ i =>
      cases j with
      | zero => exact absurd (by simpa using he.symm) (hno i (by simpa using hi))
      | succ j => rw [nodupB_ok h.2 i j (by simpa using hi) (by simpa using hj) (by simpa using he)]
/-- the result's names are below n, it is flat, and what it only reads is new -/
def okD (n : Nat) (d : D) : Bool := !ment (fun _ => true) (fun j => !Nat.blt j n) d && !ment noB noB d && nwD true d
/-- what must hold where a function ends -/
def RetP (TT : List (Nat × Ty)) (res : List ResultVar) (rows : List (TypeId × Sq)) (d : D) : Exit → PS → Prop := fun e s => match e with
  | .normal | .ret => ∃ ids d', retD TT s res = some d' ∧ rowsOk s ids rows ∧ nodupB ids = true ∧ d' = ren id (fun j => ids.getD j 0) d ∧ okD rows.length d = true
  | _ => False

theorem pcall_intro {P : Program} {f : FuncId} {fn : Func} {c : Code} {TT : List (Nat × Ty)} {ds : List D} {rows : List (TypeId × Sq)} {d : D} {n : Nat} {res : List ResultVar} (hT : TTOK P TT) (hf : P.funcs[f]? = some fn) (hb : fn.body = some c)
    (hname : (fn.name == "runtime.NumGoroutine") = false) (hn : fn.ntmps = n) (hres : fn.results.toList = res) (hds : Nat.ble ds.length n = true) (hno : (ds.all fun d => noIds d && nwD false d) = true)
    (h : ∀ w0, VC ⟨P, w0, fun _ => False, n⟩ c (RetP TT res rows d) ⟨entL 0 ds, [], []⟩) : PCall P f ds rows d := by
  subst hn hres
  refine ⟨callFunc_of hf hname (by simp [hb]), fun w0 args ⟨hsz, hargs⟩ => ?_⟩
  have hle := Nat.le_of_ble_eq_true hds
  have hent : Rel w0 (fun _ => False) fn.ntmps M0 ⟨entL 0 ds, [], []⟩ { tmps := args ++ Array.replicate (fn.ntmps - args.size) undef, defers := [] } w0 := by
    refine ⟨⟨rfl, rfl, rfl, Nat.le_refl _, fun _ _ _ => rfl⟩, rfl, by simp; omega, fun t => ?_, fun b cs hb => by simp [PS.b, look] at hb, fun _ _ => rfl, fun r e q hr => by simp [PS.r, look] at hr, fun _ _ => rfl, ?_, by simp, by simp, by simp⟩
    · simp only [PS.t, look_entL, Nat.zero_le, if_true, Nat.sub_zero]
      cases hd : ds[t]? with
      | none => exact .dead _
      | some d0 =>
        have hlt : t < args.size := by rw [hsz]; exact (List.getElem?_eq_some_iff.1 hd).1
        have h1 := hargs t d0 hd
        have h2 : (args ++ Array.replicate (fn.ntmps - args.size) undef).getD t undef = args.getD t undef := by
          simp [Array.getElem?_append_left hlt]
        rw [h2]
        have h4 := (List.all_eq_true.1 hno) d0 (List.mem_of_getElem? hd)
        simp only [Bool.and_eq_true] at h4
        refine VR.new (b := fun _ => true) (r := fun _ => true) (A := fun f _ => True ∧ f = false) (fun f b hb hf => ⟨⟨?_, fun h5 => ?_⟩, hb, rfl⟩) (fun x y hx => by simp at hx) (fun x y hx => by simp at hx) ?_ (h1.flag h4.2)
        · simpa [noIds] using h4.1
        · rintro (⟨x, hx⟩ | ⟨x, c, z, hx⟩) <;> simp at hx
        · rw [hf.2] at h5; cases h5
    · rintro k (⟨x, hx⟩ | ⟨x, c, z, hx⟩) <;> simp at hx
  refine calls_of_wp hf hb (Code.wp_mono ?_ ((h w0).out M0 _ w0 hent))
  rintro e a' w' ⟨s', M', hq, hr⟩
  have fin : ∀ (hq : ∃ ids d', retD TT s' fn.results.toList = some d' ∧ rowsOk s' ids rows ∧ nodupB ids = true ∧ d' = ren id (fun j => ids.getD j 0) d ∧ okD rows.length d = true),
      a'.defers = [] ∧ ∃ v, (results fn a'.tmps).run P w' = .ok v w' ∧ ∃ v', Ending.returned v = .returned v' ∧ ∀ B, ∃ N, New N (Rs w0 N) w0 w' (nrL B rows) ∧ VR N (Rs w0 N) w' (ren id (fun j => B + j) d) v' := by
    rintro ⟨ids, d', h1, h2, h3, rfl, h5⟩
    obtain ⟨v, h6, h7⟩ := ret_ok hT hr h1
    refine ⟨hr.dfr, v, h6, v, rfl, fun B => ?_⟩
    obtain ⟨g1, g2⟩ := rowsOk_ok h2
    simp only [okD, Bool.and_eq_true, Bool.not_eq_true'] at h5
    obtain ⟨⟨k1, k2⟩, k3⟩ := h5
    let M1 : Mp := ⟨fun _ => none, fun j => if j < rows.length then M'.γ (ids.getD j 0) else none⟩
    let N : Mp := ⟨fun _ => none, fun y => if B ≤ y then M1.γ (y - B) else none⟩
    have hNo : ∀ k, N.owned k → M'.owned k := by
      rintro k (⟨b, hb⟩ | ⟨y, c, z, hy⟩)
      · cases hb
      · simp only [N, M1] at hy
        split at hy
        · split at hy
          · exact .inr ⟨_, c, z, hy⟩
          · cases hy
        · cases hy
    have hlow : ∀ k, M'.owned k → w0.heap.size ≤ k := fun k hk => (hr.low k hk).resolve_right (fun h => h)
    have hA : ∀ f b, b < w'.heap.size → (Ow (Fs w0 fun _ => False) M' f b ∧ f = true) → Rs w0 N f b ∧ b < w'.heap.size ∧ w'.heap[b]? = w'.heap[b]? := fun f b hb hh =>
      ⟨⟨(hh.1.2 hh.2).resolve_right (fun h => h), fun ho => hh.1.1 (hNo b ho)⟩, hb, rfl⟩
    refine ⟨N, ⟨hr.fr.os, hr.fr.tape, hr.fr.output, hr.fr.size, fun k hk => hr.fr.block k hk (fun h => h), fun _ => rfl, fun r e q hl => ?_, fun r hl => ?_, fun k hk => hlow k (hNo k hk), fun r r' k c z c' z' a1 a2 => ?_⟩, ?_⟩
    · rw [look_nrL] at hl
      split at hl
      · rename_i hB
        obtain ⟨x, hx, hx'⟩ := Option.map_eq_some_iff.1 hl
        cases hx'
        have hlt := (List.getElem?_eq_some_iff.1 hx).1
        rcases hr.row _ e q (g2 _ _ hx) with ⟨b1, b2⟩ | ⟨g, cap, cur, b1, b2, b3, b4, b5, b6⟩
        · exact .inl ⟨by simp [N, M1, hB, hlt]; simpa using b1, b2⟩
        · refine .inr ⟨g, cap, cur, by simp [N, M1, hB, hlt]; simpa using b1, b2, b3, b4, b5, fun i j d' hi hd => ?_⟩
          have h8 := b6 i j d' hi hd
          exact ((h8.flagE (M' := M') (elem_new true q i j d' hd).2 (elem_new true q i j d' hd).1).elem_any hd hA)
      · cases hl
    · simp only [N, M1]
      split
      · rename_i hB
        split
        · rename_i hlt
          exfalso
          refine hl rows[r - B] ?_
          rw [look_nrL, if_pos hB, List.getElem?_eq_getElem hlt]; rfl
        · rfl
      · rfl
    · simp only [N, M1] at a1 a2
      split at a1
      case isFalse => cases a1
      rename_i hB1
      split at a1
      case isFalse => cases a1
      rename_i hl1
      split at a2
      case isFalse => cases a2
      rename_i hB2
      split at a2
      case isFalse => cases a2
      rename_i hl2
      have := hr.inj2 _ _ _ _ _ _ _ a1 a2
      have := nodupB_ok h3 _ _ (by omega) (by omega) this
      omega
    · have h8 : VR M1 (Ow (Fs w0 fun _ => False) M') w' d v := VR.unren (M' := M') (A' := Ow (Fs w0 fun _ => False) M') (τ := id) (σ := fun j => ids.getD j 0) (fun r x hx => by
        simp only [M1] at hx
        split at hx
        · exact hx
        · cases hx) (fun b k hb => by simp [M1] at hb) (fun _ _ _ h => h) k2 h7
      exact VR.ren (M := M1) hA (fun r x hx => by
        simp only [N] at hx
        rw [if_pos (by omega), Nat.add_sub_cancel_left] at hx
        exact hx) (fun b k hb => by simp [N] at hb) (h8.flag k3)
  cases e with
  | normal => exact fin hq
  | ret => exact fin hq
  | _ => exact hq.elim
end Go.Proofs.Ytlmlfbjcpajinaa

/-! ## Vo -/
namespace Go.Proofs.Ytlmlfbjcpajinaa
open Go.RowKit Go.Deep
set_option linter.unusedSimpArgs false
set_option linter.unusedVariables false

/-! ### forcing: each is the identity, but its evaluation writes its argument out -/
def fcQ {α : Type} (q : Sq) (k : Sq → α) : α := match q with
  | .ints l => k (.ints l) | .pairs l => k (.pairs l) | .bools l => k (.bools l) | .intss l => k (.intss l) | .pairss l => k (.pairss l) | .boolss l => k (.boolss l) | .raises l => k (.raises l) | .strs l => k (.strs l)
theorem fcQ_eq {α : Type} (q : Sq) (k : Sq → α) : fcQ q k = k q := by cases q <;> rfl
def lenK {α : Type} (q : Sq) (k : Nat → α) : α := match q with
  | .ints l => k l.length | .pairs l => k l.length | .bools l => k l.length | .intss l => k l.length | .pairss l => k l.length | .boolss l => k l.length | .raises l => k l.length | .strs l => k l.length
theorem lenK_eq {α : Type} (q : Sq) (k : Nat → α) : lenK q k = k q.len := by cases q <;> rfl
def fcS {α : Type} (d : D) (k : D → α) : α := match d with
  | .dead => k .dead | .int n => k (.int n) | .bool b => k (.bool b) | .val v => k (.val v) | .nil => k .nil | .ro f q => fcQ q fun q => k (.ro f q) | .row r o n => k (.row r o n) | .ptr b o => k (.ptr b o)
  | .eptr r i o => k (.eptr r i o) | .rptr f q i o => fcQ q fun q => k (.rptr f q i o) | .agg l => k (.agg l) | .tup l => k (.tup l)
theorem fcS_eq {α : Type} (d : D) (k : D → α) : fcS d k = k d := by cases d <;> simp [fcS, fcQ_eq]
def fcL {α : Type} : List D → (List D → α) → α
  | [], k => k []
  | d :: l, k => fcS d fun d => fcL l fun l => k (d :: l)
theorem fcL_eq {α : Type} : ∀ (l : List D) (k : List D → α), fcL l k = k l
  | [], _ => rfl
  | d :: l, k => by simp only [fcL, fcS_eq, fcL_eq l]
def fcA {α : Type} (d : D) (k : D → α) : α := match d with
  | .agg l => fcL l fun l => k (.agg l)
  | d => fcS d k
theorem fcA_eq {α : Type} (d : D) (k : D → α) : fcA d k = k d := by cases d <;> simp [fcA, fcL_eq, fcS_eq]
def fcAL {α : Type} : List D → (List D → α) → α
  | [], k => k []
  | d :: l, k => fcA d fun d => fcAL l fun l => k (d :: l)
theorem fcAL_eq {α : Type} : ∀ (l : List D) (k : List D → α), fcAL l k = k l
  | [], _ => rfl
  | d :: l, k => by simp only [fcAL, fcA_eq, fcAL_eq l]
def fcD {α : Type} (d : D) (k : D → α) : α := match d with
  | .tup l => fcAL l fun l => k (.tup l)
  | d => fcA d k
theorem fcD_eq {α : Type} (d : D) (k : D → α) : fcD d k = k d := by cases d <;> simp [fcD, fcAL_eq, fcA_eq]

def evalF (TT : List (Nat × Ty)) (s : PS) : Op → Option (Prop × D)
  | .move x | .assign x => fcD (s.ev x) fun d => some (True, d)
  | .call c => match c.callee, c.args.toList, c.argTypes.toList with
    | .builtin .len, [x], [t] => match look TT t, s.ev x with
      | some (.sl _ _ _), .ro _ q => lenK q fun n => some (True, .int n)
      | some (.sl _ _ _), .row r _ n => (match s.r r with | some _ => some (True, .int n) | none => none)
      | some (.sl _ _ _), .nil => some (True, .int 0)
      | _, _ => none
    | _, _, _ => match evalV TT s (.call c) with | some (ob, d) => fcD d fun d => some (ob, d) | none => none
  | op => match evalV TT s op with | some (ob, d) => fcD d fun d => some (ob, d) | none => none
theorem evalF_ok {TT : List (Nat × Ty)} {s : PS} {op : Op} {r : Prop × D} (h : evalF TT s op = some r) : evalV TT s op = some r := by
  have gen : ∀ op, (match evalV TT s op with | some (ob, d) => fcD d fun d => some (ob, d) | none => none) = some r → evalV TT s op = some r := fun op h => by
    split at h
    · rename_i ob d he; rw [fcD_eq] at h; rw [he, h]
    · cases h
  unfold evalF at h
  split at h
  · rw [fcD_eq] at h; exact h
  · rw [fcD_eq] at h; exact h
  · rename_i c
    split at h
    · rename_i x t e1 e2 e3
      simp only [evalV, e1, e2, e3]
      split at h
      · rename_i hy hx; rw [lenK_eq] at h; simp only [hy, hx]; exact h
      · rename_i hy hx
        split at h
        · rename_i hr; simp only [hy, hx, hr]; exact h
        · cases h
      · rename_i hy hx; simp only [hy, hx]; exact h
      · cases h
    · exact gen _ h
  · exact gen _ h

/-! ### the state written out -/
def nfT : List (Nat × D) → Option (List (Nat × D))
  | [] => some []
  | (k, d) :: l => fcD d fun d => match nfT l with | some l => some ((k, d) :: l) | none => none
theorem nfT_ok : ∀ {l l' : List (Nat × D)}, nfT l = some l' → l' = l
  | [], l', h => by simp [nfT] at h; exact h
  | (k, d) :: l, l', h => by
    simp only [nfT, fcD_eq] at h
    split at h
    · rename_i m hm; cases h; rw [nfT_ok hm]
    · cases h
def nfR : List (Nat × Option (TypeId × Sq)) → Option (List (Nat × Option (TypeId × Sq)))
  | [] => some []
  | (k, none) :: l => (match nfR l with | some l => some ((k, none) :: l) | none => none)
  | (k, some (e, q)) :: l => fcQ q fun q => match nfR l with | some l => some ((k, some (e, q)) :: l) | none => none
theorem nfR_ok : ∀ {l l' : List (Nat × Option (TypeId × Sq))}, nfR l = some l' → l' = l
  | [], l', h => by simp [nfR] at h; exact h
  | (k, none) :: l, l', h => by
    simp only [nfR] at h
    split at h
    · rename_i m hm; cases h; rw [nfR_ok hm]
    · cases h
  | (k, some (e, q)) :: l, l', h => by
    simp only [nfR, fcQ_eq] at h
    split at h
    · rename_i m hm; cases h; rw [nfR_ok hm]
    · cases h
def nfB : List (Nat × Option (List D)) → Option (List (Nat × Option (List D)))
  | [] => some []
  | (k, none) :: l => (match nfB l with | some l => some ((k, none) :: l) | none => none)
  | (k, some cs) :: l => fcL cs fun cs => match nfB l with | some l => some ((k, some cs) :: l) | none => none
theorem nfB_ok : ∀ {l l' : List (Nat × Option (List D))}, nfB l = some l' → l' = l
  | [], l', h => by simp [nfB] at h; exact h
  | (k, none) :: l, l', h => by
    simp only [nfB] at h
    split at h
    · rename_i m hm; cases h; rw [nfB_ok hm]
    · cases h
  | (k, some cs) :: l, l', h => by
    simp only [nfB, fcL_eq] at h
    split at h
    · rename_i m hm; cases h; rw [nfB_ok hm]
    · cases h
def nf (s : PS) : Option PS := match nfT s.tmp, nfR s.row, nfB s.box with | some a, some b, some c => some ⟨a, b, c⟩ | _, _, _ => none
theorem nf_ok {s s' : PS} (h : nf s = some s') : s' = s := by
  unfold nf at h
  split at h
  · rename_i a b c h1 h2 h3
    cases h
    rw [nfT_ok h1, nfR_ok h2, nfB_ok h3]
  · cases h
section
variable {C : Cx} {ops : Array Oper} {K : PS → Prop} {o : Oper} {rest : List Oper} {s s' : PS} {TT : List (Nat × Ty)} {tm : List (Nat × D)} {rw' : List (Nat × Option (TypeId × Sq))} {bx : List (Nat × Option (List D))}
theorem vNf (hn : nf s = some s') (h : VO C ops K rest s') : VO C ops K rest s := by rw [← nf_ok hn]; exact h
def isV : Op → Bool
  | .move _ | .assign _ | .pick .. | .binOp .. | .unOp .. | .load .. | .fieldAddr .. | .indexAddr .. | .slice .. | .extract .. => true
  | .call c => match c.callee with | .builtin .len | .builtin .min | .builtin .max => true | _ => false
  | _ => false
/-- the rule for what only reckons and reads -/
theorem oVal (hT : TTOK C.P TT) (hi : isV o.op = true) (hg : o.guard = none) {t : Nat} (hd : o.dst = some t) (hn : Nat.blt t C.n = true) {ob : Prop} {d : D} (hv : evalF TT ⟨tm, rw', bx⟩ o.op = some (ob, d)) (hob : ob) (h : VO C ops K rest ⟨(t, d) :: tm, rw', bx⟩) : VO C ops K (o :: rest) ⟨tm, rw', bx⟩ :=
  vOp hg (sVal hT (evalF_ok hv) (by rw [hd]; exact hn) hob (by rw [hd]; exact h))
theorem oValG (hT : TTOK C.P TT) (hi : isV o.op = true) {j y : Nat} {want b : Bool} (hg : o.guard = some (j, want)) (hgd : gdst ops j = some y) (hy : Nat.blt y C.n = true) (hs : (PS.t ⟨tm, rw', bx⟩ y) = .bool b) (hb : b = want) {t : Nat} (hd : o.dst = some t) (hn : Nat.blt t C.n = true) {ob : Prop} {d : D}
    (hv : evalF TT ⟨tm, rw', bx⟩ o.op = some (ob, d)) (hob : ob) (h : VO C ops K rest ⟨(t, d) :: tm, rw', bx⟩) : VO C ops K (o :: rest) ⟨tm, rw', bx⟩ :=
  vOpG hg hgd hy hs hb (sVal hT (evalF_ok hv) (by rw [hd]; exact hn) hob (by rw [hd]; exact h))
theorem oNo {j y : Nat} {want b : Bool} (hg : o.guard = some (j, want)) (hgd : gdst ops j = some y) (hy : Nat.blt y C.n = true) (hs : (PS.t ⟨tm, rw', bx⟩ y) = .bool b) (hb : b = !want) {t : Nat} (hd : o.dst = some t) (hn : Nat.blt t C.n = true)
    (h : VO C ops K rest ⟨(t, .tup []) :: tm, rw', bx⟩) : VO C ops K (o :: rest) ⟨tm, rw', bx⟩ :=
  vNo hg hgd hy hs hb (by rw [hd]; exact hn) (by rw [hd]; exact h)
theorem oNoU {j y : Nat} {want : Bool} (hg : o.guard = some (j, want)) (hgd : gdst ops j = some y) (hs : (PS.t ⟨tm, rw', bx⟩ y) = .tup []) {t : Nat} (hd : o.dst = some t) (hn : Nat.blt t C.n = true)
    (h : VO C ops K rest ⟨(t, .tup []) :: tm, rw', bx⟩) : VO C ops K (o :: rest) ⟨tm, rw', bx⟩ :=
  vNoU hg hgd hs (by rw [hd]; exact hn) (by rw [hd]; exact h)
theorem oPick (hg : o.guard = none) {c x y : Operand} {b : Bool} (hop : o.op = .pick c x y) (hc : (PS.ev ⟨tm, rw', bx⟩ c) = .bool b) {t : Nat} (hd : o.dst = some t) (hn : Nat.blt t C.n = true) {d : D} (hb : b = true) (hx : (fcD (PS.ev ⟨tm, rw', bx⟩ x) some) = some d)
    (h : VO C ops K rest ⟨(t, d) :: tm, rw', bx⟩) : VO C ops K (o :: rest) ⟨tm, rw', bx⟩ := by
  rw [fcD_eq] at hx
  cases hx
  exact vOp hg (sPickT hop hc hb (by rw [hd]; exact hn) (by rw [hd]; exact h))
theorem oPickF (hg : o.guard = none) {c x y : Operand} {b : Bool} (hop : o.op = .pick c x y) (hc : (PS.ev ⟨tm, rw', bx⟩ c) = .bool b) {t : Nat} (hd : o.dst = some t) (hn : Nat.blt t C.n = true) {d : D} (hb : b = false) (hx : (fcD (PS.ev ⟨tm, rw', bx⟩ y) some) = some d)
    (h : VO C ops K rest ⟨(t, d) :: tm, rw', bx⟩) : VO C ops K (o :: rest) ⟨tm, rw', bx⟩ := by
  rw [fcD_eq] at hx
  cases hx
  exact vOp hg (sPickF hop hc hb (by rw [hd]; exact hn) (by rw [hd]; exact h))
theorem oBox (hg : o.guard = none) {t : TypeId} {x : Operand} {b : Nat} {d : D} {cs : List D} (hop : o.op = .box t x) (hd : o.dst = some b) (hx : (fcD (PS.ev ⟨tm, rw', bx⟩ x) some) = some d) (hfl : d.flat = true) (hcs : (fcL d.cells some) = some cs) (hn : Nat.blt b C.n = true) (hf : frB ⟨tm, rw', bx⟩ (fun y => Nat.beq y b) noB = true)
    (hm : (cs.all fun d => !mentS (fun y => Nat.beq y b) noB d) = true) (h : VO C ops K rest ⟨(b, .ptr b 0) :: tm, rw', (b, some cs) :: bx⟩) : VO C ops K (o :: rest) ⟨tm, rw', bx⟩ := by
  rw [fcD_eq] at hx
  rw [fcL_eq] at hcs
  cases hx
  cases hcs
  exact vOp hg (sBox hop hd rfl hfl hn (frB_ok hf) hm h)
theorem oAlloc (hT : TTOK C.P TT) (hg : o.guard = none) {t : TypeId} {b : Nat} {y : Ty} {cs : List D} (hop : o.op = .alloc t) (hd : o.dst = some b) (hy : look TT t = some y) (hcs : (fcL (zeroD y).cells some) = some cs) (hn : Nat.blt b C.n = true) (hf : frB ⟨tm, rw', bx⟩ (fun y => Nat.beq y b) noB = true)
    (hfl : (zeroD y).flat = true) (hm : (cs.all fun d => !mentS (fun y => Nat.beq y b) noB d) = true) (h : VO C ops K rest ⟨(b, .ptr b 0) :: tm, rw', (b, some cs) :: bx⟩) : VO C ops K (o :: rest) ⟨tm, rw', bx⟩ := by
  rw [fcL_eq] at hcs
  cases hcs
  exact vOp hg (sAlloc hT hop hd hy hn (frB_ok hf) hfl hm h)
theorem oStore (hT : TTOK C.P TT) (hg : o.guard = none) {t : TypeId} {p x : Operand} {y : Ty} {dp d : D} {ob : Prop} {s1 : PS} (hop : o.op = .store t p x) (hd : o.dst = none) (hy : look TT t = some y) (hp : (PS.ev ⟨tm, rw', bx⟩ p) = dp) (hx : (fcD (PS.ev ⟨tm, rw', bx⟩ x) some) = some d) (hfl : d.flat = true)
    (hsz : Nat.beq d.cells.length (tySize y) = true) (hw : wrL ⟨tm, rw', bx⟩ dp 0 d.cells = some (ob, s1)) (hnf : nf s1 = some s') (hlive : Live ⟨tm, rw', bx⟩ dp) (hob : ob) (h : VO C ops K rest s') : VO C ops K (o :: rest) ⟨tm, rw', bx⟩ := by
  rw [fcD_eq] at hx
  cases hx
  exact vOp hg (sStore hT hop hd hy hp rfl hfl hsz hw hlive hob (vNf hnf h))
theorem oBuild (hT : TTOK C.P TT) (hg : o.guard = none) {t e : TypeId} {k q q' : Sq} {by' m b : Nat} {parts : Array (Nat × Operand)} {ds : List D} (hop : o.op = .buildSlice t m parts) (hd : o.dst = some b) (hy : look TT t = some (.sl e k by')) (hp : partsD ⟨tm, rw', bx⟩ 0 parts.toList = some ds)
    (hm : Nat.beq ds.length m = true) (hq : k.ofL ds = some q) (hbig : Nat.ble (m * k.sz) 16777216 = true) (hn : Nat.blt b C.n = true) (hf : frB ⟨tm, rw', bx⟩ noB (isR b) = true) (hq' : fcQ q some = some q') (h : VO C ops K rest ⟨(b, .row b 0 m) :: tm, (b, some (e, q')) :: rw', bx⟩) : VO C ops K (o :: rest) ⟨tm, rw', bx⟩ := by
  rw [fcQ_eq] at hq'
  cases hq'
  exact vOp hg (sBuildSlice hT hop hd hy hp hm hq hbig hn (frB_ok hf) h)
theorem oMake (hT : TTOK C.P TT) (hg : o.guard = none) {t e : TypeId} {k q : Sq} {by' b m : Nat} {x y : Operand} {n : Int} (hop : o.op = .makeSlice t x y) (hd : o.dst = some b) (hy : look TT t = some (.sl e k by')) (hx : (PS.ev ⟨tm, rw', bx⟩ x) = .int n) (hyy : (PS.ev ⟨tm, rw', bx⟩ y) = .int n)
    (hb : Nat.ble by' 32 = true) (hn : Nat.blt b C.n = true) (hf : frB ⟨tm, rw', bx⟩ noB (isR b) = true) (hq : fcQ (k.zeros n.toNat) some = some q) (hm : lenK (k.zeros n.toNat) some = some m) (hob : 0 ≤ n ∧ n ≤ 4294967296) (h : VO C ops K rest ⟨(b, .row b 0 m) :: tm, (b, some (e, q)) :: rw', bx⟩) : VO C ops K (o :: rest) ⟨tm, rw', bx⟩ := by
  rw [fcQ_eq] at hq
  rw [lenK_eq] at hm
  cases hq
  cases hm
  exact vOp hg (sMake hT hop hd hy hx hyy hb hn (frB_ok hf) hob h)
theorem oAppend (hT : TTOK C.P TT) (hg : o.guard = none) {t e : TypeId} {k q q2 q' q'' : Sq} {by' b r m m' : Nat} {x y : Operand} {dy : D} {ob : Prop} (hop : o.op = .call { callee := .builtin .append, args := #[x, y], argTypes := #[t, t] }) (hd : o.dst = some b) (hy : look TT t = some (.sl e k by'))
    (hx : (PS.ev ⟨tm, rw', bx⟩ x) = .row r 0 m) (hr : (PS.r ⟨tm, rw', bx⟩ r) = some (e, q)) (hk : Nat.beq k.sz q.sz = true) (hyy : (PS.ev ⟨tm, rw', bx⟩ y) = dy) (hs : srcSq ⟨tm, rw', bx⟩ dy = some (ob, q2)) (happ : q.app q2 = some q') (hb : Nat.ble by' 32 = true) (hn : Nat.blt b C.n = true)
    (hq' : fcQ q' some = some q'') (hm' : lenK q' some = some m') (hnf : nf ⟨(b, .row r 0 m') :: (PS.kill ⟨tm, rw', bx⟩ r).tmp, (r, some (e, q'')) :: rw', (PS.kill ⟨tm, rw', bx⟩ r).box⟩ = some s') (hm : m = q.len) (hob : ob) (hbd : q.len + q2.len ≤ 4294967296) (h : VO C ops K rest s') : VO C ops K (o :: rest) ⟨tm, rw', bx⟩ := by
  rw [fcQ_eq] at hq'
  rw [lenK_eq] at hm'
  cases hq'
  cases hm'
  exact vOp hg (sAppend hT hop hd hy hx hr hk hyy hs happ hb hn hm hob hbd (vNf hnf h))
theorem oAppendP (hT : TTOK C.P TT) (hg : o.guard = none) {t e : TypeId} {k q q2 q' q'' : Sq} {by' b r m m' : Nat} {x y : Operand} {dy : D} {ob : Prop} (hop : o.op = .call { callee := .builtin .append, args := #[x, y], argTypes := #[t, t] }) (hd : o.dst = some b) (hy : look TT t = some (.sl e k by'))
    (hx : (PS.ev ⟨tm, rw', bx⟩ x) = .row r 0 m) (hr : (PS.r ⟨tm, rw', bx⟩ r) = some (e, q)) (hk : Nat.beq k.sz q.sz = true) (hyy : (PS.ev ⟨tm, rw', bx⟩ y) = dy) (hs : srcSq ⟨tm, rw', bx⟩ dy = some (ob, q2)) (happ : (q.take m).app q2 = some q') (hb : Nat.ble by' 32 = true) (hn : Nat.blt b C.n = true)
    (hq' : fcQ q' some = some q'') (hm' : lenK q' some = some m') (hnf : nf ⟨(b, .row r 0 m') :: (PS.kill ⟨tm, rw', bx⟩ r).tmp, (r, some (e, q'')) :: rw', (PS.kill ⟨tm, rw', bx⟩ r).box⟩ = some s') (hm : m ≤ q.len) (hob : ob) (hbd : m + q2.len ≤ 4294967296) (h : VO C ops K rest s') : VO C ops K (o :: rest) ⟨tm, rw', bx⟩ := by
  rw [fcQ_eq] at hq'
  rw [lenK_eq] at hm'
  cases hq'
  cases hm'
  exact vOp hg (sAppendP hT hop hd hy hx hr hk hyy hs happ hb hn hm hob hbd (vNf hnf h))
theorem oAppendNil (hT : TTOK C.P TT) (hg : o.guard = none) {t e : TypeId} {k q2 q' q'' : Sq} {by' b m' : Nat} {x y : Operand} {dy : D} {ob : Prop} (hop : o.op = .call { callee := .builtin .append, args := #[x, y], argTypes := #[t, t] }) (hd : o.dst = some b) (hy : look TT t = some (.sl e k by'))
    (hx : (PS.ev ⟨tm, rw', bx⟩ x) = .nil) (hk0 : Nat.beq k.len 0 = true) (hf : frB ⟨tm, rw', bx⟩ noB (isR b) = true) (hyy : (PS.ev ⟨tm, rw', bx⟩ y) = dy) (hs : srcSq ⟨tm, (b, some (e, k)) :: rw', bx⟩ dy = some (ob, q2)) (happ : k.app q2 = some q') (hb : Nat.ble by' 32 = true) (hn : Nat.blt b C.n = true)
    (hq' : fcQ q' some = some q'') (hm' : lenK q' some = some m') (hnf : nf ⟨(b, .row b 0 m') :: (PS.kill ⟨tm, rw', bx⟩ b).tmp, (b, some (e, q'')) :: (b, some (e, k)) :: rw', (PS.kill ⟨tm, rw', bx⟩ b).box⟩ = some s') (hob : ob) (hbd : q2.len ≤ 4294967296) (h : VO C ops K rest s') : VO C ops K (o :: rest) ⟨tm, rw', bx⟩ := by
  rw [fcQ_eq] at hq'
  rw [lenK_eq] at hm'
  cases hq'
  cases hm'
  exact vOp hg (sAppendNil hT hop hd hy hx hk0 (frB_ok hf) hyy hs happ hb hn hob hbd (vNf hnf h))
theorem oFreeze {t r m : Nat} {e : TypeId} {q : Sq} (ht : (PS.t ⟨tm, rw', bx⟩ t) = .row r 0 m) (hr : (PS.r ⟨tm, rw', bx⟩ r) = some (e, q)) (hnf : nf ⟨(t, .ro true q) :: (PS.kill ⟨tm, rw', bx⟩ r).tmp, (r, none) :: rw', (PS.kill ⟨tm, rw', bx⟩ r).box⟩ = some s') (hm : m = q.len) (h : VO C ops K rest s') : VO C ops K rest ⟨tm, rw', bx⟩ :=
  vFreeze ht hr hm (vNf hnf h)
theorem oCall {f : FuncId} {args : Array Operand} {ts : Array TypeId} {ds : List D} {rows : List (TypeId × Sq)} {d : D} (hp : PCall C.P f ds rows d) (hg : o.guard = none) (hop : o.op = .call { callee := .value (.func f), args := args, argTypes := ts }) {b : Nat} (hd : o.dst = some b) (hn : Nat.blt b C.n = true)
    (hno : (ds.all noIds) = true) (hf : frB ⟨tm, rw', bx⟩ noB (fun r => (look (nrL (rowB b) rows) r).isSome) = true) (hm : ment (fun _ => true) (fun r => (look (nrL (rowB b) rows) r).isNone) (ren id (fun j => rowB b + j) d) = false)
    (hnf : nf ⟨(b, ren id (fun j => rowB b + j) d) :: tm, nrL (rowB b) rows ++ rw', bx⟩ = some s') (hfit : fits ⟨tm, rw', bx⟩ args.toList ds) (h : VO C ops K rest s') : VO C ops K (o :: rest) ⟨tm, rw', bx⟩ :=
  vOp hg (sCall hop hp (by rw [hd]; exact hn) hfit hno (by rw [hd]; exact frB_ok hf) (by rw [hd]; exact hm) (by rw [hd]; exact vNf hnf h))
theorem oCallG {f : FuncId} {args : Array Operand} {ts : Array TypeId} {ds : List D} {rows : List (TypeId × Sq)} {d : D} (hp : PCall C.P f ds rows d) {j y : Nat} {want b' : Bool} (hg : o.guard = some (j, want)) (hgd : gdst ops j = some y) (hy : Nat.blt y C.n = true) (hs : (PS.t ⟨tm, rw', bx⟩ y) = .bool b') (hb : b' = want)
    (hop : o.op = .call { callee := .value (.func f), args := args, argTypes := ts }) {b : Nat} (hd : o.dst = some b) (hn : Nat.blt b C.n = true)
    (hno : (ds.all noIds) = true) (hf : frB ⟨tm, rw', bx⟩ noB (fun r => (look (nrL (rowB b) rows) r).isSome) = true) (hm : ment (fun _ => true) (fun r => (look (nrL (rowB b) rows) r).isNone) (ren id (fun j => rowB b + j) d) = false)
    (hnf : nf ⟨(b, ren id (fun j => rowB b + j) d) :: tm, nrL (rowB b) rows ++ rw', bx⟩ = some s') (hfit : fits ⟨tm, rw', bx⟩ args.toList ds) (h : VO C ops K rest s') : VO C ops K (o :: rest) ⟨tm, rw', bx⟩ :=
  vOpG hg hgd hy hs hb (sCall hop hp (by rw [hd]; exact hn) hfit hno (by rw [hd]; exact frB_ok hf) (by rw [hd]; exact hm) (by rw [hd]; exact vNf hnf h))
end
end Go.Proofs.Ytlmlfbjcpajinaa

/-! ## Vp -/
namespace Go.Proofs.Ytlmlfbjcpajinaa
open Go.RowKit Go.Deep
set_option linter.unusedSimpArgs false
set_option linter.unusedVariables false

def odst (ops : Array Oper) (j : Nat) : Option Tmp := (ops[j]?).bind (·.dst)
def putS (ops : Array Oper) (s : PS) (ds : Nat → D) (L : Nat → Bool) : Nat → PS
  | 0 => s
  | k + 1 => if L k then (putS ops s ds L k).put (odst ops k) (ds k) else putS ops s ds L k
theorem PS.row_put (s : PS) (o : Option Nat) (d : D) : (s.put o d).row = s.row := by cases o <;> rfl
theorem PS.box_put (s : PS) (o : Option Nat) (d : D) : (s.put o d).box = s.box := by cases o <;> rfl
section
variable {ops : Array Oper} {s : PS} {ds : Nat → D}
theorem putS_row (L : Nat → Bool) : ∀ k, (putS ops s ds L k).row = s.row ∧ (putS ops s ds L k).box = s.box
  | 0 => ⟨rfl, rfl⟩
  | k + 1 => by
    have ih := putS_row L k
    simp only [putS]
    split
    · rw [PS.row_put, PS.box_put]; exact ih
    · exact ih
theorem putS_congr {L L' : Nat → Bool} : ∀ {k : Nat}, (∀ j, j < k → L j = L' j) → putS ops s ds L k = putS ops s ds L' k
  | 0, _ => rfl
  | k + 1, h => by
    simp only [putS]
    rw [h k (Nat.lt_succ_self k), putS_congr (k := k) fun j hj => h j (Nat.lt_succ_of_lt hj)]
theorem putS_on {L L' : Nat → Bool} {i : Nat} : ∀ {k : Nat}, i < k → L i = false → (∀ j, L' j = (L j || j == i)) →
    (∀ j, i < j → j < k → L j = true → ∀ d, odst ops i = some d → odst ops j ≠ some d) → ∀ x, (putS ops s ds L' k).t x = ((putS ops s ds L k).put (odst ops i) (ds i)).t x
  | 0, h, _, _, _ => absurd h (Nat.not_lt_zero _)
  | k + 1, hik, hL, hL', hd => fun x => by
    simp only [putS]
    by_cases hi : i = k
    · subst hi
      rw [hL', hL]
      simp only [beq_self_eq_true, Bool.false_or, if_true, Bool.false_eq_true, if_false]
      rw [putS_congr (L := L') (L' := L) fun j hj => by rw [hL']; simp; omega]
    · have hlt : i < k := by omega
      have ih := putS_on hlt hL hL' fun j h1 h2 => hd j h1 (Nat.lt_succ_of_lt h2)
      have hne : (k == i) = false := by simp; omega
      rw [hL', hne, Bool.or_false]
      cases hk : L k with
      | false => simpa using ih x
      | true =>
        simp only [if_true]
        have h1 := hd k hlt (Nat.lt_succ_self k) hk
        rw [PS.t_put, ih x, PS.t_put, PS.t_put, PS.t_put]
        by_cases ha : odst ops k = some x
        · rw [if_pos ha, if_neg (fun hb => h1 x hb ha), if_pos ha]
        · rw [if_neg ha, if_neg ha]

/-- each later operation waits for an earlier one, or is apart from it; and waits for earlier ones alone -/
def pairV (md : Region.Mode) (ops : Array Oper) : Bool :=
  (List.range ops.size).all fun j => match ops[j]? with
    | none => true
    | some oj => oj.after.all (fun e => !Region.binds md e || decide (e.on < j)) &&
      (List.range j).all fun i => match ops[i]? with
        | none => true
        | some oi => oj.after.any (fun e => Region.binds md e && e.on == i) || oi.apart ops oj
theorem pairV_spec {md : Region.Mode} (h : pairV md ops = true) {i j : Nat} {oi oj : Oper} (hij : i < j) (hi : ops[i]? = some oi) (hj : ops[j]? = some oj)
    (hno : ∀ e ∈ oj.after, Region.binds md e = true → e.on ≠ i) : oi.apart ops oj = true := by
  simp only [pairV, List.all_eq_true, List.mem_range] at h
  have h1 := h j (Array.getElem?_eq_some_iff.1 hj).1
  simp only [hj, Bool.and_eq_true, List.all_eq_true, List.mem_range] at h1
  have h2 := h1.2 i hij
  simp only [hi, Bool.or_eq_true] at h2
  rcases h2 with h2 | h2
  · obtain ⟨k, hk, h3⟩ := Array.any_eq_true.1 h2
    simp only [Bool.and_eq_true, beq_iff_eq] at h3
    exact absurd h3.2 (hno _ (Array.getElem_mem hk) h3.1)
  · exact h2
theorem pairV_edge {md : Region.Mode} (h : pairV md ops = true) {j : Nat} {oj : Oper} (hj : ops[j]? = some oj) {e : _} (he : e ∈ oj.after) (hb : Region.binds md e = true) : e.on < j := by
  simp only [pairV, List.all_eq_true, List.mem_range] at h
  have h1 := h j (Array.getElem?_eq_some_iff.1 hj).1
  simp only [hj, Bool.and_eq_true] at h1
  have h2 := Array.all_eq_true_iff_forall_mem.1 h1.1 e he
  simpa [hb] using h2
end

theorem Rel.sameT {w0 : World} {O0 : Nat → Prop} {n : Nat} {M : Mp} {s s' : PS} {a : Act} {w : World} (h : Rel w0 O0 n M s a w) (ht : ∀ x, s'.t x = s.t x) (hr : s'.row = s.row) (hb : s'.box = s.box) : Rel w0 O0 n M s' a w := by
  have hr' : ∀ r, s'.r r = s.r r := fun r => by simp [PS.r, hr]
  have hb' : ∀ r, s'.b r = s.b r := fun r => by simp [PS.b, hb]
  exact ⟨h.fr, h.dfr, h.sz, fun t => by rw [ht]; exact h.tmp t, fun b cs hx => h.box b cs (by rwa [hb'] at hx), fun b hx => h.boxn b (by rwa [hb'] at hx), fun r e q hx => h.row r e q (by rwa [hr'] at hx),
    fun r hx => h.rown r (by rwa [hr'] at hx), h.low, h.inj1, h.inj2, h.inj3⟩

section
variable {C : Cx} {ops : Array Oper} {o : Oper} {s : PS} {K : PS → Prop} {TT : List (Nat × Ty)}
/-- s1 says of what o looks at what s says -/
structure Agree (ops : Array Oper) (o : Oper) (s s1 : PS) : Prop where
  row : s1.row = s.row
  box : s1.box = s.box
  t : ∀ x ∈ o.looksAt ops, s1.t x = s.t x
theorem Agree.ev {s1 : PS} (h : Agree ops o s s1) (x : Operand) (hx : x ∈ o.op.operands) : s1.ev x = s.ev x := by
  cases x with
  | tmp t => exact h.t t (List.mem_append_left _ (List.mem_filterMap.2 ⟨.tmp t, by simpa using hx, rfl⟩))
  | _ => rfl
theorem Agree.r {s1 : PS} (h : Agree ops o s s1) (r : Nat) : s1.r r = s.r r := by simp [PS.r, h.row]
theorem Agree.b {s1 : PS} (h : Agree ops o s s1) (r : Nat) : s1.b r = s.b r := by simp [PS.b, h.box]

/-- the operation yields d (d = .tup [] where it is passed over) and leaves memory of the call's own -/
structure QV (C : Cx) (ops : Array Oper) (o : Oper) (s : PS) (d : D) : Prop where
  out : ∀ s1 M a w, Agree ops o s s1 → Rel C.w0 C.O0 C.n M s1 a w →
    (Region.wanted o (yielded ops a.tmps) = true ∧ Step C o s1 (fun s' => s' = s1.put o.dst d)) ∨
    (Region.wanted o (yielded ops a.tmps) = false ∧ d = .tup [] ∧ dstOk C.n o.dst = true)
/-- The chain in the order of the text. -/
def QC (C : Cx) (ops : Array Oper) (K : PS → Prop) : List Oper → PS → Prop
  | [], s => K s
  | o :: rest, s => ∃ d, QV C ops o s d ∧ QC C ops K rest (s.put o.dst d)

theorem qc_values : ∀ (l : List Oper) (k : Nat) (s0 : PS) (us : Nat → D), (∀ j : Nat, l[j]? = ops[k + j]?) → QC C ops K l (putS ops s0 us (fun _ => true) k) →
    ∃ ds : Nat → D, (∀ j, j < k → ds j = us j) ∧ (∀ j o, k ≤ j → ops[j]? = some o → QV C ops o (putS ops s0 ds (fun _ => true) j) (ds j)) ∧ K (putS ops s0 ds (fun _ => true) (k + l.length))
  | [], k, s0, us, hl, h => ⟨us, fun _ _ => rfl, fun j o hj ho => by
      have := hl (j - k); simp [show k + (j - k) = j from by omega, ho] at this, h⟩
  | o :: rest, k, s0, us, hl, h => by
    obtain ⟨v, hy, hr⟩ := h
    have ho : ops[k]? = some o := by simpa using (hl 0).symm
    let us' : Nat → D := fun j => if j = k then v else us j
    have hsame : ∀ m, m ≤ k → putS ops s0 us' (fun _ => true) m = putS ops s0 us (fun _ => true) m := by
      intro m
      induction m with
      | zero => intro _; rfl
      | succ m ih => intro hm; simp only [putS, if_true]; rw [ih (by omega)]; simp only [us', show m ≠ k from by omega, if_false]
    have hnext : putS ops s0 us' (fun _ => true) (k + 1) = (putS ops s0 us (fun _ => true) k).put o.dst v := by
      simp only [putS, if_true]; rw [hsame k (Nat.le_refl _)]; simp [us', odst, ho]
    obtain ⟨vs, h1, h2, h3⟩ := qc_values rest (k + 1) s0 us' (fun j => by have := hl (j + 1); simpa [Nat.add_assoc, Nat.add_comm 1 j] using this) (by rw [hnext]; exact hr)
    have hvs : ∀ m, m ≤ k + 1 → putS ops s0 vs (fun _ => true) m = putS ops s0 us' (fun _ => true) m := by
      intro m
      induction m with
      | zero => intro _; rfl
      | succ m ih => intro hm; simp only [putS, if_true]; rw [ih (by omega), h1 m (by omega)]
    refine ⟨vs, fun j hj => ?_, fun j o' hj ho' => ?_, ?_⟩
    · rw [h1 j (by omega)]; simp only [us', show j ≠ k from by omega, if_false]
    · rcases Nat.lt_or_ge k j with hlt | hge
      · exact h2 j o' hlt ho'
      · have hjk : j = k := by omega
        subst hjk
        rw [ho] at ho'; cases ho'
        rw [hvs j (by omega), hsame j (Nat.le_refl _), h1 j (by omega)]
        simpa [us'] using hy
    · rw [List.length_cons, show k + (rest.length + 1) = k + 1 + rest.length from by omega]
      exact h3

theorem listedV_out {listed : Array Bool} (hs : listed.size = ops.size) {j : Nat} (h : listed.getD j true = false) : j < ops.size := by
  rcases Nat.lt_or_ge j listed.size with h' | h'
  · omega
  · simp [Array.getElem?_eq_none h'] at h
theorem cntV_on {L L' : Nat → Bool} {i : Nat} (hL : L i = false) (h : ∀ j, L' j = (L j || j == i)) : ∀ {n : Nat}, i < n → (List.range n).countP (fun j => !L' j) + 1 ≤ (List.range n).countP (fun j => !L j)
  | 0, hi => absurd hi (Nat.not_lt_zero _)
  | n + 1, hi => by
    rw [List.range_succ, List.countP_append, List.countP_append]
    simp only [List.countP_cons, List.countP_nil, Nat.zero_add]
    by_cases hin : i = n
    · subst hin
      have e : (List.range i).countP (fun j => !L' j) = (List.range i).countP (fun j => !L j) := by
        apply List.countP_congr
        intro j hj
        have : j < i := by simpa using hj
        rw [h]; simp; omega
      rw [e, h, hL]; simp
    · have ih := cntV_on hL h (n := n) (by omega)
      have : L' n = L n := by rw [h]; simp; omega
      rw [this]; omega

theorem wpAny_of_chain {Qe : Exit → Act → World → Prop} {md : Region.Mode} (hp : pairV md ops = true) (s0 : PS) (ds : Nat → D)
    (hy : ∀ j o, ops[j]? = some o → QV C ops o (putS ops s0 ds (fun _ => true) j) (ds j)) (hq : ∀ M a w, Rel C.w0 C.O0 C.n M (putS ops s0 ds (fun _ => true) ops.size) a w → Qe .normal a w) :
    ∀ (fuel : Nat) (listed : Array Bool) (M : Mp) (a : Act) (w : World), listed.size = ops.size → (List.range ops.size).countP (fun j => !listed.getD j true) ≤ fuel →
      (∀ j oj, ops[j]? = some oj → listed.getD j true = true → ∀ e ∈ oj.after, Region.binds md e = true → listed.getD e.on true = true) → Rel C.w0 C.O0 C.n M (putS ops s0 ds (fun j => listed.getD j true) ops.size) a w →
      wpAny C.P md ops Qe fuel listed a w := by
  have done : ∀ (listed : Array Bool) M a w, (∀ j, j < ops.size → listed.getD j true = true) → Rel C.w0 C.O0 C.n M (putS ops s0 ds (fun j => listed.getD j true) ops.size) a w → Qe .normal a w := fun listed M a w hall hS => by
    rw [putS_congr (L' := fun _ => true) fun j hj => hall j hj] at hS; exact hq M a w hS
  intro fuel
  induction fuel with
  | zero =>
    intro listed M a w hsz hcnt hcl hS
    have hall : ∀ j, j < ops.size → listed.getD j true = true := fun j hj => by
      have := List.countP_eq_zero.1 (Nat.le_zero.1 hcnt) j (by simpa using hj)
      simpa using this
    refine ⟨?_, done listed M a w hall hS⟩
    apply List.eq_nil_iff_forall_not_mem.2
    intro i hi
    obtain ⟨h0, _⟩ := mem_ready.1 hi
    have := hall i (listedV_out hsz h0)
    rw [this] at h0; cases h0
  | succ fuel ih =>
    intro listed M a w hsz hcnt hcl hS
    refine ⟨fun hr => ?_, fun i hi => ?_⟩
    · refine done listed M a w (fun j hj => ?_) hS
      induction j using Nat.strongRecOn with
      | _ j ihj =>
        cases hun : listed.getD j true with
        | true => rfl
        | false =>
          exfalso
          have hmem : j ∈ Region.ready md ops listed := by
            refine mem_ready.2 ⟨hun, ops[j], Array.getElem?_eq_getElem hj, fun e he hb => ?_⟩
            have hlt := pairV_edge hp (Array.getElem?_eq_getElem hj) he hb
            have hl := ihj e.on hlt (by omega)
            have hin : e.on < listed.size := by omega
            simp [hin] at hl ⊢
            exact hl
          rw [hr] at hmem; cases hmem
    · obtain ⟨hun, o, ho, hdeps⟩ := mem_ready.1 hi
      have hin := listedV_out hsz hun
      have hsame : ∀ j, listed.getD j false = true → listed.getD j true = true := fun j h => by
        rcases Nat.lt_or_ge j listed.size with h' | h'
        · simp [h'] at h ⊢; exact h
        · simp [Array.getElem?_eq_none h'] at h
      have hnot : ∀ j, listed.getD j true = false → ∀ e ∈ o.after, Region.binds md e = true → e.on ≠ j := fun j hj e he hb heq => by
        have := hsame _ (hdeps e he hb); rw [heq] at this; rw [this] at hj; cases hj
      have hnot2 : ∀ m j oj, listed.getD m true = false → ops[j]? = some oj → listed.getD j true = true → ∀ e ∈ oj.after, Region.binds md e = true → e.on ≠ m := fun m j oj hm hoj hj e he hb heq => by
        have := hcl j oj hoj hj e he hb; rw [heq] at this; rw [this] at hm; cases hm
      have hget : ∀ j, j < ops.size → ∃ oj, ops[j]? = some oj := fun j hj => ⟨ops[j], Array.getElem?_eq_getElem hj⟩
      have hdst : ∀ m j, m < j → j < ops.size → listed.getD m true = false → listed.getD j true = true → ∀ d, odst ops m = some d → odst ops j ≠ some d := fun m j hmj hj hm hlj d hd => by
        obtain ⟨om, hom⟩ := hget m (by omega)
        obtain ⟨oj, hoj⟩ := hget j hj
        have hap := Oper.apart_spec (pairV_spec hp hmj hom hoj (hnot2 m j oj hm hoj hlj))
        simp only [odst, hom, hoj, Option.bind_some] at hd ⊢
        exact hap.2.1 d hd
      let X : Nat → Nat → Bool := fun m j => listed.getD j true || decide (j < m)
      have stepA : ∀ m, m ≤ i → ∀ x ∈ o.looksAt ops, (putS ops s0 ds (X m) i).t x = (putS ops s0 ds (fun j => listed.getD j true) i).t x := by
        intro m
        induction m with
        | zero => intro _ x _; rw [putS_congr (L := X 0) (L' := fun j => listed.getD j true) fun j hj => by simp [X]]
        | succ m ihm =>
          intro hm x hx
          have ih1 := ihm (by omega) x hx
          cases hl : listed.getD m true with
          | true =>
            rw [putS_congr (L := X (m + 1)) (L' := X m) fun j hj => by
              by_cases hjm : j = m
              · subst hjm; simp only [X, hl, Bool.true_or]
              · simp only [X]; congr 1; simp; omega]
            exact ih1
          | false =>
            obtain ⟨om, hom⟩ := hget m (by omega)
            have hap := Oper.apart_spec (pairV_spec hp (show m < i by omega) hom ho (hnot m hl))
            have hon := putS_on (ops := ops) (s := s0) (ds := ds) (L := X m) (L' := X (m + 1)) (i := m) (k := i) (by omega) (by simp only [X, hl]; simp) (fun j => by
                simp only [X]
                by_cases hjm : j = m
                · subst hjm; simp
                · have : (j == m) = false := by simpa using hjm
                  rw [this, Bool.or_false]; congr 1; simp; omega) (fun j h1 h2 h3 => by
              have h3' : listed.getD j true = true := by
                simp only [X, Bool.or_eq_true, decide_eq_true_eq] at h3
                rcases h3 with h3 | h3
                · exact h3
                · omega
              exact hdst m j h1 (by omega) hl h3') x
            rw [hon, PS.t_put, if_neg (fun hd => hap.1 x (by simpa [odst, hom] using hd) hx)]
            exact ih1
      have stepB : ∀ k, i ≤ k → k ≤ ops.size → ∀ x ∈ o.looksAt ops, (putS ops s0 ds (fun j => listed.getD j true) k).t x = (putS ops s0 ds (fun j => listed.getD j true) i).t x := by
        intro k
        induction k with
        | zero => intro h _ x _; have : i = 0 := by omega
                  subst this; rfl
        | succ k ihk =>
          intro h1 h2 x hx
          rcases Nat.lt_or_ge k i with hki | hki
          · have : i = k + 1 := by omega
            subst this; rfl
          · have ih1 := ihk hki (by omega) x hx
            simp only [putS]
            by_cases hl : listed.getD k true = true
            case neg => rw [if_neg hl]; exact ih1
            case pos =>
              rw [if_pos hl]
              have hne : i < k := by
                rcases Nat.lt_or_ge i k with h | h
                · exact h
                · have : i = k := by omega
                  subst this; rw [hun] at hl; cases hl
              obtain ⟨ok, hok⟩ := hget k (by omega)
              have hap := Oper.apart_spec (pairV_spec hp hne ho hok (hnot2 i k ok hun hok hl))
              rw [PS.t_put, if_neg (fun hd => hap.2.2 x (by simpa [odst, hok] using hd) hx)]
              exact ih1
      have hall : putS ops s0 ds (X i) i = putS ops s0 ds (fun _ => true) i := putS_congr fun j hj => by simp [X, hj]
      have hag : Agree ops o (putS ops s0 ds (fun _ => true) i) (putS ops s0 ds (fun j => listed.getD j true) ops.size) := by
        refine ⟨by rw [(putS_row _ _).1, (putS_row _ _).1], by rw [(putS_row _ _).2, (putS_row _ _).2], fun x hx => ?_⟩
        rw [stepB ops.size (by omega) (Nat.le_refl _) x hx, ← stepA i (Nat.le_refl _) x hx, hall]
      have hL' : ∀ j, (listed.setIfInBounds i true).getD j true = (listed.getD j true || j == i) := fun j => by
        by_cases hji : j = i
        · subst hji
          have : j < (listed.setIfInBounds j true).size := by simp; omega
          simp [show j < listed.size from by omega]
        · rw [getD_set_ne true (Ne.symm hji)]; have : (j == i) = false := by simpa using hji
          rw [this, Bool.or_false]
      have hnext : ∀ M' a' w', Rel C.w0 C.O0 C.n M' ((putS ops s0 ds (fun j => listed.getD j true) ops.size).put o.dst (ds i)) a' w' → wpAny C.P md ops Qe fuel (listed.setIfInBounds i true) a' w' := fun M' a' w' hR => by
        refine ih _ M' a' w' (by simpa using hsz) ?_ ?_ ?_
        · have := cntV_on (L := fun j => listed.getD j true) (L' := fun j => (listed.setIfInBounds i true).getD j true) hun hL' hin
          omega
        · intro j oj hoj hlj e he hb
          rw [hL'] at hlj ⊢
          simp only [Bool.or_eq_true, beq_iff_eq] at hlj ⊢
          rcases hlj with hlj | rfl
          · exact .inl (hcl j oj hoj hlj e he hb)
          · rw [ho] at hoj; cases hoj
            exact .inl (hsame _ (hdeps e he hb))
        · refine hR.sameT (fun x => ?_) (by rw [(putS_row _ _).1, PS.row_put, (putS_row _ _).1]) (by rw [(putS_row _ _).2, PS.box_put, (putS_row _ _).2])
          rw [putS_on (ops := ops) (s := s0) (ds := ds) (L := fun j => listed.getD j true) hin hun hL' (fun j h1 h2 h3 => hdst i j h1 h2 hun h3) x]
          simp [odst, ho]
      unfold wpOp
      simp only [ho]
      rcases (hy i o ho).out _ M a w hag hS with ⟨h1, h2⟩ | ⟨h1, h2, h3⟩
      · rw [if_pos h1]
        exact .inl (h2.out M a w Qe _ hS fun M' s' a' w' he hR => hnext M' a' w' (by rw [← he]; exact hR))
      · rw [if_neg (by rw [h1]; simp)]
        refine hnext M _ w ?_
        rw [h2]
        exact hS.put h3 (.tup [] #[] rfl (by simp))

/-- **A region that draws its order may be gone through in the order of its text.** -/
theorem vRegionD {id : Nat} {l : List Oper} {Q : Exit → PS → Prop} (hm : C.P.follows .mixedOrders = true) (hp : pairV .any l.toArray = true) (h : QC C l.toArray (Q .normal) l s) : VC C (.region id l.toArray true) Q s := by
  refine ⟨fun M a w hr => wp_region_any hm ?_⟩
  obtain ⟨ds, _, h2, h3⟩ := qc_values (C := C) (ops := l.toArray) l 0 s (fun _ => .dead) (fun j => by simp) (by simpa [putS] using h)
  have hr' : Rel C.w0 C.O0 C.n M s a { w with drawn := w.drawn + 1 } := by
    have hA : ∀ f b, b < w.heap.size → Ow (Fs C.w0 C.O0) M f b → Ow (Fs C.w0 C.O0) M f b ∧ b < ({ w with drawn := w.drawn + 1 } : World).heap.size ∧ ({ w with drawn := w.drawn + 1 } : World).heap[b]? = w.heap[b]? := fun f b h1 h2 => ⟨h2, h1, rfl⟩
    have mono : ∀ {d v}, VR M (Ow (Fs C.w0 C.O0) M) w d v → VR M (Ow (Fs C.w0 C.O0) M) { w with drawn := w.drawn + 1 } d v := fun hv => hv.mono hA (fun _ _ h => h) (fun _ _ h => h)
    exact ⟨⟨hr.fr.os, hr.fr.tape, hr.fr.output, hr.fr.size, hr.fr.block⟩, hr.dfr, hr.sz, fun t => mono (hr.tmp t), fun b cs hb => by
        obtain ⟨k, cur, e, g1, g2, g3, g4⟩ := hr.box b cs hb
        exact ⟨k, cur, e, g1, g2, g3, fun j d hd => mono (g4 j d hd)⟩, hr.boxn, fun r e q hx => by
        rcases hr.row r e q hx with ⟨g1, g2⟩ | ⟨g, cap, cur, g1, g2, g3, g4, g5, g6⟩
        · exact .inl ⟨g1, g2⟩
        · exact .inr ⟨g, cap, cur, g1, g2, g3, g4, g5, fun i j d hi hd => mono (g6 i j d hi hd)⟩, hr.rown, hr.low, hr.inj1, hr.inj2, hr.inj3⟩
  refine wpAny_of_chain (C := C) (md := .any) hp s ds (fun j o ho => h2 j o (Nat.zero_le _) ho) (fun M a w hR => ⟨_, M, by simpa using h3, hR⟩) l.toArray.size _ M a _ (by simp)
    (Nat.le_trans (List.countP_le_length) (by simp)) (fun j oj hoj hl => by
      have := (Array.getElem?_eq_some_iff.1 hoj).1
      simp only [List.size_toArray] at this
      simp [this] at hl) ?_
  rw [putS_congr (L' := fun _ => false) fun j hj => by simp only [List.size_toArray] at hj; simp [hj]]
  have h0 : ∀ k, putS l.toArray s ds (fun _ => false) k = s := by
    intro k; induction k with
    | zero => rfl
    | succ k ih => simp [putS, ih]
  rw [h0]
  exact hr'
end
end Go.Proofs.Ytlmlfbjcpajinaa

/-! ## Vq -/
namespace Go.Proofs.Ytlmlfbjcpajinaa
open Go.RowKit Go.Deep
set_option linter.unusedSimpArgs false
set_option linter.unusedVariables false

theorem evalV_congr {TT : List (Nat × Ty)} {s s1 : PS} {op : Op} (he : ∀ x ∈ op.operands, s1.ev x = s.ev x) (hr : ∀ r, s1.r r = s.r r) (hb : ∀ b, s1.b b = s.b b) : evalV TT s1 op = evalV TT s op := by
  have hp : ∀ d, ptrCells s1 d = ptrCells s d := fun d => by cases d <;> simp [ptrCells, hr, hb]
  cases op <;> simp only [Op.operands] at he <;> try rfl
  case move x => simp only [evalV]; rw [he x (by simp)]
  case assign x => simp only [evalV]; rw [he x (by simp)]
  case pick c x y => simp only [evalV]; rw [he c (by simp), he x (by simp), he y (by simp)]
  case load t x => simp only [evalV]; rw [he x (by simp), hp]
  case binOp op t x y u => simp only [evalV]; rw [he x (by simp), he y (by simp)]
  case unOp op t x => cases op <;> simp only [evalV] <;> rw [he x (by simp)]
  case slice t x lo hi mx =>
    cases mx with
    | some m => rfl
    | none =>
      have h1 : optI s1 lo = optI s lo := by cases lo with | none => rfl | some y => simp only [optI]; rw [he y (by simp)]
      have h2 : optI s1 hi = optI s hi := by cases hi with | none => rfl | some y => simp only [optI]; rw [he y (by simp)]
      simp only [evalV, h1, h2, hr]
      rw [he x (by simp)]
  case fieldAddr t x f => simp only [evalV, hr, hb]; rw [he x (by simp)]
  case indexAddr t x y => simp only [evalV, hr]; rw [he x (by simp), he y (by simp)]
  case extract x i => simp only [evalV]; rw [he x (by simp)]
  case call c =>
    obtain ⟨callee, args, ts⟩ := c
    simp only [evalV]
    have ha : ∀ x ∈ args.toList, s1.ev x = s.ev x := fun x hx => he x (by simp only [Call.operands]; exact Array.mem_append.2 (.inr (by simpa using hx)))
    generalize args.toList = l at ha
    split
    · rw [ha _ (by simp)]; simp only [hr]
    · rw [ha _ (by simp), ha _ (by simp)]
    · rw [ha _ (by simp), ha _ (by simp)]
    · rename_i h1 h2 h3
      rfl

theorem fitS_congr {s s1 : PS} (hr : ∀ r, s1.r r = s.r r) (d d' : D) : fitS s1 d d' = fitS s d d' := by
  cases d with
  | row r off m => cases off <;> cases d' <;> simp only [fitS, hr]
  | _ => cases d' <;> rfl
theorem fitL_congr {s s1 : PS} (hr : ∀ r, s1.r r = s.r r) : ∀ (l l' : List D), fitL s1 l l' = fitL s l l'
  | [], [] => rfl
  | x :: l, y :: l' => by simp only [fitL]; rw [fitS_congr hr, fitL_congr hr l l']
  | [], _ :: _ => rfl
  | _ :: _, [] => rfl
theorem fit_congr {s s1 : PS} (hr : ∀ r, s1.r r = s.r r) (d d' : D) : fit s1 d d' = fit s d d' := by
  cases d with
  | agg l =>
    cases d' with
    | agg m => exact fitL_congr hr l m
    | _ => rfl
  | _ => cases d' <;> (simp only [fit]; exact fitS_congr hr _ _)
theorem fits_congr {s s1 : PS} (hr : ∀ r, s1.r r = s.r r) : ∀ (xs : List Operand) (ds : List D), (∀ x ∈ xs, s1.ev x = s.ev x) → fits s1 xs ds = fits s xs ds
  | [], [], _ => rfl
  | x :: xs, d :: ds, h => by simp only [fits]; rw [h x (by simp), fit_congr hr, fits_congr hr xs ds (fun y hy => h y (by simp [hy]))]
  | [], _ :: _, _ => rfl
  | _ :: _, [], _ => rfl

section
variable {C : Cx} {ops : Array Oper} {o : Oper} {K : PS → Prop} {TT : List (Nat × Ty)} {rest : List Oper} {tm : List (Nat × D)} {rw' : List (Nat × Option (TypeId × Sq))} {bx : List (Nat × Option (List D))} {s : PS}
theorem looksAt_guard {j t : Nat} {want : Bool} (hg : o.guard = some (j, want)) (hd : gdst ops j = some t) : t ∈ o.looksAt ops := by
  unfold gdst at hd
  rw [Array.getElem?_toList] at hd
  refine List.mem_append_right _ ?_
  rw [hg]
  cases h : ops[j]? with
  | none => rw [h] at hd; cases hd
  | some o' => rw [h] at hd; simp [h, hd]
/-- when it is not passed over: by its guard, or having none -/
def Wanted (C : Cx) (ops : Array Oper) (o : Oper) (s : PS) : Prop :=
  o.guard = none ∨ ∃ j want t b, o.guard = some (j, want) ∧ gdst ops j = some t ∧ Nat.blt t C.n = true ∧ s.t t = .bool b ∧ b = want
theorem Wanted.ok (h : Wanted C ops o s) {s1 : PS} {M : Mp} {a : Act} {w : World} (hag : Agree ops o s s1) (hr : Rel C.w0 C.O0 C.n M s1 a w) : Region.wanted o (yielded ops a.tmps) = true := by
  rcases h with hg | ⟨j, want, t, b, hg, hd, ht, hs, hb⟩
  · simp [Region.wanted, hg]
  · have h1 : s1.t t = .bool b := by rw [hag.t t (looksAt_guard hg hd)]; exact hs
    simp [Region.wanted, hg, yield_of hr hd h1 ht, hb]
theorem qStep {d : D} (hw : Wanted C ops o s) (h : ∀ s1, Agree ops o s s1 → Step C o s1 (fun s' => s' = s1.put o.dst d)) : QV C ops o s d :=
  ⟨fun s1 M a w hag hr => .inl ⟨hw.ok hag hr, h s1 hag⟩⟩
theorem qNo {j t : Nat} {want b : Bool} (hg : o.guard = some (j, want)) (hd : gdst ops j = some t) (ht : Nat.blt t C.n = true) (hs : s.t t = .bool b) (hb : b = !want) (ho : dstOk C.n o.dst = true) : QV C ops o s (.tup []) :=
  ⟨fun s1 M a w hag hr => .inr ⟨by
    have h1 : s1.t t = .bool b := by rw [hag.t t (looksAt_guard hg hd)]; exact hs
    simp [Region.wanted, hg, yield_of hr hd h1 ht, hb], rfl, ho⟩⟩
theorem qNoU {j t : Nat} {want : Bool} (hg : o.guard = some (j, want)) (hd : gdst ops j = some t) (hs : s.t t = .tup []) (ho : dstOk C.n o.dst = true) : QV C ops o s (.tup []) :=
  ⟨fun s1 M a w hag hr => .inr ⟨by
    have h1 := hr.tmp t
    rw [hag.t t (looksAt_guard hg hd), hs] at h1
    obtain ⟨us, h2, h3, _⟩ := h1.tup_inv
    have h5 : (ops[j]?).bind (·.dst) = some t := by
      unfold gdst at hd
      rw [Array.getElem?_toList] at hd
      cases h : ops[j]? with
      | none => rw [h] at hd; cases hd
      | some o => rw [h] at hd; exact hd
    have hy : yielded ops a.tmps j = none := by
      simp only [yielded, h5, Option.bind_some]
      cases h6 : a.tmps[t]? with
      | none => rfl
      | some v =>
        have : v = .tuple us := by simpa [h6] using h2
        subst this; rfl
    simp [Region.wanted, hg, hy], rfl, ho⟩⟩
theorem qVal (hT : TTOK C.P TT) {ob : Prop} {d : D} (hw : Wanted C ops o s) (hv : evalF TT s o.op = some (ob, d)) (ho : dstOk C.n o.dst = true) (hob : ob) : QV C ops o s d :=
  qStep hw fun s1 hag => sVal hT (by rw [evalV_congr (fun x hx => hag.ev x hx) hag.r hag.b]; exact evalF_ok hv) ho hob rfl
theorem qPick {c x y : Operand} {b : Bool} {d : D} (hop : o.op = .pick c x y) (hw : Wanted C ops o s) (hc : s.ev c = .bool b) (ho : dstOk C.n o.dst = true) (hb : (b = true ∧ d = s.ev x) ∨ (b = false ∧ d = s.ev y)) : QV C ops o s d :=
  qStep hw fun s1 hag => by
    have e : ∀ z ∈ [c, x, y], s1.ev z = s.ev z := fun z hz => hag.ev z (by rw [hop]; simpa [Op.operands] using hz)
    refine sPick hop (by rw [e c (by simp)]; exact hc) ho ?_ rfl
    rw [e x (by simp), e y (by simp)]
    exact hb
theorem Rel.later {w0 : World} {O0 : Nat → Prop} {n : Nat} {M : Mp} {s : PS} {a : Act} {w w' : World} (h : Rel w0 O0 n M s a w) (hos : w'.os = w.os) (ht : w'.tape = w.tape) (ho : w'.output = w.output) (hs : w.heap.size ≤ w'.heap.size) (hb : ∀ k, k < w.heap.size → w'.heap[k]? = w.heap[k]?) :
    Rel w0 O0 n M s a w' := by
  have hA : ∀ f b, b < w.heap.size → Ow (Fs w0 O0) M f b → Ow (Fs w0 O0) M f b ∧ b < w'.heap.size ∧ w'.heap[b]? = w.heap[b]? := fun f b h1 h2 => ⟨h2, by omega, hb b h1⟩
  have mono : ∀ {d v}, VR M (Ow (Fs w0 O0) M) w d v → VR M (Ow (Fs w0 O0) M) w' d v := fun hv => hv.mono hA (fun _ _ h => h) (fun _ _ h => h)
  refine ⟨h.fr.step hos ht ho hs fun k h1 _ => hb k (Nat.lt_of_lt_of_le h1 h.fr.size), h.dfr, h.sz, fun t => mono (h.tmp t), fun b cs hx => ?_, h.boxn, fun r e q hx => ?_, h.rown, h.low, h.inj1, h.inj2, h.inj3⟩
  · obtain ⟨k, cur, e, g1, g2, g3, g4⟩ := h.box b cs hx
    exact ⟨k, cur, e, g1, (hb k (Array.getElem?_eq_some_iff.1 g2).1).trans g2, g3, fun j d hd => mono (g4 j d hd)⟩
  · rcases h.row r e q hx with ⟨g1, g2⟩ | ⟨g, cap, cur, g1, g2, g3, g4, g5, g6⟩
    · exact .inl ⟨g1, g2⟩
    · exact .inr ⟨g, cap, cur, g1, (hb g (Array.getElem?_eq_some_iff.1 g2).1).trans g2, g3, g4, g5, fun i j d hi hd => mono (g6 i j d hi hd)⟩
/-- a call that yields no row -/
theorem sCall0 {f : FuncId} {args : Array Operand} {ts : Array TypeId} {ds : List D} {d : D} (hop : o.op = .call { callee := .value (.func f), args := args, argTypes := ts }) (hp : PCall C.P f ds [] d) (hds : dstOk C.n o.dst = true)
    (hfit : fits s args.toList ds) (hno : (ds.all noIds) = true) (hm : noIds d = true) (hd : ren id (fun j => 0 + j) d = d) (h : K (s.put o.dst d)) : Step C o s K := ⟨fun M a w Q K' hr hk => by
  have hrun : (execOp a.eval o).run C.P w = .ok (.enter f (args.map a.eval)) w := by
    have := hp.enter (args.map a.eval) w
    unfold execOp
    rw [hop]
    show ((do let d ← resolve a.eval _ o.type; invoke d.target d.args : Sem Next)).run C.P w = _
    simp only [resolve]
    show ((callFunc f ((#[] ++ args.map a.eval) ++ #[])) : Sem Next).run C.P w = _
    rw [show (#[] ++ args.map a.eval) ++ #[] = args.map a.eval by simp]
    exact this
  unfold Oper.wp
  rw [hrun]
  refine (hp.run w _ (fits_args hr hfit hno)).mono ?_
  rintro e w' ⟨v, rfl, hB⟩
  obtain ⟨N, hN, hv⟩ := hB 0
  rw [hd] at hv
  refine hk M _ _ _ h ((hr.later hN.os hN.tape hN.output hN.size hN.block).put hds ?_)
  refine VR.new (b := fun _ => true) (r := fun _ => true) (fun f b hb hA => ⟨⟨fun ho => ?_, fun _ => .inl (Nat.le_trans hr.fr.size hA.1)⟩, hb, rfl⟩) (fun x y hx => by simp at hx) (fun x y hx => by simp at hx) (by simpa [noIds] using hm) hv
  have := hr.lt b ho; have := hA.1; omega⟩
theorem qCall {f : FuncId} {args : Array Operand} {ts : Array TypeId} {ds : List D} {d : D} (hp : PCall C.P f ds [] d) (hop : o.op = .call { callee := .value (.func f), args := args, argTypes := ts }) (hw : Wanted C ops o s) (hn : dstOk C.n o.dst = true)
    (hno : (ds.all noIds) = true) (hm : noIds d = true) (hd : ren id (fun j => 0 + j) d = d) (hfit : fits s args.toList ds) : QV C ops o s d :=
  qStep hw fun s1 hag => by
    refine sCall0 hop hp hn ?_ hno hm hd rfl
    rw [fits_congr hag.r _ _ (fun x hx => hag.ev x (by rw [hop]; simp only [Op.operands, Call.operands]; exact Array.mem_append.2 (.inr (by simpa using hx))))]
    exact hfit

/-! ### the moves of a chain, states written out -/
theorem cNil (h : K s) : QC C ops K [] s := h
theorem wNone (hg : o.guard = none) : Wanted C ops o s := .inl hg
theorem wSome {j t : Nat} {want b : Bool} (hg : o.guard = some (j, want)) (hd : gdst ops j = some t) (ht : Nat.blt t C.n = true) (hs : s.t t = .bool b) (hb : b = want) : Wanted C ops o s := .inr ⟨j, want, t, b, hg, hd, ht, hs, hb⟩
theorem cVal (hT : TTOK C.P TT) (hi : isV o.op = true) (hw : Wanted C ops o ⟨tm, rw', bx⟩) {t : Nat} (hd : o.dst = some t) (hn : Nat.blt t C.n = true) {ob : Prop} {d : D} (hv : evalF TT ⟨tm, rw', bx⟩ o.op = some (ob, d)) (hob : ob) (h : QC C ops K rest ⟨(t, d) :: tm, rw', bx⟩) : QC C ops K (o :: rest) ⟨tm, rw', bx⟩ :=
  ⟨d, qVal hT hw hv (by rw [hd]; exact hn) hob, by rw [hd]; exact h⟩
theorem cNo {j y : Nat} {want b : Bool} (hg : o.guard = some (j, want)) (hgd : gdst ops j = some y) (hy : Nat.blt y C.n = true) (hs : (PS.t ⟨tm, rw', bx⟩ y) = .bool b) (hb : b = !want) {t : Nat} (hd : o.dst = some t) (hn : Nat.blt t C.n = true)
    (h : QC C ops K rest ⟨(t, .tup []) :: tm, rw', bx⟩) : QC C ops K (o :: rest) ⟨tm, rw', bx⟩ :=
  ⟨.tup [], qNo hg hgd hy hs hb (by rw [hd]; exact hn), by rw [hd]; exact h⟩
theorem cNoU {j y : Nat} {want : Bool} (hg : o.guard = some (j, want)) (hgd : gdst ops j = some y) (hs : (PS.t ⟨tm, rw', bx⟩ y) = .tup []) {t : Nat} (hd : o.dst = some t) (hn : Nat.blt t C.n = true)
    (h : QC C ops K rest ⟨(t, .tup []) :: tm, rw', bx⟩) : QC C ops K (o :: rest) ⟨tm, rw', bx⟩ :=
  ⟨.tup [], qNoU hg hgd hs (by rw [hd]; exact hn), by rw [hd]; exact h⟩
theorem cPickT {c x y : Operand} {b : Bool} (hop : o.op = .pick c x y) (hw : Wanted C ops o ⟨tm, rw', bx⟩) (hc : (PS.ev ⟨tm, rw', bx⟩ c) = .bool b) {t : Nat} (hd : o.dst = some t) (hn : Nat.blt t C.n = true) {d : D} (hb : b = true) (hx : (fcD (PS.ev ⟨tm, rw', bx⟩ x) some) = some d)
    (h : QC C ops K rest ⟨(t, d) :: tm, rw', bx⟩) : QC C ops K (o :: rest) ⟨tm, rw', bx⟩ := by
  rw [fcD_eq] at hx
  cases hx
  exact ⟨_, qPick hop hw hc (by rw [hd]; exact hn) (.inl ⟨hb, rfl⟩), by rw [hd]; exact h⟩
theorem cPickF {c x y : Operand} {b : Bool} (hop : o.op = .pick c x y) (hw : Wanted C ops o ⟨tm, rw', bx⟩) (hc : (PS.ev ⟨tm, rw', bx⟩ c) = .bool b) {t : Nat} (hd : o.dst = some t) (hn : Nat.blt t C.n = true) {d : D} (hb : b = false) (hx : (fcD (PS.ev ⟨tm, rw', bx⟩ y) some) = some d)
    (h : QC C ops K rest ⟨(t, d) :: tm, rw', bx⟩) : QC C ops K (o :: rest) ⟨tm, rw', bx⟩ := by
  rw [fcD_eq] at hx
  cases hx
  exact ⟨_, qPick hop hw hc (by rw [hd]; exact hn) (.inr ⟨hb, rfl⟩), by rw [hd]; exact h⟩
theorem cCall {f : FuncId} {args : Array Operand} {ts : Array TypeId} {ds : List D} {d d' : D} (hp : PCall C.P f ds [] d) (hop : o.op = .call { callee := .value (.func f), args := args, argTypes := ts }) (hw : Wanted C ops o ⟨tm, rw', bx⟩) {b : Nat} (hd : o.dst = some b) (hn : Nat.blt b C.n = true)
    (hno : (ds.all noIds) = true) (hm : noIds d = true) (hre : ren id (fun j => 0 + j) d = d) (hx : (fcD d some) = some d') (hfit : fits ⟨tm, rw', bx⟩ args.toList ds) (h : QC C ops K rest ⟨(b, d') :: tm, rw', bx⟩) : QC C ops K (o :: rest) ⟨tm, rw', bx⟩ := by
  rw [fcD_eq] at hx
  cases hx
  exact ⟨d, qCall hp hop hw (by rw [hd]; exact hn) hno hm hre hfit, by rw [hd]; exact h⟩
end
end Go.Proofs.Ytlmlfbjcpajinaa

/-! ## Plain -/
namespace Go.Proofs.Ytlmlfbjcpajinaa
open Go.RowKit
set_option linter.unusedSimpArgs false
set_option linter.unusedVariables false

theorem ret_bool {a b : Bool} (h : a = b) : Ending.returned (.bool a) = .returned (.bool b) := by rw [h]
theorem ret_int {a b : Int} (h : a = b) : Ending.returned (.int .i64 a) = .returned (.int .i64 b) := by rw [h]

/-- A slice value that reads as a list of ints. -/
def IntsAt (w : World) (v : Value) (l : List Int) : Prop :=
  l.length ≤ maxLen ∧ ∃ ao cap, v = .slice ao l.length cap ∧ (0 < l.length → ∃ b off, ao = some ⟨b, off, none⟩ ∧ b < w.heap.size ∧
    ∀ i (h : i < l.length), w.cell? ⟨b, off + i, none⟩ = some (.int .i64 l[i]))

theorem IntsAt.below {w w' : World} {v : Value} {l : List Int} (h : IntsAt w v l) (hb : Below w.heap.size w w') : IntsAt w' v l := by
  obtain ⟨hl, ao, cap, rfl, h⟩ := h
  refine ⟨hl, ao, cap, rfl, fun h0 => ?_⟩
  obtain ⟨b, off, rfl, hlt, hc⟩ := h h0
  exact ⟨b, off, rfl, Nat.lt_of_lt_of_le hlt hb.size, fun i hi => by rw [hb.cell (p := ⟨b, off + i, none⟩) hlt]; exact hc i hi⟩

/-- A slice value that reads as a list of pairs of ints. -/
def PairsAt (w : World) (v : Value) (l : List (Int × Int)) : Prop :=
  l.length ≤ maxLen ∧ ∃ ao cap, v = .slice ao l.length cap ∧ (0 < l.length → ∃ b off, ao = some ⟨b, off, none⟩ ∧ b < w.heap.size ∧
    ∀ i (h : i < l.length), w.cell? ⟨b, off + i * 2, none⟩ = some (.int .i64 l[i].1) ∧ w.cell? ⟨b, off + i * 2 + 1, none⟩ = some (.int .i64 l[i].2))

theorem PairsAt.below {w w' : World} {v : Value} {l : List (Int × Int)} (h : PairsAt w v l) (hb : Below w.heap.size w w') : PairsAt w' v l := by
  obtain ⟨hl, ao, cap, rfl, h⟩ := h
  refine ⟨hl, ao, cap, rfl, fun h0 => ?_⟩
  obtain ⟨b, off, rfl, hlt, hc⟩ := h h0
  exact ⟨b, off, rfl, Nat.lt_of_lt_of_le hlt hb.size, fun i hi => by rw [hb.cell (p := ⟨b, off + i * 2, none⟩) hlt, hb.cell (p := ⟨b, off + i * 2 + 1, none⟩) hlt]; exact hc i hi⟩

def pcells (l : List (Int × Int)) : List Value := l.flatMap fun p => [.int .i64 p.1, .int .i64 p.2]
theorem pcells_length (l : List (Int × Int)) : (pcells l).length = l.length * 2 := by
  induction l with
  | nil => rfl
  | cons a l ih => simp [pcells] at ih ⊢; omega

theorem pcells_get1 (l : List (Int × Int)) (k : Nat) (h : k < l.length) : (pcells l)[k * 2]? = some (.int .i64 l[k].1) := by
  induction l generalizing k with
  | nil => simp at h
  | cons a l ih =>
    cases k with
    | zero => simp [pcells]
    | succ k => simp only [pcells, List.flatMap_cons, List.cons_append, List.nil_append, show (k + 1) * 2 = k * 2 + 1 + 1 from by omega, List.getElem?_cons_succ, List.getElem_cons_succ]; exact ih k (by simpa using h)
theorem pcells_get2 (l : List (Int × Int)) (k : Nat) (h : k < l.length) : (pcells l)[k * 2 + 1]? = some (.int .i64 l[k].2) := by
  induction l generalizing k with
  | nil => simp at h
  | cons a l ih =>
    cases k with
    | zero => simp [pcells]
    | succ k => simp only [pcells, List.flatMap_cons, List.cons_append, List.nil_append, show (k + 1) * 2 + 1 = k * 2 + 1 + 1 + 1 from by omega, List.getElem?_cons_succ, List.getElem_cons_succ]; exact ih k (by simpa using h)
theorem pcells_set (l : List (Int × Int)) (k : Nat) (p : Int × Int) : pcells (l.set k p) = ((pcells l).set (k * 2) (.int .i64 p.1)).set (k * 2 + 1) (.int .i64 p.2) := by
  induction l generalizing k with
  | nil => simp [pcells]
  | cons a l ih =>
    cases k with
    | zero => simp [pcells]
    | succ k =>
      have := ih k
      simp only [pcells] at this
      simp only [pcells, List.set_cons_succ, List.flatMap_cons, List.cons_append, List.nil_append, this, show (k + 1) * 2 + 1 = k * 2 + 1 + 1 + 1 from by omega, show (k + 1) * 2 = k * 2 + 1 + 1 from by omega]
theorem pcells_replicate (n : Nat) (a : Int) : pcells (List.replicate n (a, a)) = List.replicate (n * 2) (.int .i64 a) := by
  induction n with
  | zero => rfl
  | succ n ih => simp only [pcells] at ih; simp [List.replicate_succ, pcells, ih, Nat.add_mul]
/-- what a loop that fills a made slice holds after k rounds -/
def fillTo {α : Type} (l : List α) (z : α) (k : Nat) : List α := l.take k ++ List.replicate (l.length - k) z
theorem fillTo_length {α : Type} (l : List α) (z : α) (k : Nat) (h : k ≤ l.length) : (fillTo l z k).length = l.length := by simp [fillTo]; omega
theorem fillTo_zero {α : Type} (l : List α) (z : α) : fillTo l z 0 = List.replicate l.length z := by simp [fillTo]
theorem fillTo_full {α : Type} (l : List α) (z : α) : fillTo l z l.length = l := by simp [fillTo]
theorem fillTo_set {α : Type} (l : List α) (z : α) (k : Nat) (h : k < l.length) : (fillTo l z k).set k l[k] = fillTo l z (k + 1) := by
  unfold fillTo
  rw [List.set_append_right _ _ (by simp; omega)]
  have h1 : k - (List.take k l).length = 0 := by simp; omega
  rw [h1, show l.length - k = (l.length - (k + 1)) + 1 from by omega, List.replicate_succ, List.set_cons_zero, List.take_succ_eq_append_getElem h, List.append_assoc]
  rfl

/-- Facts in the walk's own form: what is below reads as it did. -/
theorem bcell {B : Nat} {W w1 : World} (hb : Below B W w1) : (∀ b o, b < B → w1.cell? ⟨b, o, none⟩ = W.cell? ⟨b, o, none⟩) ∧ (∀ b o, b < B → w1.frozen? ⟨b, o, none⟩ = W.frozen? ⟨b, o, none⟩) :=
  ⟨fun b o h => hb.cell (p := ⟨b, o, none⟩) h, fun b o h => hb.frozen (p := ⟨b, o, none⟩) h⟩
theorem own_below {B : Nat} {e : TypeId} {k : Nat} {v : Value} {n : Nat} {xs : List Value} {w w' : World} (h : w.ownsRow B e k v n xs) (hb : Below w.heap.size w w') : w'.ownsRow B e k v n xs := by
  refine ⟨h.1, ?_⟩
  rcases h.2 with hn | ⟨g, cap, cur, rfl, hbg, hg, rest⟩
  · exact .inl hn
  · exact .inr ⟨g, cap, cur, rfl, hbg, (hb.block g (Array.getElem?_eq_some_iff.1 hg).1).trans hg, rest⟩

theorem cell_alloc_new (w : World) (cs : Array Value) (t : TypeId) (j : Nat) : (w.alloc (.cells cs t)).cell? ⟨w.heap.size, j, none⟩ = cs[j]? :=
  cell_of_row _ _ j cs t (0, 0) (heap_alloc_new w _)

/-- A literal list of ints in a new block. -/
theorem IntsAt_lit (w : World) (t : TypeId) (l : List Int) (h : l.length ≤ maxLen) :
    IntsAt (w.alloc (.cells (l.map (Value.int .i64)).toArray t)) (.slice (some ⟨w.heap.size, 0, none⟩) l.length l.length) l :=
  ⟨h, _, _, rfl, fun _ => ⟨_, _, rfl, by simp, fun i hi => by rw [cell_alloc_new]; simp [hi]⟩⟩
theorem mul_bd (a b m n : Int) (ha : 0 ≤ a) (ha' : a ≤ m) (hb : 0 ≤ b) (hb' : b ≤ n) : 0 ≤ a * b ∧ a * b ≤ m * n :=
  ⟨Int.mul_nonneg ha hb, Int.mul_le_mul ha' hb' hb (Int.le_trans ha ha')⟩
theorem keepw {w w' : World} {a : Addr} {v : Value} (hb : Below w.heap.size w w') (hc : w.cell? a = some v) : w'.cell? a = some v :=
  (hb.cell (World.block_lt_of_cell? w a hc)).trans hc
/-- What a region that only makes memory keeps: the walk's form of 'Below'. -/
abbrev Grow (w w' : World) : Prop := (∀ b o, b < w.heap.size → w'.cell? ⟨b, o, none⟩ = w.cell? ⟨b, o, none⟩) ∧ Below w.heap.size w w'
theorem grow_drew (w : World) : Grow w w.drew := ⟨fun _ _ _ => rfl, (Below.refl _ _).drew⟩
theorem grow_trans {w w1 w2 : World} (h : Grow w w1) (hb : Below w1.heap.size w1 w2) : Grow w w2 :=
  have h2 : Below w.heap.size w w2 := h.2.trans (hb.mono h.2.size)
  ⟨(bcell h2).1, h2⟩
theorem bt {w w1 w2 : World} (h : Below w.heap.size w w1) (hb : Below w1.heap.size w1 w2) : Below w.heap.size w w2 := h.trans (hb.mono h.size)

/-- A slice of slices, read: the inner ones by R. -/
def SlicesAt {α : Type} (R : World → Value → α → Prop) (w : World) (v : Value) (l : List α) : Prop :=
  l.length ≤ maxLen ∧ ∃ ao cap, v = .slice ao l.length cap ∧ (0 < l.length → ∃ b off, ao = some ⟨b, off, none⟩ ∧ b < w.heap.size ∧
    ∀ i (h : i < l.length), ∃ u, w.cell? ⟨b, off + i, none⟩ = some u ∧ R w u l[i])
theorem SlicesAt.below' {α : Type} {R : World → Value → α → Prop} (hR : ∀ {w w' : World} {v : Value} {x : α}, R w v x → Below w.heap.size w w' → R w' v x) {w w' : World} {v : Value} {l : List α} (h : SlicesAt R w v l) (hb : Below w.heap.size w w') : SlicesAt R w' v l := by
  obtain ⟨hl, ao, cap, rfl, h⟩ := h
  refine ⟨hl, ao, cap, rfl, fun h0 => ?_⟩
  obtain ⟨b, off, rfl, hlt, hc⟩ := h h0
  refine ⟨b, off, rfl, Nat.lt_of_lt_of_le hlt hb.size, fun i hi => ?_⟩
  obtain ⟨u, hu, hr⟩ := hc i hi
  exact ⟨u, keepw hb hu, hR hr hb⟩
def PairssAt (w : World) (v : Value) (l : List (List (Int × Int))) : Prop := SlicesAt PairsAt w v l
theorem PairssAt.below {w w' : World} {v : Value} {l : List (List (Int × Int))} (h : PairssAt w v l) (hb : Below w.heap.size w w') : PairssAt w' v l := SlicesAt.below' (fun h hb => h.below hb) h hb
def IntssAt (w : World) (v : Value) (l : List (List Int)) : Prop := SlicesAt IntsAt w v l
theorem IntssAt.below {w w' : World} {v : Value} {l : List (List Int)} (h : IntssAt w v l) (hb : Below w.heap.size w w') : IntssAt w' v l := SlicesAt.below' (fun h hb => h.below hb) h hb
theorem icells_get (l : List Int) (k : Nat) (h : k < l.length) : (l.map (Value.int .i64))[k]? = some (.int .i64 l[k]) := by simp [h]
theorem IntsAt_own {w : World} {B : Nat} {e : TypeId} {v : Value} {l : List Int} (h : w.ownsRow B e 1 v l.length (l.map (Value.int .i64))) (hn : l.length ≤ maxLen) : IntsAt w v l := by
  rcases h.2 with ⟨rfl, h0⟩ | ⟨g, cap, cur, rfl, hbg, hg, hrest⟩
  · exact ⟨hn, none, 0, by rw [h0], fun h => by omega⟩
  · have hgs := (Array.getElem?_eq_some_iff.1 hg).1
    exact ⟨hn, _, cap, rfl, fun _ => ⟨g, 0, rfl, hgs, fun i hi => by rw [Nat.zero_add, h.cellAt i (by omega), icells_get l i hi]⟩⟩
theorem PairsAt_own {w : World} {B : Nat} {e : TypeId} {v : Value} {l : List (Int × Int)} (h : w.ownsRow B e 2 v l.length (pcells l)) (hn : l.length ≤ maxLen) : PairsAt w v l := by
  rcases h.2 with ⟨rfl, h0⟩ | ⟨g, cap, cur, rfl, hbg, hg, hrest⟩
  · exact ⟨hn, none, 0, by rw [h0], fun h => by omega⟩
  · have hgs := (Array.getElem?_eq_some_iff.1 hg).1
    exact ⟨hn, _, cap, rfl, fun _ => ⟨g, 0, rfl, hgs, fun i hi => ⟨by
      rw [Nat.zero_add, h.cellAt (i * 2) (by omega), pcells_get1 l i hi], by
      rw [Nat.zero_add, h.cellAt (i * 2 + 1) (by omega), pcells_get2 l i hi]⟩⟩⟩

/-! ### owned rows, stores, marks -/
theorem own_mono {w : World} {base base' : Nat} {e : TypeId} {size : Nat} {v : Value} {n : Nat} {xs : List Value} (h : w.ownsRow base e size v n xs) (hb : base' ≤ base) : w.ownsRow base' e size v n xs := by
  refine ⟨h.1, ?_⟩
  rcases h.2 with h2 | ⟨g, cap, cur, hv, hg, r⟩
  · exact Or.inl h2
  · exact Or.inr ⟨g, cap, cur, hv, Nat.le_trans hb hg, r⟩
theorem own_setLow {w : World} {base : Nat} {e : TypeId} {size : Nat} {v : Value} {n : Nat} {xs : List Value} (h : w.ownsRow base e size v n xs) {a : Addr} (ha : a.block < base) (u : Value) : (w.setCell a u).ownsRow base e size v n xs := by
  obtain ⟨h1, h2⟩ := h
  refine ⟨h1, ?_⟩
  rcases h2 with h2 | ⟨g, cap, cur, hv, hg, hh, r⟩
  · exact Or.inl h2
  · exact Or.inr ⟨g, cap, cur, hv, hg, by rw [Below.heap_setCell _ _ _ _ (by omega)]; exact hh, r⟩
theorem grownBy_refl (w : World) (row : Option Nat) : w.grownBy w row := ⟨rfl, rfl, rfl, Nat.le_refl _, fun _ _ _ => rfl⟩
theorem grownBy_trans {w w1 w2 : World} {row : Option Nat} (h : w.grownBy w1 row) (h2 : w1.grownBy w2 row) : w.grownBy w2 row :=
  ⟨h2.os.trans h.os, h2.tape.trans h.tape, h2.output.trans h.output, Nat.le_trans h.size h2.size, fun k hk hr => (h2.block k (Nat.lt_of_lt_of_le hk h.size) hr).trans (h.block k hk hr)⟩
/-- The value of an owned row has a slice's form. -/
theorem own_form {w : World} {base size n : Nat} {e : TypeId} {v : Value} {xs : List Value} (h : w.ownsRow base e size v n xs) : (v = .slice none 0 0 ∧ n = 0) ∨ ∃ g cap, v = .slice (some ⟨g, 0, none⟩) n cap ∧ base ≤ g ∧ g < w.heap.size := by
  rcases h.2 with h2 | ⟨g, cap, cur, hv, hg, hh, _⟩
  · exact .inl h2
  · exact .inr ⟨g, cap, hv, hg, (Array.getElem?_eq_some_iff.1 hh).1⟩
/-- The numbers from k on. -/
def numsFrom (k : Int) (n : Nat) : List Int := (List.range n).map fun i => k + (i : Nat)
theorem numsFrom_length (k : Int) (n : Nat) : (numsFrom k n).length = n := by simp [numsFrom]
theorem numsFrom_succ (k : Int) (n : Nat) : numsFrom k (n + 1) = numsFrom k n ++ [k + n] := by simp [numsFrom, List.range_succ]
theorem numsFrom_get (k : Int) (n i : Nat) (h : i < (numsFrom k n).length) : (numsFrom k n)[i] = k + i := by simp [numsFrom]
def markTo {α : Type} (f : Nat → List α) (l : List α) (j : Nat) : List α := f j ++ l.drop j
theorem markTo_set {α : Type} (f : Nat → List α) (hl : ∀ n, (f n).length = n) (l : List α) (j : Nat) (x : α) (hs : f (j + 1) = f j ++ [x]) (h : j < l.length) : (markTo f l j).set j x = markTo f l (j + 1) := by
  unfold markTo
  rw [List.set_append_right _ _ (by rw [hl]; exact Nat.le_refl _), hl, Nat.sub_self, List.drop_eq_getElem_cons h, List.set_cons_zero, hs, List.append_assoc]
  rfl
theorem markTo_length {α : Type} (f : Nat → List α) (hl : ∀ n, (f n).length = n) (l : List α) (j : Nat) (h : j ≤ l.length) : (markTo f l j).length = l.length := by
  simp [markTo, hl]; omega
/-- Pairs of consecutive numbers. -/
def pairsFrom (k : Int) (n : Nat) : List (Int × Int) := (List.range n).map fun i => (k + 2 * (i : Nat), k + 2 * (i : Nat) + 1)
theorem pairsFrom_length (k : Int) (n : Nat) : (pairsFrom k n).length = n := by simp [pairsFrom]
theorem pairsFrom_succ (k : Int) (n : Nat) : pairsFrom k (n + 1) = pairsFrom k n ++ [(k + 2 * n, k + 2 * n + 1)] := by simp [pairsFrom, List.range_succ]
theorem pairsFrom_get (k : Int) (n i : Nat) (h : i < (pairsFrom k n).length) : (pairsFrom k n)[i] = (k + 2 * i, k + 2 * i + 1) := by simp [pairsFrom]
theorem toList_madeCells_one' (z : Value) (n : Nat) : (madeCells #[z] n).toList = List.replicate n z := toList_madeCells_one z n
theorem toList_madeCells_two (z : Value) (n : Nat) : (madeCells #[z, z] n).toList = List.replicate n z := by
  apply List.ext_getElem?
  intro j
  by_cases hj : j < n
  · rcases Nat.mod_two_eq_zero_or_one j with h | h <;> simp [madeCells, hj, h]
  · simp [madeCells, hj]
/-- Pairs of numbers are equal (hidden from the walk). -/
def peqB (x y u v : Int) : Bool := x == u && y == v
theorem peqB_true {x y u v : Int} (h : peqB x y u v = true) : (x, y) = (u, v) := by simpa [peqB] using h
theorem peqB_false {x y u v : Int} (h : peqB x y u v = false) : (x, y) ≠ (u, v) := by
  intro h'; simp at h'; simp [peqB, h'.1, h'.2] at h
theorem peqB_eq (p q : Int × Int) : peqB p.1 p.2 q.1 q.2 = (p == q) := by
  cases h : peqB p.1 p.2 q.1 q.2
  · symm; rw [beq_eq_false_iff_ne]; exact peqB_false h
  · symm; rw [beq_iff_eq]; exact peqB_true h
theorem len_ne_false {m n : Nat} (h : m = n) : ((m : Int) != (n : Int)) = false := by subst h; simp
theorem len_ne_true {m n : Nat} (h : m ≠ n) : ((m : Int) != (n : Int)) = true := by simp; omega
theorem len_eq_false {m n : Nat} (h : m ≠ n) : ((m : Int) == (n : Int)) = false := by simp; omega
theorem len_eq_true {m n : Nat} (h : m = n) : ((m : Int) == (n : Int)) = true := by subst h; simp
theorem beq_false_of {α : Type} [BEq α] [LawfulBEq α] {a b : α} (h : a ≠ b) : (a == b) = false := by rw [beq_eq_false_iff_ne]; exact h
/-- Two lists that agree up to k agree up to k + 1. -/
theorem take_eq_succ {α : Type} {l1 l2 : List α} {k : Nat} (h1 : k < l1.length) (h2 : k < l2.length) (h : l1.take k = l2.take k) (he : l1[k] = l2[k]) : l1.take (k + 1) = l2.take (k + 1) := by
  rw [List.take_succ_eq_append_getElem h1, List.take_succ_eq_append_getElem h2, h, he]
theorem eq_of_take {α : Type} {l1 l2 : List α} {k : Nat} (h1 : k = l1.length) (hl : l1.length = l2.length) (h : l1.take k = l2.take k) : l1 = l2 := by
  rw [h1, List.take_length, hl, List.take_length] at h; exact h
theorem ne_of_get {α : Type} {l1 l2 : List α} {k : Nat} (h1 : k < l1.length) (h2 : k < l2.length) (he : l1[k] ≠ l2[k]) : l1 ≠ l2 := by
  intro h; subst h; exact he rfl
theorem below_dN {B : Nat} {a w : World} (h : Below B a w) (n : Nat) : Below B a (w.drewN n) := ⟨h.os, h.tape, h.output, h.size, h.block⟩

end Go.Proofs.Ytlmlfbjcpajinaa

/-! ## Heap -/
namespace Go.Proofs.Ytlmlfbjcpajinaa
open Go.RowKit
set_option linter.unusedSimpArgs false
set_option linter.unusedVariables false
/-! ### blocks known whole -/
theorem blk_below {w w' : World} {g : Nat} {o : Obj} (h : w.heap[g]? = some o) (hb : Below w.heap.size w w') : w'.heap[g]? = some o :=
  (hb.block g (Array.getElem?_eq_some_iff.1 h).1).trans h
theorem blk_grown {w w' : World} {g : Nat} {o : Obj} {row : Option Nat} (h : w.heap[g]? = some o) (hb : w.grownBy w' row) (hne : row ≠ some g) : w'.heap[g]? = some o :=
  (hb.block g (Array.getElem?_eq_some_iff.1 h).1 (fun e => hne e.symm)).trans h
theorem own_ne {w : World} {base size n g : Nat} {e t : TypeId} {v : Value} {xs : List Value} {c : Array Value} {fr : Nat × Nat} (h : w.ownsRow base e size v n xs) (hg : w.heap[g]? = some (.cells c t fr)) (ht : t ≠ e) : v.ownBlock ≠ some g := by
  rcases h.2 with ⟨rfl, _⟩ | ⟨g', cap, cur, rfl, hb, hh, _⟩
  · intro h; cases h
  · intro h
    simp [Value.ownBlock] at h
    subst h
    rw [hh] at hg
    simp at hg
    exact ht hg.2.1.symm
theorem own_ne_lt {w : World} {base size n g : Nat} {e : TypeId} {v : Value} {xs : List Value} (h : w.ownsRow base e size v n xs) (hg : g < base) : v.ownBlock ≠ some g := by
  intro h2; have := (h.lt g h2).1; omega
theorem blk_cell {w : World} {g : Nat} {c : Array Value} {t : TypeId} {fr : Nat × Nat} (h : w.heap[g]? = some (.cells c t fr)) (j : Nat) : w.cell? ⟨g, j, none⟩ = c[j]? := cell_of_row w g j c t fr h
theorem blk_new (w : World) (o : Obj) : (w.alloc o).heap[w.heap.size]? = some o := heap_alloc_new w o
theorem blk_alloc {w : World} {g : Nat} {o : Obj} (h : w.heap[g]? = some o) (o' : Obj) : (w.alloc o').heap[g]? = some o := (Below.heap_alloc w o' g (Array.getElem?_eq_some_iff.1 h).1).trans h
theorem blk_lt {w : World} {g : Nat} {o : Obj} (h : w.heap[g]? = some o) : g < w.heap.size := (Array.getElem?_eq_some_iff.1 h).1
theorem ba (w : World) (o : Obj) : Below w.heap.size w (w.alloc o) := (Below.refl _ _).alloc (Nat.le_refl _) _
/-- Rows that were made one behind the other lie apart. -/
theorem own_sep {w w' : World} {B C : Nat} {e e' : TypeId} {s s' n n' : Nat} {v1 v2 : Value} {xs ys : List Value} (h1 : w.ownsRow B e s v1 n xs) (h2 : w'.ownsRow C e' s' v2 n' ys) (hC : w.heap.size ≤ C) : v1.ownBlock = none ∨ v1.ownBlock ≠ v2.ownBlock := by
  cases hv : v1.ownBlock with
  | none => exact .inl rfl
  | some k =>
    refine .inr fun h => ?_
    have a := (h1.lt k hv).2
    have b := (h2.lt k h.symm).1
    omega
theorem sep_symm {v1 v2 : Value} (h : v1.ownBlock = none ∨ v1.ownBlock ≠ v2.ownBlock) : v2.ownBlock = none ∨ v2.ownBlock ≠ v1.ownBlock := by
  cases hv : v2.ownBlock with
  | none => exact .inl rfl
  | some k =>
    right
    rcases h with h | h
    · rw [h]; simp
    · rw [hv] at h; exact fun e => h e.symm
theorem below_row {w0 W w' : World} {v : Value} {base : Nat} {e : TypeId} {size n : Nat} {xs : List Value} (h : Below w0.heap.size w0 W) (hown : W.ownsRow base e size v n xs) (hb : w0.heap.size ≤ base) (hg : W.grownBy w' v.ownBlock) : Below w0.heap.size w0 w' :=
  h.grown hg h.size (fun k hk => Nat.le_trans hb (hown.lt k hk).1)
/-- The cells of a block that was laid first. -/
theorem box_cell {w wr : World} {cs : Array Value} {t : TypeId} (h : Below (w.heap.size + 1) (w.alloc (.cells cs t)) wr) (j : Nat) : wr.cell? ⟨w.heap.size, j, none⟩ = cs[j]? :=
  (h.cell (p := ⟨w.heap.size, j, none⟩) (Nat.lt_succ_self _)).trans (cell_alloc_new w cs t j)
theorem box_below {w wr : World} {o : Obj} (h : Below (w.heap.size + 1) (w.alloc o) wr) : Below w.heap.size w wr := (ba w o).trans (h.mono (Nat.le_succ _))
theorem box_lt {w wr : World} {o : Obj} (h : Below (w.heap.size + 1) (w.alloc o) wr) : w.heap.size < wr.heap.size := by have := h.size; simp at this; omega
theorem box_trans {w wr w2 : World} {o : Obj} (h : Below (w.heap.size + 1) (w.alloc o) wr) (h2 : Below wr.heap.size wr w2) : Below (w.heap.size + 1) (w.alloc o) w2 := h.trans (h2.mono (box_lt h))
theorem box_refl (w : World) (o : Obj) : Below (w.heap.size + 1) (w.alloc o) (w.alloc o) := Below.refl _ _
theorem box_alloc {w wr : World} {o : Obj} (h : Below (w.heap.size + 1) (w.alloc o) wr) (o' : Obj) : Below (w.heap.size + 1) (w.alloc o) (wr.alloc o') := h.alloc (box_lt h) o'
end Go.Proofs.Ytlmlfbjcpajinaa

/-! ## GraphP -/
namespace Go.Proofs.Ytlmlfbjcpajinaa
open Go.RowKit
set_option linter.unusedSimpArgs false
set_option linter.unusedVariables false

structure Grf where
  n : Int
  bars : List (Int × Int)
structure Pin where
  g : Grf
  ground : List Int
structure Frm where
  g : Grf
  places : List (Int × Int)
structure Lnk where
  f : Frm
  ground : List Int
structure Rse where
  p : Int
  bars : List Int

def inB (x lo hi : Int) : Bool := decide (lo ≤ x) && decide (x ≤ hi)
theorem inB_true {x lo hi : Int} : inB x lo hi = true ↔ lo ≤ x ∧ x ≤ hi := by simp [inB]
theorem inB_false {x lo hi : Int} (h : inB x lo hi = false) : x < lo ∨ hi < x := by simp [inB] at h; omega

def barOkB (n : Int) (p : Int × Int) : Bool := decide (0 ≤ p.1) && decide (p.1 < p.2) && decide (p.2 < n)
def barLeB (p q : Int × Int) : Bool := decide (p.1 < q.1) || (p.1 == q.1 && decide (p.2 ≤ q.2))
/-- bar i of a list is in its place -/
def barAt (n : Int) (l : List (Int × Int)) (i : Nat) : Bool := barOkB n (l.getD i (0, 0)) && (decide (i = 0) || barLeB (l.getD (i - 1) (0, 0)) (l.getD i (0, 0)))
def isGraph (g : Grf) : Bool := inB g.n 1 8 && decide (g.bars.length ≤ 24) && (List.range g.bars.length).all (barAt g.n g.bars)
theorem isGraph_true {g : Grf} (h1 : inB g.n 1 8 = true) (h2 : g.bars.length ≤ 24) (h : ∀ i, i < g.bars.length → barAt g.n g.bars i = true) : isGraph g = true := by
  simp [isGraph, h1, h2]; exact h
theorem isGraph_size {g : Grf} (h : inB g.n 1 8 = false) : isGraph g = false := by simp [isGraph, h]
theorem isGraph_long {g : Grf} (h : 24 < g.bars.length) : isGraph g = false := by simp [isGraph]; intro _ h2; omega
theorem isGraph_bad {g : Grf} (i : Nat) (hi : i < g.bars.length) (h : barAt g.n g.bars i = false) : isGraph g = false := by
  simp only [isGraph, Bool.and_eq_false_iff, List.all_eq_false]; exact .inr ⟨i, by simpa using hi, by simp [h]⟩
theorem isGraph_parts {g : Grf} (h : isGraph g = true) : (1 ≤ g.n ∧ g.n ≤ 8) ∧ g.bars.length ≤ 24 ∧ ∀ i, i < g.bars.length → barAt g.n g.bars i = true := by
  simp only [isGraph, Bool.and_eq_true, decide_eq_true_eq, List.all_eq_true, List.mem_range] at h
  exact ⟨inB_true.1 h.1.1, h.1.2, h.2⟩
theorem isGraph_bar {g : Grf} (h : isGraph g = true) {p : Int × Int} (hp : p ∈ g.bars) : 0 ≤ p.1 ∧ p.1 < p.2 ∧ p.2 < g.n := by
  obtain ⟨i, hi, rfl⟩ := List.getElem_of_mem hp
  have := (isGraph_parts h).2.2 i hi
  simp [barAt, barOkB, hi] at this
  omega
/-- the order of bars, as the program tells it -/
def cmpI (a b : Int) : Int := if a < b then -1 else if b < a then 1 else 0
def cmpBar (p q : Int × Int) : Int := if cmpI p.1 q.1 = 0 then cmpI p.2 q.2 else cmpI p.1 q.1
theorem cmpBar_pos (p q : Int × Int) : (0 < cmpBar p q) ↔ barLeB p q = false := by
  simp only [cmpBar, cmpI, barLeB]
  constructor
  · intro h
    simp
    split at h <;> split at h <;> (try split at h) <;> (try split at h) <;> omega
  · intro h
    simp at h
    split <;> split <;> (try split) <;> (try split) <;> omega
theorem cmpBar_bd (p q : Int × Int) : -1 ≤ cmpBar p q ∧ cmpBar p q ≤ 1 := by
  simp only [cmpBar, cmpI]; split <;> split <;> (try split) <;> omega
/-- two bars beside each other are the same -/
def doubleAt (l : List (Int × Int)) (i : Nat) : Bool := decide (0 < i) && (l.getD (i - 1) (0, 0) == l.getD i (0, 0))
def hasDbl (l : List (Int × Int)) : Bool := (List.range l.length).any (doubleAt l)
theorem hasDbl_true {l : List (Int × Int)} (i : Nat) (hi : i < l.length) (h : doubleAt l i = true) : hasDbl l = true := by
  simp only [hasDbl, List.any_eq_true]; exact ⟨i, by simpa using hi, h⟩
theorem hasDbl_false {l : List (Int × Int)} (h : ∀ i, i < l.length → doubleAt l i = false) : hasDbl l = false := by
  simp only [hasDbl, List.any_eq_false]; intro x hx; rw [h x (by simpa using hx)]; simp
def isSimple (g : Grf) : Bool := isGraph g && !hasDbl g.bars

def GraphAt (w : World) (v : Value) (g : Grf) : Prop := ∃ u, v = .agg #[.int .i64 g.n, u] ∧ PairsAt w u g.bars
theorem GraphAt.below {w w' : World} {v : Value} {g : Grf} (h : GraphAt w v g) (hb : Below w.heap.size w w') : GraphAt w' v g := by
  obtain ⟨u, rfl, h⟩ := h; exact ⟨u, rfl, h.below hb⟩
def PinnedAt (w : World) (v : Value) (p : Pin) : Prop := ∃ u1 u2, v = .agg #[.int .i64 p.g.n, u1, u2] ∧ PairsAt w u1 p.g.bars ∧ IntsAt w u2 p.ground
theorem PinnedAt.below {w w' : World} {v : Value} {p : Pin} (h : PinnedAt w v p) (hb : Below w.heap.size w w') : PinnedAt w' v p := by
  obtain ⟨u1, u2, rfl, h1, h2⟩ := h; exact ⟨u1, u2, rfl, h1.below hb, h2.below hb⟩
def FrameAt (w : World) (v : Value) (f : Frm) : Prop := ∃ u1 u2, v = .agg #[.int .i64 f.g.n, u1, u2] ∧ PairsAt w u1 f.g.bars ∧ PairsAt w u2 f.places
theorem FrameAt.below {w w' : World} {v : Value} {f : Frm} (h : FrameAt w v f) (hb : Below w.heap.size w w') : FrameAt w' v f := by
  obtain ⟨u1, u2, rfl, h1, h2⟩ := h; exact ⟨u1, u2, rfl, h1.below hb, h2.below hb⟩
def LinkageAt (w : World) (v : Value) (l : Lnk) : Prop := ∃ u1 u2 u3, v = .agg #[.int .i64 l.f.g.n, u1, u2, u3] ∧ PairsAt w u1 l.f.g.bars ∧ PairsAt w u2 l.f.places ∧ IntsAt w u3 l.ground
theorem LinkageAt.below {w w' : World} {v : Value} {l : Lnk} (h : LinkageAt w v l) (hb : Below w.heap.size w w') : LinkageAt w' v l := by
  obtain ⟨u1, u2, u3, rfl, h1, h2, h3⟩ := h; exact ⟨u1, u2, u3, rfl, h1.below hb, h2.below hb, h3.below hb⟩
def RaiseAt (w : World) (v : Value) (r : Rse) : Prop := ∃ u, v = .agg #[.int .i64 r.p, u] ∧ IntsAt w u r.bars
theorem RaiseAt.below {w w' : World} {v : Value} {r : Rse} (h : RaiseAt w v r) (hb : Below w.heap.size w w') : RaiseAt w' v r := by
  obtain ⟨u, rfl, h⟩ := h; exact ⟨u, rfl, h.below hb⟩
/-- A slice of raises, read. -/
def RaisesAt (w : World) (v : Value) (l : List Rse) : Prop :=
  l.length ≤ maxLen ∧ ∃ ao cap, v = .slice ao l.length cap ∧ (0 < l.length → ∃ b off, ao = some ⟨b, off, none⟩ ∧ b < w.heap.size ∧
    ∀ i (h : i < l.length), w.cell? ⟨b, off + i * 2, none⟩ = some (.int .i64 l[i].p) ∧ ∃ u, w.cell? ⟨b, off + i * 2 + 1, none⟩ = some u ∧ IntsAt w u l[i].bars)
theorem RaisesAt.below {w w' : World} {v : Value} {l : List Rse} (h : RaisesAt w v l) (hb : Below w.heap.size w w') : RaisesAt w' v l := by
  obtain ⟨hl, ao, cap, rfl, h⟩ := h
  refine ⟨hl, ao, cap, rfl, fun h0 => ?_⟩
  obtain ⟨b, off, rfl, hlt, hc⟩ := h h0
  refine ⟨b, off, rfl, Nat.lt_of_lt_of_le hlt hb.size, fun i hi => ?_⟩
  obtain ⟨h1, u, h2, h3⟩ := hc i hi
  exact ⟨keepw hb h1, u, keepw hb h2, h3.below hb⟩
end Go.Proofs.Ytlmlfbjcpajinaa

/-! ## Vr -/
namespace Go.Proofs.Ytlmlfbjcpajinaa
open Go.RowKit Go.Deep
set_option linter.unusedSimpArgs false
set_option linter.unusedVariables false

section
variable {M : Mp} {A : Bool → Nat → Prop} {w : World} {f : Bool}
theorem VR.ints {l : List Int} {v : Value} (h : VR M A w (.ro f (.ints l)) v) : IntsAt w v l := by
  cases h with
  | ro _ _ ao cap b o u hn hc hao hu hv =>
    refine ⟨hn, ao, cap, rfl, fun h0 => ?_⟩
    obtain ⟨h1, h2, h3⟩ := hao h0
    refine ⟨b, o, h1, h2, fun i hi => ?_⟩
    have e1 := hu i 0 _ hi rfl
    have e2 := (hv i 0 _ hi rfl).int_inv
    simp only [Sq.sz, Nat.mul_one, Nat.add_zero] at e1
    rw [e1, e2]; simp [hi]
theorem VR.pairs {l : List (Int × Int)} {v : Value} (h : VR M A w (.ro f (.pairs l)) v) : PairsAt w v l := by
  cases h with
  | ro _ _ ao cap b o u hn hc hao hu hv =>
    refine ⟨hn, ao, cap, rfl, fun h0 => ?_⟩
    obtain ⟨h1, h2, h3⟩ := hao h0
    refine ⟨b, o, h1, h2, fun i hi => ⟨?_, ?_⟩⟩
    · have e1 := hu i 0 _ hi rfl
      have e2 := (hv i 0 _ hi rfl).int_inv
      simp only [Sq.sz, Nat.add_zero] at e1
      rw [e1, e2]; simp [hi]
    · have e1 := hu i 1 _ hi rfl
      have e2 := (hv i 1 _ hi rfl).int_inv
      simp only [Sq.sz] at e1
      rw [e1, e2]; simp [hi]
theorem VR.of_ints {l : List Int} {v : Value} (h : IntsAt w v l) (hc' : ∀ ao n c, v = .slice ao n c → n ≤ c) : VR M (fun _ _ => True) w (.ro f (.ints l)) v := by
  obtain ⟨hn, ao, cap, rfl, hc⟩ := h
  by_cases h0 : 0 < l.length
  · obtain ⟨b, o, rfl, h2, h3⟩ := hc h0
    refine .ro f (.ints l) _ cap b o (fun i _ => .int .i64 (l.getD i 0)) hn (hc' _ _ _ rfl) (fun _ => ⟨rfl, h2, trivial⟩) (fun i j d hi hd => ?_) (fun i j d hi hd => ?_)
    · rcases j with _ | j <;> simp [Sq.elem] at hd
      simp only [Sq.sz, Nat.mul_one, Nat.add_zero]
      rw [h3 i hi]; simp [show i < l.length from hi]; rfl
    · rcases j with _ | j <;> simp [Sq.elem] at hd
      subst hd
      have := VR.int (M := M) (A := fun _ _ => True) (w := w) (l.getD i 0)
      simpa using this
  · exact .ro f (.ints l) _ cap 0 0 (fun _ _ => undef) hn (hc' _ _ _ rfl) (fun h => absurd h h0) (fun i j d hi => absurd hi (by simp only [Sq.len]; omega)) (fun i j d hi => absurd hi (by simp only [Sq.len]; omega))
theorem VR.of_pairs {l : List (Int × Int)} {v : Value} (h : PairsAt w v l) (hc' : ∀ ao n c, v = .slice ao n c → n ≤ c) : VR M (fun _ _ => True) w (.ro f (.pairs l)) v := by
  obtain ⟨hn, ao, cap, rfl, hc⟩ := h
  by_cases h0 : 0 < l.length
  · obtain ⟨b, o, rfl, h2, h3⟩ := hc h0
    refine .ro f (.pairs l) _ cap b o (fun i j => .int .i64 (if j = 0 then (l.getD i (0, 0)).1 else (l.getD i (0, 0)).2)) hn (hc' _ _ _ rfl) (fun _ => ⟨rfl, h2, trivial⟩) (fun i j d hi hd => ?_) (fun i j d hi hd => ?_)
    · obtain ⟨g1, g2⟩ := h3 i hi
      rcases j with _ | _ | j <;> simp [Sq.elem] at hd
      · simp only [Sq.sz, Nat.add_zero]; rw [g1]; simp [show i < l.length from hi]; rfl
      · simp only [Sq.sz]; rw [g2]; simp [show i < l.length from hi]; rfl
    · rcases j with _ | _ | j <;> simp [Sq.elem] at hd <;> subst hd
      · simpa using VR.int (M := M) (A := fun _ _ => True) (w := w) (l.getD i (0, 0)).1
      · simpa using VR.int (M := M) (A := fun _ _ => True) (w := w) (l.getD i (0, 0)).2
  · exact .ro f (.pairs l) _ cap 0 0 (fun _ _ => undef) hn (hc' _ _ _ rfl) (fun h => absurd h h0) (fun i j d hi => absurd hi (by simp only [Sq.len]; omega)) (fun i j d hi => absurd hi (by simp only [Sq.len]; omega))
end

section
variable {P : Program} {w : World}
abbrev R0 : Bool → Nat → Prop := fun _ _ => True
theorem own_cap {B : Nat} {e : TypeId} {k : Nat} {v : Value} {n : Nat} {xs : List Value} (h : w.ownsRow B e k v n xs) : ∀ ao n c, v = .slice ao n c → n ≤ c := by
  intro ao m c hv
  rcases h.2 with ⟨rfl, _⟩ | ⟨g, cap, cur, rfl, _, _, h1, _⟩
  · cases hv; omega
  · cases hv; exact h1
theorem VR.own_ints {B : Nat} {e : TypeId} {f : Bool} {v : Value} {l : List Int} (h : w.ownsRow B e 1 v l.length (l.map (Value.int .i64))) (hn : l.length ≤ maxLen) : VR M0 R0 w (.ro f (.ints l)) v := VR.of_ints (IntsAt_own h hn) (own_cap h)
theorem VR.own_pairs {B : Nat} {e : TypeId} {f : Bool} {v : Value} {l : List (Int × Int)} (h : w.ownsRow B e 2 v l.length (pcells l)) (hn : l.length ≤ maxLen) : VR M0 R0 w (.ro f (.pairs l)) v := VR.of_pairs (PairsAt_own h hn) (own_cap h)

theorem arr1 {α : Type} {us : Array α} (h : us.size = 1) : ∃ x, us = #[x] := by obtain ⟨l⟩ := us; match l, h with | [x], _ => exact ⟨x, rfl⟩
theorem arr2 {α : Type} {us : Array α} (h : us.size = 2) : ∃ x y, us = #[x, y] := by obtain ⟨l⟩ := us; match l, h with | [x, y], _ => exact ⟨x, y, rfl⟩
theorem arr3 {α : Type} {us : Array α} (h : us.size = 3) : ∃ x y z, us = #[x, y, z] := by obtain ⟨l⟩ := us; match l, h with | [x, y, z], _ => exact ⟨x, y, z, rfl⟩
theorem arr4 {α : Type} {us : Array α} (h : us.size = 4) : ∃ x y z u, us = #[x, y, z, u] := by obtain ⟨l⟩ := us; match l, h with | [x, y, z, u], _ => exact ⟨x, y, z, u, rfl⟩
/-- data of the structs -/
abbrev gD (g : Grf) : D := .agg [.int g.n, .ro false (.pairs g.bars)]
abbrev pD (p : Pin) : D := .agg [.int p.g.n, .ro false (.pairs p.g.bars), .ro false (.ints p.ground)]
abbrev fD (f : Frm) : D := .agg [.int f.g.n, .ro false (.pairs f.g.bars), .ro false (.pairs f.places)]
abbrev lD (l : Lnk) : D := .agg [.int l.f.g.n, .ro false (.pairs l.f.g.bars), .ro false (.pairs l.f.places), .ro false (.ints l.ground)]
abbrev rD (r : Rse) : D := .agg [.int r.p, .ro false (.ints r.bars)]
theorem agg2 {A : Bool → Nat → Prop} {M : Mp} {a b : D} {v : Value} (h : VR M A w (.agg [a, b]) v) : ∃ x y, v = .agg #[x, y] ∧ VR M A w a x ∧ VR M A w b y := by
  obtain ⟨us, rfl, hl, hv⟩ := h.agg_inv
  obtain ⟨x, y, rfl⟩ := arr2 hl.symm
  exact ⟨x, y, rfl, by simpa using hv 0 a rfl, by simpa using hv 1 b rfl⟩
theorem agg3 {A : Bool → Nat → Prop} {M : Mp} {a b c : D} {v : Value} (h : VR M A w (.agg [a, b, c]) v) : ∃ x y z, v = .agg #[x, y, z] ∧ VR M A w a x ∧ VR M A w b y ∧ VR M A w c z := by
  obtain ⟨us, rfl, hl, hv⟩ := h.agg_inv
  obtain ⟨x, y, z, rfl⟩ := arr3 hl.symm
  exact ⟨x, y, z, rfl, by simpa using hv 0 a rfl, by simpa using hv 1 b rfl, by simpa using hv 2 c rfl⟩
theorem agg4 {A : Bool → Nat → Prop} {M : Mp} {a b c d : D} {v : Value} (h : VR M A w (.agg [a, b, c, d]) v) : ∃ x y z u, v = .agg #[x, y, z, u] ∧ VR M A w a x ∧ VR M A w b y ∧ VR M A w c z ∧ VR M A w d u := by
  obtain ⟨us, rfl, hl, hv⟩ := h.agg_inv
  obtain ⟨x, y, z, u, rfl⟩ := arr4 hl.symm
  exact ⟨x, y, z, u, rfl, by simpa using hv 0 a rfl, by simpa using hv 1 b rfl, by simpa using hv 2 c rfl, by simpa using hv 3 d rfl⟩
theorem mk_agg2 {A : Bool → Nat → Prop} {M : Mp} {a b : D} {x y : Value} (h1 : VR M A w a x) (h2 : VR M A w b y) : VR M A w (.agg [a, b]) (.agg #[x, y]) :=
  .agg _ _ rfl fun i d hd => by match i, hd with | 0, hd => simp at hd; subst hd; exact h1 | 1, hd => simp at hd; subst hd; exact h2
theorem mk_agg3 {A : Bool → Nat → Prop} {M : Mp} {a b c : D} {x y z : Value} (h1 : VR M A w a x) (h2 : VR M A w b y) (h3 : VR M A w c z) : VR M A w (.agg [a, b, c]) (.agg #[x, y, z]) :=
  .agg _ _ rfl fun i d hd => by match i, hd with | 0, hd => simp at hd; subst hd; exact h1 | 1, hd => simp at hd; subst hd; exact h2 | 2, hd => simp at hd; subst hd; exact h3
theorem mk_agg4 {A : Bool → Nat → Prop} {M : Mp} {a b c e : D} {x y z u : Value} (h1 : VR M A w a x) (h2 : VR M A w b y) (h3 : VR M A w c z) (h4 : VR M A w e u) : VR M A w (.agg [a, b, c, e]) (.agg #[x, y, z, u]) :=
  .agg _ _ rfl fun i d hd => by match i, hd with | 0, hd => simp at hd; subst hd; exact h1 | 1, hd => simp at hd; subst hd; exact h2 | 2, hd => simp at hd; subst hd; exact h3 | 3, hd => simp at hd; subst hd; exact h4
theorem VR.graph {A : Bool → Nat → Prop} {M : Mp} {g : Grf} {v : Value} (h : VR M A w (gD g) v) : GraphAt w v g := by
  obtain ⟨x, y, rfl, h1, h2⟩ := agg2 h
  exact ⟨y, by rw [h1.int_inv], h2.pairs⟩
theorem VR.pinned {A : Bool → Nat → Prop} {M : Mp} {g : Pin} {v : Value} (h : VR M A w (pD g) v) : PinnedAt w v g := by
  obtain ⟨x, y, z, rfl, h1, h2, h3⟩ := agg3 h
  exact ⟨y, z, by rw [h1.int_inv], h2.pairs, h3.ints⟩
theorem VR.frame {A : Bool → Nat → Prop} {M : Mp} {g : Frm} {v : Value} (h : VR M A w (fD g) v) : FrameAt w v g := by
  obtain ⟨x, y, z, rfl, h1, h2, h3⟩ := agg3 h
  exact ⟨y, z, by rw [h1.int_inv], h2.pairs, h3.pairs⟩
theorem VR.linkage {A : Bool → Nat → Prop} {M : Mp} {g : Lnk} {v : Value} (h : VR M A w (lD g) v) : LinkageAt w v g := by
  obtain ⟨x, y, z, u, rfl, h1, h2, h3, h4⟩ := agg4 h
  exact ⟨y, z, u, by rw [h1.int_inv], h2.pairs, h3.pairs, h4.ints⟩
theorem VR.raise {A : Bool → Nat → Prop} {M : Mp} {g : Rse} {v : Value} (h : VR M A w (rD g) v) : RaiseAt w v g := by
  obtain ⟨x, y, rfl, h1, h2⟩ := agg2 h
  exact ⟨y, by rw [h1.int_inv], h2.ints⟩

/-- arguments, one by one -/
theorem args1 {d : D} {args : Array Value} (h : ArgsOK w [d] args) : ∃ v, args = #[v] ∧ VR M0 R0 w d v := by
  obtain ⟨hs, ha⟩ := h
  obtain ⟨v, rfl⟩ := arr1 hs
  exact ⟨v, rfl, by simpa using ha 0 d rfl⟩
theorem args2 {d e : D} {args : Array Value} (h : ArgsOK w [d, e] args) : ∃ v u, args = #[v, u] ∧ VR M0 R0 w d v ∧ VR M0 R0 w e u := by
  obtain ⟨hs, ha⟩ := h
  obtain ⟨v, u, rfl⟩ := arr2 hs
  exact ⟨v, u, rfl, by simpa using ha 0 d rfl, by simpa using ha 1 e rfl⟩
theorem args3 {d e f : D} {args : Array Value} (h : ArgsOK w [d, e, f] args) : ∃ v u x, args = #[v, u, x] ∧ VR M0 R0 w d v ∧ VR M0 R0 w e u ∧ VR M0 R0 w f x := by
  obtain ⟨hs, ha⟩ := h
  obtain ⟨v, u, x, rfl⟩ := arr3 hs
  exact ⟨v, u, x, rfl, by simpa using ha 0 d rfl, by simpa using ha 1 e rfl, by simpa using ha 2 f rfl⟩
theorem args4 {d e f g : D} {args : Array Value} (h : ArgsOK w [d, e, f, g] args) : ∃ v u x y, args = #[v, u, x, y] ∧ VR M0 R0 w d v ∧ VR M0 R0 w e u ∧ VR M0 R0 w f x ∧ VR M0 R0 w g y := by
  obtain ⟨hs, ha⟩ := h
  obtain ⟨v, u, x, y, rfl⟩ := arr4 hs
  exact ⟨v, u, x, y, rfl, by simpa using ha 0 d rfl, by simpa using ha 1 e rfl, by simpa using ha 2 f rfl, by simpa using ha 3 g rfl⟩
theorem mkArgs1 {d : D} {v : Value} (h : VR M0 R0 w d v) : ArgsOK w [d] #[v] := ⟨rfl, fun i x hx => by match i, hx with | 0, hx => simp at hx; subst hx; exact h⟩
theorem mkArgs2 {d e : D} {v u : Value} (h : VR M0 R0 w d v) (h2 : VR M0 R0 w e u) : ArgsOK w [d, e] #[v, u] := ⟨rfl, fun i x hx => by match i, hx with | 0, hx => simp at hx; subst hx; exact h | 1, hx => simp at hx; subst hx; exact h2⟩
theorem mkArgs3 {d e f : D} {v u x : Value} (h : VR M0 R0 w d v) (h2 : VR M0 R0 w e u) (h3 : VR M0 R0 w f x) : ArgsOK w [d, e, f] #[v, u, x] := ⟨rfl, fun i x hx => by match i, hx with | 0, hx => simp at hx; subst hx; exact h | 1, hx => simp at hx; subst hx; exact h2 | 2, hx => simp at hx; subst hx; exact h3⟩

/-- from the older way: a value without a row -/
theorem pcall_of {f : FuncId} {fn : Func} {ds : List D} {d : D} {v : Value} (hf : P.funcs[f]? = some fn) (hname : (fn.name == "runtime.NumGoroutine") = false) (hb : fn.body.isNone = false) (hd : ∀ (N : Mp) (A : Bool → Nat → Prop) (w : World) (B : Nat), VR N A w (ren id (fun j => B + j) d) v)
    (h : ∀ w args, ArgsOK w ds args → Calls P f args w fun e w' => e = .returned v ∧ Below w.heap.size w w') : PCall P f ds [] d :=
  ⟨callFunc_of hf hname hb, fun w args ha => (h w args ha).mono fun e w' ⟨he, hb⟩ => ⟨v, he, fun B => ⟨M0, ⟨hb.os, hb.tape, hb.output, hb.size, fun k hk => hb.block k hk, fun _ => rfl, fun r e q hl => by simp [nrL, look] at hl, fun _ _ => rfl, fun k hk => by rcases hk with ⟨x, hx⟩ | ⟨x, c, z, hx⟩ <;> simp at hx, fun _ _ _ _ _ _ _ h1 => by simp at h1⟩, hd _ _ _ _⟩⟩⟩
theorem below_same {w w' : World} (h : w = w') : Below w.heap.size w w' := by subst h; exact Below.refl _ _

/-- to the older way -/
theorem PCall.bool {f : FuncId} {ds : List D} {b : Bool} (h : PCall P f ds [] (.bool b)) {args : Array Value} (ha : ArgsOK w ds args) : Calls P f args w fun e w' => e = .returned (.bool b) ∧ Below w.heap.size w w' :=
  (h.run w args ha).mono fun e w' ⟨v, he, hB⟩ => by
    obtain ⟨N, hN, hv⟩ := hB 0
    have : v = .bool b := hv.bool_inv
    exact ⟨by rw [he, this], hN.os, hN.tape, hN.output, hN.size, fun k hk => hN.block k hk⟩
theorem PCall.int {f : FuncId} {ds : List D} {b : Int} (h : PCall P f ds [] (.int b)) {args : Array Value} (ha : ArgsOK w ds args) : Calls P f args w fun e w' => e = .returned (.int .i64 b) ∧ Below w.heap.size w w' :=
  (h.run w args ha).mono fun e w' ⟨v, he, hB⟩ => by
    obtain ⟨N, hN, hv⟩ := hB 0
    have : v = .int .i64 b := hv.int_inv
    exact ⟨by rw [he, this], hN.os, hN.tape, hN.output, hN.size, fun k hk => hN.block k hk⟩
theorem row_own {N : Mp} {A : Bool → Nat → Prop} {w w' : World} {r : Nat} {e : TypeId} {q : Sq} {v : Value} {xs : List Value} (hN : New N A w w' (nrL r [(e, q)])) (hv : VR N A w' (.row r 0 q.len) v)
    (hx : xs.length = q.len * q.sz) (hcell : ∀ (cur : Array Value), (∀ i j d, i < q.len → (q.elem true i)[j]? = some d → VR N A w' d (cur.getD (i * q.sz + j) undef)) → q.len * q.sz ≤ cur.size → cur.toList.take (q.len * q.sz) = xs) : w'.ownsRow w.heap.size e q.sz v q.len xs := by
  cases hv with
  | row _ _ _ _ h1 h2 =>
    rcases hN.row r e q (by simp [nrL, look_cons_self]) with ⟨g1, g2⟩ | ⟨g, cap, cur, g1, g2, g3, g4, g5, g6⟩
    · have := h2 _ g1
      simp only [RowV] at this
      obtain ⟨rfl, _, _⟩ := this
      exact ⟨hx, .inl ⟨rfl, g2⟩⟩
    · have := h2 _ g1
      simp only [RowV] at this
      obtain ⟨k1, ao, k2, k3⟩ := this
      have k4 := k3 (.inr trivial)
      rw [Nat.zero_mul] at k4
      subst k4
      refine ⟨hx, .inr ⟨g, cap, cur, by simpa using k2, hN.low g (.inr ⟨r, _, _, g1⟩), g2, g3, g4, g5, hcell cur g6 ?_⟩⟩
      rw [g5]; exact Nat.mul_le_mul_right _ g3
theorem PCall.intS {f : FuncId} {ds : List D} {l : List Int} {e : TypeId} (h : PCall P f ds [(e, .ints l)] (.row 0 0 l.length)) {args : Array Value} (ha : ArgsOK w ds args) :
    Calls P f args w fun e' w' => ∃ v, e' = .returned v ∧ Below w.heap.size w w' ∧ w'.ownsRow w.heap.size e 1 v l.length (l.map (Value.int .i64)) :=
  (h.run w args ha).mono fun e' w' ⟨v, he, hB⟩ => by
    obtain ⟨N, hN, hv⟩ := hB 0
    refine ⟨v, he, ⟨hN.os, hN.tape, hN.output, hN.size, fun k hk => hN.block k hk⟩, ?_⟩
    refine row_own (q := .ints l) hN hv (by simp [Sq.len, Sq.sz]) fun cur hc hs => ?_
    simp only [Sq.len, Sq.sz, Nat.mul_one] at hc hs ⊢
    apply List.ext_getElem (by simp; omega)
    intro i h1 h2
    simp at h1 h2
    have := (hc i 0 _ h2 rfl).int_inv
    have hlt : i < cur.size := by omega
    simp [hlt, h2] at this
    simpa using this
theorem PCall.pairS {f : FuncId} {ds : List D} {l : List (Int × Int)} {e : TypeId} (h : PCall P f ds [(e, .pairs l)] (.row 0 0 l.length)) {args : Array Value} (ha : ArgsOK w ds args) :
    Calls P f args w fun e' w' => ∃ v, e' = .returned v ∧ Below w.heap.size w w' ∧ w'.ownsRow w.heap.size e 2 v l.length (pcells l) :=
  (h.run w args ha).mono fun e' w' ⟨v, he, hB⟩ => by
    obtain ⟨N, hN, hv⟩ := hB 0
    refine ⟨v, he, ⟨hN.os, hN.tape, hN.output, hN.size, fun k hk => hN.block k hk⟩, ?_⟩
    refine row_own (q := .pairs l) hN hv (by simp [Sq.len, Sq.sz, pcells_length]) fun cur hc hs => ?_
    simp only [Sq.len, Sq.sz] at hc hs ⊢
    apply List.ext_getElem? 
    intro j
    by_cases hj : j < l.length * 2
    · have hi : j / 2 < l.length := by omega
      have hlt : j < cur.size := by omega
      rcases Nat.mod_two_eq_zero_or_one j with h | h
      · have e1 : j = j / 2 * 2 := by omega
        have := (hc (j / 2) 0 _ hi rfl).int_inv
        rw [Nat.add_zero, ← e1] at this
        have hp := pcells_get1 l (j / 2) hi
        rw [← e1] at hp
        rw [hp]
        simp [hlt, hi] at this
        simp [List.getElem?_take, hj, hlt, this]
      · have e1 : j = j / 2 * 2 + 1 := by omega
        have := (hc (j / 2) 1 _ hi rfl).int_inv
        rw [← e1] at this
        have hp := pcells_get2 l (j / 2) hi
        rw [← e1] at hp
        rw [hp]
        simp [hlt, hi] at this
        simp [List.getElem?_take, hj, hlt, this]
    · rw [List.getElem?_eq_none (by simp; omega), List.getElem?_eq_none (by rw [pcells_length]; omega)]
end
end Go.Proofs.Ytlmlfbjcpajinaa

/-! ## Vu -/
namespace Go.Proofs.Ytlmlfbjcpajinaa
open Go.RowKit Go.Deep
set_option linter.unusedSimpArgs false
set_option linter.unusedVariables false
section
variable {C : Cx} {ops : Array Oper} {K : PS → Prop} {o : Oper} {rest : List Oper} {s s' : PS} {TT : List (Nat × Ty)} {tm : List (Nat × D)} {rw' : List (Nat × Option (TypeId × Sq))} {bx : List (Nat × Option (List D))} {Q : Exit → PS → Prop}
theorem oNoT {j y : Nat} {b : Bool} (hg : o.guard = some (j, true)) (hgd : gdst ops j = some y) (hy : Nat.blt y C.n = true) (hs : (PS.t ⟨tm, rw', bx⟩ y) = .bool b) (hb : b = false) {t : Nat} (hd : o.dst = some t) (hn : Nat.blt t C.n = true)
    (h : VO C ops K rest ⟨(t, .tup []) :: tm, rw', bx⟩) : VO C ops K (o :: rest) ⟨tm, rw', bx⟩ := oNo hg hgd hy hs hb hd hn h
theorem oNoF {j y : Nat} {b : Bool} (hg : o.guard = some (j, false)) (hgd : gdst ops j = some y) (hy : Nat.blt y C.n = true) (hs : (PS.t ⟨tm, rw', bx⟩ y) = .bool b) (hb : b = true) {t : Nat} (hd : o.dst = some t) (hn : Nat.blt t C.n = true)
    (h : VO C ops K rest ⟨(t, .tup []) :: tm, rw', bx⟩) : VO C ops K (o :: rest) ⟨tm, rw', bx⟩ := oNo hg hgd hy hs hb hd hn h
theorem cNoT {j y : Nat} {b : Bool} (hg : o.guard = some (j, true)) (hgd : gdst ops j = some y) (hy : Nat.blt y C.n = true) (hs : (PS.t ⟨tm, rw', bx⟩ y) = .bool b) (hb : b = false) {t : Nat} (hd : o.dst = some t) (hn : Nat.blt t C.n = true)
    (h : QC C ops K rest ⟨(t, .tup []) :: tm, rw', bx⟩) : QC C ops K (o :: rest) ⟨tm, rw', bx⟩ := cNo hg hgd hy hs hb hd hn h
theorem cNoF {j y : Nat} {b : Bool} (hg : o.guard = some (j, false)) (hgd : gdst ops j = some y) (hy : Nat.blt y C.n = true) (hs : (PS.t ⟨tm, rw', bx⟩ y) = .bool b) (hb : b = true) {t : Nat} (hd : o.dst = some t) (hn : Nat.blt t C.n = true)
    (h : QC C ops K rest ⟨(t, .tup []) :: tm, rw', bx⟩) : QC C ops K (o :: rest) ⟨tm, rw', bx⟩ := cNo hg hgd hy hs hb hd hn h
theorem oSplit {j y : Nat} {want b : Bool} (hg : o.guard = some (j, want)) (hgd : gdst ops j = some y) (hs : (PS.t ⟨tm, rw', bx⟩ y) = .bool b) (h1 : b = true → VO C ops K (o :: rest) ⟨tm, rw', bx⟩) (h2 : b = false → VO C ops K (o :: rest) ⟨tm, rw', bx⟩) : VO C ops K (o :: rest) ⟨tm, rw', bx⟩ := by
  cases b
  · exact h2 rfl
  · exact h1 rfl
theorem cSplit {j y : Nat} {want b : Bool} (hg : o.guard = some (j, want)) (hgd : gdst ops j = some y) (hs : (PS.t ⟨tm, rw', bx⟩ y) = .bool b) (h1 : b = true → QC C ops K (o :: rest) ⟨tm, rw', bx⟩) (h2 : b = false → QC C ops K (o :: rest) ⟨tm, rw', bx⟩) : QC C ops K (o :: rest) ⟨tm, rw', bx⟩ := by
  cases b
  · exact h2 rfl
  · exact h1 rfl
/-- a slice that is there is not longer than an int counts -/
theorem vLen {c : Code} {t : Nat} {f : Bool} {q : Sq} (ht : s.t t = .ro f q) (h : q.len ≤ 9223372036854775807 → VC C c Q s) : VC C c Q s := ⟨fun M a w hr => by
  have h1 := hr.tmp t
  rw [ht] at h1
  have : q.len ≤ 9223372036854775807 := by
    generalize a.tmps.getD t undef = v at h1
    cases h1 with | ro _ _ ao cap b o u hn => simpa [maxLen] using hn
  exact (h this).out M a w hr⟩
/-- the same of a part of a struct -/
theorem vLenA {c : Code} {t i : Nat} {f : Bool} {q : Sq} {l : List D} (ht : s.t t = .agg l) (hi : l[i]? = some (.ro f q)) (h : q.len ≤ 9223372036854775807 → VC C c Q s) : VC C c Q s := ⟨fun M a w hr => by
  have h1 := hr.tmp t
  rw [ht] at h1
  have : q.len ≤ 9223372036854775807 := by
    obtain ⟨us, _, _, h2⟩ := h1.agg_inv
    have h3 := h2 i _ hi
    generalize us.getD i undef = v at h3
    cases h3 with | ro _ _ ao cap b o u hn => simpa [maxLen] using hn
  exact (h this).out M a w hr⟩
end
end Go.Proofs.Ytlmlfbjcpajinaa

/-! ## Vs -/
namespace Go.Proofs.Ytlmlfbjcpajinaa
open Go.RowKit Go.Deep
set_option linter.unusedSimpArgs false
set_option linter.unusedVariables false

structure Ef where
  d : D
  rows : List (Nat × Option (TypeId × Sq))
  boxes : List (Nat × Option (List D))
abbrev orE {β : Type} (x : Option β) (y : β) : β := match x with | some z => z | none => y
def PS.ap (s : PS) (o : Option Nat) (e : Ef) : PS := ⟨match o with | some t => (t, e.d) :: s.tmp | none => s.tmp, e.rows ++ s.row, e.boxes ++ s.box⟩
theorem PS.t_ap (s : PS) (o : Option Nat) (e : Ef) (x : Nat) : (s.ap o e).t x = (s.put o e.d).t x := by cases o <;> rfl
theorem PS.r_ap (s : PS) (o : Option Nat) (e : Ef) (r : Nat) : (s.ap o e).r r = orE (look e.rows r) (s.r r) := by
  simp only [PS.r, PS.ap, look_append]
  cases look e.rows r <;> rfl
theorem PS.b_ap (s : PS) (o : Option Nat) (e : Ef) (r : Nat) : (s.ap o e).b r = orE (look e.boxes r) (s.b r) := by
  simp only [PS.b, PS.ap, look_append]
  cases look e.boxes r <;> rfl
def putE (ops : Array Oper) (s : PS) (es : Nat → Ef) (L : Nat → Bool) : Nat → PS
  | 0 => s
  | k + 1 => if L k then (putE ops s es L k).ap (odst ops k) (es k) else putE ops s es L k
section
variable {ops : Array Oper} {s : PS} {es : Nat → Ef}
theorem putE_t (L : Nat → Bool) : ∀ (k x : Nat), (putE ops s es L k).t x = (putS ops s (fun j => (es j).d) L k).t x
  | 0, _ => rfl
  | k + 1, x => by
    simp only [putE, putS]
    split
    · rw [PS.t_ap, PS.t_put, PS.t_put, putE_t L k x]
    · exact putE_t L k x
theorem putE_congr {L L' : Nat → Bool} : ∀ {k : Nat}, (∀ j, j < k → L j = L' j) → putE ops s es L k = putE ops s es L' k
  | 0, _ => rfl
  | k + 1, h => by
    simp only [putE]
    rw [h k (Nat.lt_succ_self k), putE_congr (k := k) fun j hj => h j (Nat.lt_succ_of_lt hj)]
section
variable {α : Type} {f : PS → Nat → Option α} {g : Ef → List (Nat × Option α)} (hap : ∀ s o e r, f (PS.ap s o e) r = orE (look (g e) r) (f s r))
include hap
theorem putE_out {L : Nat → Bool} {r : Nat} : ∀ {k : Nat}, (∀ c, c < k → L c = true → look (g (es c)) r = none) → f (putE ops s es L k) r = f s r
  | 0, _ => rfl
  | k + 1, h => by
    have ih := putE_out (L := L) (k := k) fun c hc => h c (by omega)
    simp only [putE]
    split
    · rename_i hl
      rw [hap, h k (by omega) hl]; exact ih
    · exact ih
theorem putE_in {L : Nat → Bool} {r c : Nat} {y : Option α} (hy : look (g (es c)) r = some y) (hl : L c = true) : ∀ {k : Nat}, c < k → (∀ c', c' < k → look (g (es c')) r ≠ none → c' = c) → f (putE ops s es L k) r = y
  | 0, h, _ => absurd h (Nat.not_lt_zero _)
  | k + 1, hck, hu => by
    simp only [putE]
    by_cases hc : c = k
    · subst hc
      rw [if_pos hl, hap, hy]
    · have ih := putE_in (L := L) hy hl (k := k) (by omega) fun c' h1 h2 => hu c' (by omega) h2
      split
      · have : look (g (es k)) r = none := by
          cases h : look (g (es k)) r with
          | none => rfl
          | some z => exact absurd (hu k (by omega) (by rw [h]; simp)) (by omega)
        rw [hap, this]; exact ih
      · exact ih
theorem putE_from {L : Nat → Bool} {r : Nat} : ∀ {k : Nat}, f (putE ops s es L k) r = f s r ∨ ∃ c, c < k ∧ L c = true ∧ look (g (es c)) r = some (f (putE ops s es L k) r)
  | 0 => .inl rfl
  | k + 1 => by
    simp only [putE]
    split
    · rename_i hl
      rw [hap]
      cases h : look (g (es k)) r with
      | some y => exact .inr ⟨k, by omega, hl, h⟩
      | none =>
        rcases putE_from (L := L) (r := r) (k := k) with h1 | ⟨c, h1, h2, h3⟩
        · exact .inl h1
        · exact .inr ⟨c, by omega, h2, h3⟩
    · rcases putE_from (L := L) (r := r) (k := k) with h1 | ⟨c, h1, h2, h3⟩
      · exact .inl h1
      · exact .inr ⟨c, by omega, h2, h3⟩
end
theorem putE_tfrom {L : Nat → Bool} {x : Nat} : ∀ {k : Nat}, (putE ops s es L k).t x = s.t x ∨ ∃ c, c < k ∧ L c = true ∧ (putE ops s es L k).t x = (es c).d
  | 0 => .inl rfl
  | k + 1 => by
    simp only [putE]
    split
    · rename_i hl
      rw [PS.t_ap, PS.t_put]
      split
      · exact .inr ⟨k, by omega, hl, rfl⟩
      · rcases putE_tfrom (L := L) (x := x) (k := k) with h1 | ⟨c, h1, h2, h3⟩
        · exact .inl h1
        · exact .inr ⟨c, by omega, h2, h3⟩
    · rcases putE_tfrom (L := L) (x := x) (k := k) with h1 | ⟨c, h1, h2, h3⟩
      · exact .inl h1
      · exact .inr ⟨c, by omega, h2, h3⟩
end

/-- the slot a name comes from -/
def nmT (r : Nat) : Nat := match Nat.ble 1000 r with | true => (r - 1000) / 10 | false => r
def nm (ops : Array Oper) (c r : Nat) : Bool := match gdst ops c with | some t => Nat.beq t (nmT r) | none => false
/-- names of what an operation need not know -/
def hid (ops : Array Oper) (cr B : List Nat) (j r : Nat) : Bool := cr.any fun c => !Nat.beq c j && !Nat.testBit (B.getD j 0) c && nm ops c r
def bitsB (md : Region.Mode) (ops : Array Oper) (B : List Nat) : Bool :=
  (List.range ops.size).all fun j => (List.range ops.size).all fun c => !Nat.testBit (B.getD j 0) c || (match ops[j]? with | some o => o.after.any fun e => Region.binds md e && (Nat.beq e.on c || Nat.testBit (B.getD e.on 0) c) | none => false)
def tailB (ops : Array Oper) (B : List Nat) (nA : Nat) : Bool := (List.range ops.size).all fun j => Nat.blt j nA || (List.range j).all fun c => Nat.testBit (B.getD j 0) c
def disB (ops : Array Oper) (cr : List Nat) : Bool := cr.all fun c => cr.all fun c' => Nat.beq c c' || decide (gdst ops c ≠ gdst ops c')
def chkE (ops : Array Oper) (cr B : List Nat) (j : Nat) (e : Ef) : Bool :=
  e.rows.all (fun p => cr.contains j && nm ops j p.1) && e.boxes.all (fun p => (cr.contains j && nm ops j p.1) && (match p.2 with | some cs => cs.all (fun d => !mentS (hid ops cr B j) (hid ops cr B j) d) | none => true)) && !ment (hid ops cr B j) (hid ops cr B j) e.d
theorem bits_in {md : Region.Mode} {ops : Array Oper} {B : List Nat} (hp : pairV md ops = true) (hb : bitsB md ops B = true) {L : Nat → Bool} (hcl : ∀ j oj, ops[j]? = some oj → L j = true → ∀ e ∈ oj.after, Region.binds md e = true → L e.on = true) :
    ∀ (j : Nat) (oj : Oper), ops[j]? = some oj → (∀ e ∈ oj.after, Region.binds md e = true → L e.on = true) → ∀ c, c < ops.size → Nat.testBit (B.getD j 0) c = true → L c = true := by
  intro j
  induction j using Nat.strongRecOn with
  | _ j ih =>
    intro oj hj hL c hc ht
    simp only [bitsB, List.all_eq_true, List.mem_range] at hb
    have h1 := hb j (Array.getElem?_eq_some_iff.1 hj).1 c hc
    simp only [hj, ht, Bool.not_true, Bool.false_or] at h1
    obtain ⟨k, hk, h2⟩ := Array.any_eq_true.1 h1
    simp only [Bool.and_eq_true, Bool.or_eq_true] at h2
    have hm := Array.getElem_mem hk
    rcases h2.2 with h3 | h3
    · rw [← Nat.eq_of_beq_eq_true h3]; exact hL _ hm h2.1
    · have hlt := pairV_edge hp hj hm h2.1
      have hjs := (Array.getElem?_eq_some_iff.1 hj).1
      obtain ⟨o', ho'⟩ : ∃ o', ops[oj.after[k].on]? = some o' := ⟨ops[oj.after[k].on], Array.getElem?_eq_getElem (by omega)⟩
      exact ih _ hlt o' ho' (hcl _ o' ho' (hL _ hm h2.1)) c hc h3
theorem bits_lt {md : Region.Mode} {ops : Array Oper} {B : List Nat} (hp : pairV md ops = true) (hb : bitsB md ops B = true) {j c : Nat} {oj : Oper} (hj : ops[j]? = some oj) (hc : c < ops.size) (ht : Nat.testBit (B.getD j 0) c = true) : c < j := by
  have := bits_in (L := fun k => decide (k < j)) hp hb (fun k ok hk hl e he hbd => by
    have := pairV_edge hp hk he hbd
    simp at hl ⊢; omega) j oj hj (fun e he hbd => by simpa using pairV_edge hp hj he hbd) c hc ht
  simpa using this
theorem mentS_le {b r b' r' : Nat → Bool} (hb : ∀ x, b x = true → b' x = true) (hr : ∀ x, r x = true → r' x = true) (d : D) (h : mentS b' r' d = false) : mentS b r d = false := by
  cases d <;> simp only [mentS] at h ⊢ <;> first | rfl | exact h | (cases hx : r _ <;> first | rfl | (rw [hr _ hx] at h; cases h)) | (cases hx : b _ <;> first | rfl | (rw [hb _ hx] at h; cases h))
theorem mentA_le {b r b' r' : Nat → Bool} (hb : ∀ x, b x = true → b' x = true) (hr : ∀ x, r x = true → r' x = true) (d : D) (h : mentA b' r' d = false) : mentA b r d = false := by
  cases d with
  | agg l =>
    simp only [mentA, List.any_eq_false] at h ⊢
    intro x hx
    have := mentS_le hb hr x (by simpa using h x hx)
    simpa using this
  | _ => simp only [mentA] at h ⊢; exact mentS_le hb hr _ h
theorem ment_le {b r b' r' : Nat → Bool} (hb : ∀ x, b x = true → b' x = true) (hr : ∀ x, r x = true → r' x = true) (d : D) (h : ment b' r' d = false) : ment b r d = false := by
  cases d with
  | tup l =>
    simp only [ment, List.any_eq_false] at h ⊢
    intro x hx
    have := mentA_le hb hr x (by simpa using h x hx)
    simpa using this
  | _ => simp only [ment] at h ⊢; exact mentA_le hb hr _ h
theorem Rel.same {w0 : World} {O0 : Nat → Prop} {n : Nat} {M : Mp} {s s' : PS} {a : Act} {w : World} (h : Rel w0 O0 n M s a w) (ht : ∀ x, s'.t x = s.t x) (hr' : ∀ r, s'.r r = s.r r) (hb' : ∀ b, s'.b b = s.b b) : Rel w0 O0 n M s' a w :=
  ⟨h.fr, h.dfr, h.sz, fun t => by rw [ht]; exact h.tmp t, fun b cs hx => h.box b cs (by rwa [hb'] at hx), fun b hx => h.boxn b (by rwa [hb'] at hx), fun r e q hx => h.row r e q (by rwa [hr'] at hx),
    fun r hx => h.rown r (by rwa [hr'] at hx), h.low, h.inj1, h.inj2, h.inj3⟩
end Go.Proofs.Ytlmlfbjcpajinaa

/-! ## Vx -/
namespace Go.Proofs.Ytlmlfbjcpajinaa
open Go.RowKit Go.Deep
set_option linter.unusedSimpArgs false
set_option linter.unusedVariables false
section
variable {C : Cx} {ops : Array Oper} {TT : List (Nat × Ty)} {cr B : List Nat}
/-- what is said of the tail of the order: what i looks at is as in the order of the text -/
theorem agreeT {md : Region.Mode} {s0 : PS} {ds : Nat → D} (hp : pairV md ops = true) {L : Nat → Bool} {i nA : Nat} {o : Oper} (hn : nA ≤ ops.size) (hi : i < nA) (ho : ops[i]? = some o) (hun : L i = false)
    (hdeps : ∀ e ∈ o.after, Region.binds md e = true → L e.on = true) (hcl : ∀ j oj, ops[j]? = some oj → L j = true → ∀ e ∈ oj.after, Region.binds md e = true → L e.on = true) :
    ∀ x ∈ o.looksAt ops, (putS ops s0 ds L nA).t x = (putS ops s0 ds (fun _ => true) i).t x := by
  have hnot : ∀ j, L j = false → ∀ e ∈ o.after, Region.binds md e = true → e.on ≠ j := fun j hj e he hb heq => by
    have := hdeps e he hb; rw [heq] at this; rw [this] at hj; cases hj
  have hnot2 : ∀ m j oj, L m = false → ops[j]? = some oj → L j = true → ∀ e ∈ oj.after, Region.binds md e = true → e.on ≠ m := fun m j oj hm hoj hj e he hb heq => by
    have := hcl j oj hoj hj e he hb; rw [heq] at this; rw [this] at hm; cases hm
  have hget : ∀ j, j < ops.size → ∃ oj, ops[j]? = some oj := fun j hj => ⟨ops[j], Array.getElem?_eq_getElem hj⟩
  have hdst : ∀ m j, m < j → j < ops.size → L m = false → L j = true → ∀ d, odst ops m = some d → odst ops j ≠ some d := fun m j hmj hj hm hlj d hd => by
    obtain ⟨om, hom⟩ := hget m (by omega)
    obtain ⟨oj, hoj⟩ := hget j hj
    have hap := Oper.apart_spec (pairV_spec hp hmj hom hoj (hnot2 m j oj hm hoj hlj))
    simp only [odst, hom, hoj, Option.bind_some] at hd ⊢
    exact hap.2.1 d hd
  let X : Nat → Nat → Bool := fun m j => L j || decide (j < m)
  have stepA : ∀ m, m ≤ i → ∀ x ∈ o.looksAt ops, (putS ops s0 ds (X m) i).t x = (putS ops s0 ds L i).t x := by
    intro m
    induction m with
    | zero => intro _ x _; rw [putS_congr (L := X 0) (L' := L) fun j hj => by simp [X]]
    | succ m ihm =>
      intro hm x hx
      have ih1 := ihm (by omega) x hx
      cases hl : L m with
      | true =>
        rw [putS_congr (L := X (m + 1)) (L' := X m) fun j hj => by
          by_cases hjm : j = m
          · subst hjm; simp only [X, hl, Bool.true_or]
          · simp only [X]; congr 1; simp; omega]
        exact ih1
      | false =>
        obtain ⟨om, hom⟩ := hget m (by omega)
        have hap := Oper.apart_spec (pairV_spec hp (show m < i by omega) hom ho (hnot m hl))
        have hon := putS_on (ops := ops) (s := s0) (ds := ds) (L := X m) (L' := X (m + 1)) (i := m) (k := i) (by omega) (by simp only [X, hl]; simp) (fun j => by
            simp only [X]
            by_cases hjm : j = m
            · subst hjm; simp
            · have : (j == m) = false := by simpa using hjm
              rw [this, Bool.or_false]; congr 1; simp; omega) (fun j h1 h2 h3 => by
          have h3' : L j = true := by
            simp only [X, Bool.or_eq_true, decide_eq_true_eq] at h3
            rcases h3 with h3 | h3
            · exact h3
            · omega
          exact hdst m j h1 (by omega) hl h3') x
        rw [hon, PS.t_put, if_neg (fun hd => hap.1 x (by simpa [odst, hom] using hd) hx)]
        exact ih1
  have stepB : ∀ k, i ≤ k → k ≤ ops.size → ∀ x ∈ o.looksAt ops, (putS ops s0 ds L k).t x = (putS ops s0 ds L i).t x := by
    intro k
    induction k with
    | zero => intro h _ x _; have : i = 0 := by omega
              subst this; rfl
    | succ k ihk =>
      intro h1 h2 x hx
      rcases Nat.lt_or_ge k i with hki | hki
      · have : i = k + 1 := by omega
        subst this; rfl
      · have ih1 := ihk hki (by omega) x hx
        simp only [putS]
        by_cases hl : L k = true
        case neg => rw [if_neg hl]; exact ih1
        case pos =>
          rw [if_pos hl]
          have hne : i < k := by
            rcases Nat.lt_or_ge i k with h | h
            · exact h
            · have : i = k := by omega
              subst this; rw [hun] at hl; cases hl
          obtain ⟨ok, hok⟩ := hget k (by omega)
          have hap := Oper.apart_spec (pairV_spec hp hne ho hok (hnot2 i k ok hun hok hl))
          rw [PS.t_put, if_neg (fun hd => hap.2.2 x (by simpa [odst, hok] using hd) hx)]
          exact ih1
  intro x hx
  rw [stepB nA (by omega) hn x hx, ← stepA i (Nat.le_refl _) x hx, putS_congr (L := X i) (L' := fun _ => true) fun j hj => by simp [X, hj]]

structure AgreeN (ops : Array Oper) (cr B : List Nat) (j : Nat) (o : Oper) (s s1 : PS) : Prop where
  r : ∀ r, hid ops cr B j r = false → s1.r r = s.r r
  b : ∀ r, hid ops cr B j r = false → s1.b r = s.b r
  t : ∀ x ∈ o.looksAt ops, s1.t x = s.t x
  fr : cr.contains j = true → Fresh s1 (nm ops j) (nm ops j)
structure QE (C : Cx) (ops : Array Oper) (cr B : List Nat) (j : Nat) (o : Oper) (s : PS) (e : Ef) : Prop where
  out : ∀ s1 M a w, AgreeN ops cr B j o s s1 → Rel C.w0 C.O0 C.n M s1 a w →
    (Region.wanted o (yielded ops a.tmps) = true ∧ Step C o s1 (fun s' => s' = s1.ap o.dst e)) ∨
    (Region.wanted o (yielded ops a.tmps) = false ∧ e = ⟨.tup [], [], []⟩ ∧ dstOk C.n o.dst = true)
/-- The chain in the order of the text. -/
def QN (C : Cx) (ops : Array Oper) (cr B : List Nat) (K : PS → Prop) : Nat → List Oper → PS → Prop
  | _, [], s => K s
  | j, o :: rest, s => ∃ e, QE C ops cr B j o s e ∧ chkE ops cr B j e = true ∧ QN C ops cr B K (j + 1) rest (s.ap o.dst e)

variable {es : Nat → Ef} {nA : Nat}
/-- facts of the effects that were checked -/
structure Chk (ops : Array Oper) (cr B : List Nat) (es : Nat → Ef) (nA : Nat) : Prop where
  ok : ∀ j, j < nA → chkE ops cr B j (es j) = true
theorem Chk.row (h : Chk ops cr B es nA) {j r : Nat} (hj : j < nA) (hl : look (es j).rows r ≠ none) : cr.contains j = true ∧ nm ops j r = true := by
  have := h.ok j hj
  simp only [chkE, Bool.and_eq_true, List.all_eq_true] at this
  cases hx : look (es j).rows r with
  | none => exact absurd hx hl
  | some y => exact this.1.1 _ (look_mem hx)
theorem Chk.box (h : Chk ops cr B es nA) {j r : Nat} (hj : j < nA) (hl : look (es j).boxes r ≠ none) : cr.contains j = true ∧ nm ops j r = true := by
  have := h.ok j hj
  simp only [chkE, Bool.and_eq_true, List.all_eq_true] at this
  cases hx : look (es j).boxes r with
  | none => exact absurd hx hl
  | some y => exact (this.1.2 _ (look_mem hx)).1
theorem Chk.cells (h : Chk ops cr B es nA) {j r : Nat} {cs : List D} (hj : j < nA) (hl : look (es j).boxes r = some (some cs)) : ∀ d ∈ cs, mentS (hid ops cr B j) (hid ops cr B j) d = false := by
  have := h.ok j hj
  simp only [chkE, Bool.and_eq_true, List.all_eq_true] at this
  have h2 : (cs.all fun d => !mentS (hid ops cr B j) (hid ops cr B j) d) = true := (this.1.2 _ (look_mem hl)).2
  simp only [List.all_eq_true] at h2
  intro d hd
  simpa using h2 d hd
theorem Chk.d (h : Chk ops cr B es nA) {j : Nat} (hj : j < nA) : ment (hid ops cr B j) (hid ops cr B j) (es j).d = false := by
  have := h.ok j hj
  simp only [chkE, Bool.and_eq_true, List.all_eq_true] at this
  simpa using this.2
theorem nm_one (hd : disB ops cr = true) {c c' r : Nat} (hc : cr.contains c = true) (hc' : cr.contains c' = true) (h : nm ops c r = true) (h' : nm ops c' r = true) : c = c' := by
  simp only [disB, List.all_eq_true, Bool.or_eq_true, decide_eq_true_eq] at hd
  rcases hd c (by simpa using hc) c' (by simpa using hc') with h1 | h1
  · exact Nat.eq_of_beq_eq_true h1
  · exfalso
    unfold nm at h h'
    cases hg : gdst ops c with
    | none => rw [hg] at h; cases h
    | some t =>
      cases hg' : gdst ops c' with
      | none => rw [hg'] at h'; cases h'
      | some t' =>
        rw [hg] at h; rw [hg'] at h'
        have e1 := Nat.eq_of_beq_eq_true h
        have e2 := Nat.eq_of_beq_eq_true h'
        exact h1 (by rw [hg, hg', e1, e2])

/-- what the operation i looks at, in any order that its edges let it come at -/
theorem agreeN {md : Region.Mode} {s0 : PS} (hp : pairV md ops = true) (hb : bitsB md ops B = true) (hd : disB ops cr = true) (hk : Chk ops cr B es nA) (hf : ∀ c, cr.contains c = true → Fresh s0 (nm ops c) (nm ops c)) {L : Nat → Bool} {i : Nat} {o : Oper} (hn : nA ≤ ops.size) (hi : i < nA) (ho : ops[i]? = some o) (hun : L i = false)
    (hdeps : ∀ e ∈ o.after, Region.binds md e = true → L e.on = true) (hcl : ∀ j oj, ops[j]? = some oj → L j = true → ∀ e ∈ oj.after, Region.binds md e = true → L e.on = true) :
    AgreeN ops cr B i o (putE ops s0 es (fun _ => true) i) (putE ops s0 es L nA) := by
  have hget : ∀ j, j < ops.size → ∃ oj, ops[j]? = some oj := fun j hj => ⟨ops[j], Array.getElem?_eq_getElem hj⟩
  have key : ∀ {α : Type} {f : PS → Nat → Option α} {g : Ef → List (Nat × Option α)} (hap : ∀ s o e r, f (PS.ap s o e) r = orE (look (g e) r) (f s r))
      (hg : ∀ j r, j < nA → look (g (es j)) r ≠ none → cr.contains j = true ∧ nm ops j r = true) (r : Nat), hid ops cr B i r = false → f (putE ops s0 es L nA) r = f (putE ops s0 es (fun _ => true) i) r := by
    intro α f g hap hg r hh
    by_cases hc : ∃ c, c < nA ∧ look (g (es c)) r ≠ none
    · obtain ⟨c, hc1, hc2⟩ := hc
      obtain ⟨hcr, hnm⟩ := hg c r hc1 hc2
      have huniq : ∀ c', c' < nA → look (g (es c')) r ≠ none → c' = c := fun c' h1 h2 => nm_one hd (hg c' r h1 h2).1 hcr (hg c' r h1 h2).2 hnm
      by_cases hci : c = i
      · subst hci
        rw [putE_out hap fun c' h1 h2 => ?_, putE_out hap fun c' h1 h2 => ?_]
        · cases h : look (g (es c')) r with
          | none => rfl
          | some z => exact absurd (huniq c' (by omega) (by rw [h]; simp)) (by omega)
        · cases h : look (g (es c')) r with
          | none => rfl
          | some z =>
            have := huniq c' h1 (by rw [h]; simp)
            rw [this, hun] at h2; cases h2
      · have hbit : Nat.testBit (B.getD i 0) c = true := by
          simp only [hid, List.any_eq_false] at hh
          have := hh c (by simpa using hcr)
          simp only [hnm, Bool.and_true, Bool.and_eq_true, Bool.not_eq_true', not_and] at this
          have h1 : Nat.beq c i = false := by
            cases hx : Nat.beq c i with
            | false => rfl
            | true => exact absurd (Nat.eq_of_beq_eq_true hx) hci
          have h2 := this h1
          simpa using h2
        have hcs : c < ops.size := by omega
        have hL := bits_in hp hb hcl i o ho hdeps c hcs hbit
        have hlt := bits_lt hp hb ho hcs hbit
        obtain ⟨y, hy⟩ : ∃ y, look (g (es c)) r = some y := by
          cases h : look (g (es c)) r with
          | none => exact absurd h hc2
          | some y => exact ⟨y, rfl⟩
        rw [putE_in hap hy hL hc1 fun c' h1 h2 => huniq c' h1 h2, putE_in hap hy rfl hlt fun c' h1 h2 => huniq c' (by omega) h2]
    · have hall : ∀ c, c < nA → look (g (es c)) r = none := fun c h1 => by
        cases h : look (g (es c)) r with
        | none => rfl
        | some z => exact absurd ⟨c, h1, by rw [h]; simp⟩ hc
      rw [putE_out hap fun c h1 _ => hall c h1, putE_out hap fun c h1 _ => hall c (by omega)]
  have hlow : cr.contains i = true → ∀ c, c < nA → L c = true → ∀ r, nm ops i r = true → hid ops cr B c r = true := fun hi' c hc hl r hr => by
    simp only [hid, List.any_eq_true]
    refine ⟨i, by simpa using hi', ?_⟩
    have h1 : Nat.beq i c = false := by
      cases hx : Nat.beq i c with
      | false => rfl
      | true => have := Nat.eq_of_beq_eq_true hx; subst this; rw [hun] at hl; cases hl
    have h2 : Nat.testBit (B.getD c 0) i = false := by
      cases hx : Nat.testBit (B.getD c 0) i with
      | false => rfl
      | true =>
        obtain ⟨oc, hoc⟩ := hget c (by omega)
        have := bits_in hp hb hcl c oc hoc (hcl c oc hoc hl) i (by omega) hx
        rw [hun] at this; cases this
    rw [h1, h2, hr]; rfl
  refine ⟨key (f := PS.r) (g := Ef.rows) PS.r_ap (fun j r hj hl => hk.row hj hl), key (f := PS.b) (g := Ef.boxes) PS.b_ap (fun j r hj hl => hk.box hj hl), fun x hx => ?_, fun hi' => ⟨fun x => ?_, fun x cs hx d hd' => ?_⟩⟩
  · rw [putE_t, putE_t]; exact agreeT hp hn hi ho hun hdeps hcl x hx
  · rcases putE_tfrom (ops := ops) (s := s0) (es := es) (L := L) (x := x) (k := nA) with h | ⟨c, h1, h2, h3⟩
    · rw [h]; exact (hf i hi').t x
    · rw [h3]; exact ment_le (hlow hi' c h1 h2) (hlow hi' c h1 h2) _ (hk.d h1)
  · rcases putE_from (f := PS.b) (g := Ef.boxes) (ops := ops) (s := s0) (es := es) PS.b_ap (L := L) (r := x) (k := nA) with h | ⟨c, h1, h2, h3⟩
    · exact (hf i hi').b x cs (by rw [← h]; exact hx) d hd'
    · rw [hx] at h3
      exact mentS_le (hlow hi' c h1 h2) (hlow hi' c h1 h2) _ (hk.cells h1 h3 d hd')
end
end Go.Proofs.Ytlmlfbjcpajinaa

/-! ## Vxa -/
namespace Go.Proofs.Ytlmlfbjcpajinaa
open Go.RowKit Go.Deep
set_option linter.unusedSimpArgs false
set_option linter.unusedVariables false
section
variable {C : Cx} {ops : Array Oper} {TT : List (Nat × Ty)} {cr B : List Nat} {es : Nat → Ef} {nA : Nat} {Qe : Exit → Act → World → Prop} {md : Region.Mode}

theorem wpAny_of_list (hp : pairV md ops = true) (hb : bitsB md ops B = true) (ht : tailB ops B nA = true) : ∀ (l : List Oper) (m : Nat), nA ≤ m → (∀ j : Nat, l[j]? = ops[m + j]?) → ∀ (fuel : Nat) (listed : Array Bool) (a : Act) (w : World),
    listed.size = ops.size → (∀ j, j < ops.size → listed.getD j true = decide (j < m)) → (List.range ops.size).countP (fun j => !listed.getD j true) ≤ fuel → wpList C.P ops Qe l a w → wpAny C.P md ops Qe fuel listed a w := by
  intro l
  induction l with
  | nil =>
    intro m hm hl fuel listed a w hsz hli hcnt h
    have hms : ops.size ≤ m := by
      have := hl 0
      simp at this
      exact this
    have hr : Region.ready md ops listed = [] := by
      apply List.eq_nil_iff_forall_not_mem.2
      intro i hi
      obtain ⟨h0, _⟩ := mem_ready.1 hi
      have hlt := listedV_out hsz h0
      have := hli i hlt
      rw [h0] at this
      simp at this
      omega
    cases fuel with
    | zero => exact ⟨hr, h⟩
    | succ f => exact ⟨fun _ => h, fun i hi => by rw [hr] at hi; cases hi⟩
  | cons o rest ih =>
    intro m hm hl fuel listed a w hsz hli hcnt h
    have ho : ops[m]? = some o := by simpa using (hl 0).symm
    have hms : m < ops.size := (Array.getElem?_eq_some_iff.1 ho).1
    have hum : listed.getD m true = false := by rw [hli m hms]; simp
    cases fuel with
    | zero =>
      have := List.countP_eq_zero.1 (Nat.le_zero.1 hcnt) m (by simpa using hms)
      rw [hum] at this; simp at this
    | succ f =>
      have hcl : ∀ j oj, ops[j]? = some oj → listed.getD j true = true → ∀ e ∈ oj.after, Region.binds md e = true → listed.getD e.on true = true := fun j oj hoj hlj e he hbd => by
        have hj := (Array.getElem?_eq_some_iff.1 hoj).1
        have hlt := pairV_edge hp hoj he hbd
        rw [hli j hj] at hlj
        rw [hli e.on (by omega)]
        simp at hlj ⊢; omega
      have hmem : m ∈ Region.ready md ops listed := by
        refine mem_ready.2 ⟨hum, o, ho, fun e he hbd => ?_⟩
        have hlt := pairV_edge hp ho he hbd
        have h1 := hli e.on (by omega)
        have hin : e.on < listed.size := by omega
        simp [hin] at h1 ⊢
        rw [h1]; simpa using hlt
      refine ⟨fun hr => absurd hmem (by rw [hr]; simp), fun i hi => ?_⟩
      obtain ⟨hun, oi, hoi, hdeps⟩ := mem_ready.1 hi
      have his := listedV_out hsz hun
      have hge : m ≤ i := by
        have := hli i his
        rw [hun] at this
        simp at this; exact this
      have him : i = m := by
        rcases Nat.lt_or_ge m i with hlt | hge'
        · exfalso
          simp only [tailB, List.all_eq_true, List.mem_range, Bool.or_eq_true] at ht
          have hbit : Nat.testBit (B.getD i 0) m = true := by
            rcases ht i his with h1 | h1
            · rw [Nat.blt_eq] at h1; omega
            · exact h1 m hlt
          have := bits_in (L := fun j => listed.getD j true) hp hb hcl i oi hoi (fun e he hbd => by
            have h1 := hdeps e he hbd
            rcases Nat.lt_or_ge e.on listed.size with h' | h'
            · simp [h'] at h1 ⊢; exact h1
            · simp [Array.getElem?_eq_none h'] at h1) m hms hbit
          rw [hum] at this; cases this
        · omega
      subst him
      have hset : ∀ j, j < ops.size → (listed.setIfInBounds i true).getD j true = decide (j < i + 1) := fun j hj => by
        by_cases hji : j = i
        · subst hji
          have : j < (listed.setIfInBounds j true).size := by simp; omega
          simp [show j < listed.size from by omega]
        · rw [getD_set_ne true (Ne.symm hji), hli j hj]
          simp; omega
      have hcnt' : (List.range ops.size).countP (fun j => !(listed.setIfInBounds i true).getD j true) ≤ f := by
        have := cntV_on (L := fun j => listed.getD j true) (L' := fun j => (listed.setIfInBounds i true).getD j true) hum (fun j => by
          by_cases hji : j = i
          · subst hji
            have : j < (listed.setIfInBounds j true).size := by simp; omega
            simp [show j < listed.size from by omega]
          · show _ = (listed.getD j true || j == i)
            rw [getD_set_ne true (Ne.symm hji)]; have : (j == i) = false := by simpa using hji
            rw [this, Bool.or_false]) hms
        omega
      have hih : ∀ a' w', wpList C.P ops Qe rest a' w' → wpAny C.P md ops Qe f (listed.setIfInBounds i true) a' w' := fun a' w' h' =>
        ih (i + 1) (by omega) (fun j => by have := hl (j + 1); simpa [Nat.add_assoc, Nat.add_comm 1 j] using this) f _ a' w' (by simpa using hsz) hset hcnt' h'
      unfold wpOp
      rw [ho] at hoi; cases hoi
      simp only [ho]
      unfold wpList at h
      by_cases hw : Region.wanted o (yielded ops a.tmps) = true
      · rw [if_pos hw] at h ⊢
        rcases h with h | h
        · exact .inl (Oper.wp_mono hih h)
        · exact .inr h
      · rw [if_neg hw] at h ⊢
        exact hih _ _ h

theorem wpAny_part (hp : pairV md ops = true) (hb : bitsB md ops B = true) (hd : disB ops cr = true) (ht : tailB ops B nA = true) (hn : nA ≤ ops.size) (s0 : PS) (hk : Chk ops cr B es nA) (hf : ∀ c, cr.contains c = true → Fresh s0 (nm ops c) (nm ops c))
    (hy : ∀ j o, j < nA → ops[j]? = some o → QE C ops cr B j o (putE ops s0 es (fun _ => true) j) (es j))
    (hq : ∀ (fuel : Nat) (listed : Array Bool) (M : Mp) (a : Act) (w : World), listed.size = ops.size → (∀ j, j < ops.size → listed.getD j true = decide (j < nA)) → (List.range ops.size).countP (fun j => !listed.getD j true) ≤ fuel →
      Rel C.w0 C.O0 C.n M (putE ops s0 es (fun _ => true) nA) a w → wpAny C.P md ops Qe fuel listed a w) :
    ∀ (fuel : Nat) (listed : Array Bool) (M : Mp) (a : Act) (w : World), listed.size = ops.size → (∀ j, nA ≤ j → j < ops.size → listed.getD j true = false) → (List.range ops.size).countP (fun j => !listed.getD j true) ≤ fuel →
      (∀ j oj, ops[j]? = some oj → listed.getD j true = true → ∀ e ∈ oj.after, Region.binds md e = true → listed.getD e.on true = true) → Rel C.w0 C.O0 C.n M (putE ops s0 es (fun j => listed.getD j true) nA) a w → wpAny C.P md ops Qe fuel listed a w := by
  have done : ∀ (fuel : Nat) (listed : Array Bool) M a w, listed.size = ops.size → (∀ j, nA ≤ j → j < ops.size → listed.getD j true = false) → (List.range ops.size).countP (fun j => !listed.getD j true) ≤ fuel → (∀ j, j < nA → listed.getD j true = true) →
      Rel C.w0 C.O0 C.n M (putE ops s0 es (fun j => listed.getD j true) nA) a w → wpAny C.P md ops Qe fuel listed a w := fun fuel listed M a w hsz hB hcnt hall hS => by
    rw [putE_congr (L' := fun _ => true) fun j hj => hall j hj] at hS
    refine hq fuel listed M a w hsz (fun j hj => ?_) hcnt hS
    rcases Nat.lt_or_ge j nA with h | h
    · rw [hall j h]; simp [h]
    · rw [hB j h hj]; simp; omega
  intro fuel
  induction fuel with
  | zero =>
    intro listed M a w hsz hB hcnt hcl hS
    refine done 0 listed M a w hsz hB hcnt (fun j hj => ?_) hS
    have := List.countP_eq_zero.1 (Nat.le_zero.1 hcnt) j (by simp; omega)
    simpa using this
  | succ fuel ih =>
    intro listed M a w hsz hB hcnt hcl hS
    by_cases hall : ∀ j, j < nA → listed.getD j true = true
    · exact done _ listed M a w hsz hB hcnt hall hS
    have hex : ∃ j, j < nA ∧ listed.getD j true = false := by
      refine Classical.byContradiction fun hno => hall fun j hj => ?_
      cases h : listed.getD j true with
      | true => rfl
      | false => exact absurd ⟨j, hj, h⟩ hno
    refine ⟨fun hr => ?_, fun i hi => ?_⟩
    · exfalso
      refine hall fun j hj => ?_
      induction j using Nat.strongRecOn with
      | _ j ihj =>
        cases hun : listed.getD j true with
        | true => rfl
        | false =>
          exfalso
          have hmem : j ∈ Region.ready md ops listed := by
            refine mem_ready.2 ⟨hun, ops[j], Array.getElem?_eq_getElem (by omega), fun e he hb' => ?_⟩
            have hlt := pairV_edge hp (Array.getElem?_eq_getElem (by omega)) he hb'
            have hl := ihj e.on hlt (by omega)
            have hin : e.on < listed.size := by omega
            simp [hin] at hl ⊢
            exact hl
          rw [hr] at hmem; cases hmem
    · obtain ⟨hun, o, ho, hdeps⟩ := mem_ready.1 hi
      have hin := listedV_out hsz hun
      have hsame : ∀ j, listed.getD j false = true → listed.getD j true = true := fun j h => by
        rcases Nat.lt_or_ge j listed.size with h' | h'
        · simp [h'] at h ⊢; exact h
        · simp [Array.getElem?_eq_none h'] at h
      have hiA : i < nA := by
        rcases Nat.lt_or_ge i nA with h | h
        · exact h
        · exfalso
          obtain ⟨j, hj, hju⟩ := hex
          simp only [tailB, List.all_eq_true, List.mem_range, Bool.or_eq_true] at ht
          have hbit : Nat.testBit (B.getD i 0) j = true := by
            rcases ht i hin with h1 | h1
            · rw [Nat.blt_eq] at h1; omega
            · exact h1 j (by omega)
          have := bits_in (L := fun j => listed.getD j true) hp hb hcl i o ho (fun e he hb' => hsame _ (hdeps e he hb')) j (by omega) hbit
          rw [hju] at this; cases this
      have hag := agreeN (s0 := s0) hp hb hd hk hf (L := fun j => listed.getD j true) hn hiA ho hun (fun e he hb' => hsame _ (hdeps e he hb')) hcl
      have hL' : ∀ j, (listed.setIfInBounds i true).getD j true = (listed.getD j true || j == i) := fun j => by
        by_cases hji : j = i
        · subst hji
          have : j < (listed.setIfInBounds j true).size := by simp; omega
          simp [show j < listed.size from by omega]
        · rw [getD_set_ne true (Ne.symm hji)]; have : (j == i) = false := by simpa using hji
          rw [this, Bool.or_false]
      have hget : ∀ j, j < ops.size → ∃ oj, ops[j]? = some oj := fun j hj => ⟨ops[j], Array.getElem?_eq_getElem hj⟩
      have hdst : ∀ j, i < j → j < nA → listed.getD j true = true → ∀ d, odst ops i = some d → odst ops j ≠ some d := fun j hmj hj hlj d hd' => by
        obtain ⟨oj, hoj⟩ := hget j (by omega)
        have hap := Oper.apart_spec (pairV_spec hp hmj ho hoj (fun e he hb' heq => by
          have := hcl j oj hoj hlj e he hb'; rw [heq, hun] at this; cases this))
        simp only [odst, ho, hoj, Option.bind_some] at hd' ⊢
        exact hap.2.1 d hd'
      have keyN : ∀ {α : Type} {f : PS → Nat → Option α} {g : Ef → List (Nat × Option α)} (hap : ∀ s o e r, f (PS.ap s o e) r = orE (look (g e) r) (f s r))
          (hg : ∀ j r, j < nA → look (g (es j)) r ≠ none → cr.contains j = true ∧ nm ops j r = true) (r : Nat), f (putE ops s0 es (fun j => (listed.setIfInBounds i true).getD j true) nA) r = f ((putE ops s0 es (fun j => listed.getD j true) nA).ap o.dst (es i)) r := by
        intro α f g hap hg r
        rw [hap]
        cases hx : look (g (es i)) r with
        | some y =>
          exact putE_in hap hx (by show (listed.setIfInBounds i true).getD i true = true; rw [hL']; simp) hiA fun c' h1 h2 => nm_one hd (hg c' r h1 h2).1 (hg i r hiA (by rw [hx]; simp)).1 (hg c' r h1 h2).2 (hg i r hiA (by rw [hx]; simp)).2
        | none =>
          show _ = f (putE ops s0 es (fun j => listed.getD j true) nA) r
          by_cases hc : ∃ c, c < nA ∧ listed.getD c true = true ∧ look (g (es c)) r ≠ none
          · obtain ⟨c, hc1, hc3, hc2⟩ := hc
            obtain ⟨y, hy'⟩ : ∃ y, look (g (es c)) r = some y := by
              cases h : look (g (es c)) r with
              | none => exact absurd h hc2
              | some y => exact ⟨y, rfl⟩
            have hu : ∀ c', c' < nA → look (g (es c')) r ≠ none → c' = c := fun c' h1 h2 => nm_one hd (hg c' r h1 h2).1 (hg c r hc1 hc2).1 (hg c' r h1 h2).2 (hg c r hc1 hc2).2
            rw [putE_in hap hy' (L := fun j => (listed.setIfInBounds i true).getD j true) (by show (listed.setIfInBounds i true).getD c true = true; rw [hL', hc3]; rfl) hc1 hu, putE_in hap hy' (L := fun j => listed.getD j true) hc3 hc1 hu]
          · have h0 : ∀ c, c < nA → listed.getD c true = true → look (g (es c)) r = none := fun c h1 h2 => by
              cases h : look (g (es c)) r with
              | none => rfl
              | some z => exact absurd ⟨c, h1, h2, by rw [h]; simp⟩ hc
            rw [putE_out hap (L := fun j => (listed.setIfInBounds i true).getD j true) (fun c h1 h2 => by
              have h2' : (listed.setIfInBounds i true).getD c true = true := h2
              rw [hL'] at h2'
              simp only [Bool.or_eq_true, beq_iff_eq] at h2'
              rcases h2' with h2' | rfl
              · exact h0 c h1 h2'
              · exact hx), putE_out hap (L := fun j => listed.getD j true) h0]
      have hnext : ∀ M' a' w', Rel C.w0 C.O0 C.n M' ((putE ops s0 es (fun j => listed.getD j true) nA).ap o.dst (es i)) a' w' → wpAny C.P md ops Qe fuel (listed.setIfInBounds i true) a' w' := fun M' a' w' hR => by
        refine ih _ M' a' w' (by simpa using hsz) (fun j h1 h2 => ?_) ?_ ?_ ?_
        · rw [hL', hB j h1 h2]; simp; omega
        · have := cntV_on (L := fun j => listed.getD j true) (L' := fun j => (listed.setIfInBounds i true).getD j true) hun hL' hin
          omega
        · intro j oj hoj hlj e he hb'
          rw [hL'] at hlj ⊢
          simp only [Bool.or_eq_true, beq_iff_eq] at hlj ⊢
          rcases hlj with hlj | rfl
          · exact .inl (hcl j oj hoj hlj e he hb')
          · rw [ho] at hoj; cases hoj
            exact .inl (hsame _ (hdeps e he hb'))
        · refine hR.same (fun x => ?_) (keyN (f := PS.r) (g := Ef.rows) PS.r_ap (fun j r hj hl => hk.row hj hl)) (keyN (f := PS.b) (g := Ef.boxes) PS.b_ap (fun j r hj hl => hk.box hj hl))
          rw [putE_t, PS.t_ap, putS_on (ops := ops) (s := s0) (ds := fun j => (es j).d) (L := fun j => listed.getD j true) hiA hun hL' (fun j h1 h2 h3 => hdst j h1 h2 h3) x, PS.t_put, PS.t_put, putE_t]
          simp [odst, ho]
      unfold wpOp
      simp only [ho]
      rcases (hy i o hiA ho).out _ M a w hag hS with ⟨h1, h2⟩ | ⟨h1, h2, h3⟩
      · rw [if_pos h1]
        exact .inl (h2.out M a w Qe _ hS fun M' s' a' w' he hR => hnext M' a' w' (by rw [← he]; exact hR))
      · rw [if_neg (by rw [h1]; simp)]
        refine hnext M _ w ?_
        rw [h2]
        refine (hS.put h3 (.tup [] #[] rfl (by simp))).same (fun x => by rw [PS.t_ap]) (fun r => ?_) (fun r => ?_)
        · rw [PS.r_ap]; cases o.dst <;> rfl
        · rw [PS.b_ap]; cases o.dst <;> rfl
end
end Go.Proofs.Ytlmlfbjcpajinaa

/-! ## Vxb -/
namespace Go.Proofs.Ytlmlfbjcpajinaa
open Go.RowKit Go.Deep
set_option linter.unusedSimpArgs false
set_option linter.unusedVariables false

theorem ment_hit {H : Nat → Bool} {d : D} (h : ment H H d = false) {r : Nat} : (ment noB (fun y => Nat.beq r y) d = true → H r = false) ∧ (ment (fun y => Nat.beq r y) noB d = true → H r = false) := by
  refine ⟨fun hm => ?_, fun hm => ?_⟩
  · cases hr : H r with
    | false => rfl
    | true =>
      rw [ment_le (b' := H) (r' := H) (fun x hx => by cases hx) (fun x hx => by rw [← Nat.eq_of_beq_eq_true hx]; exact hr) d h] at hm; cases hm
  · cases hr : H r with
    | false => rfl
    | true =>
      rw [ment_le (b' := H) (r' := H) (fun x hx => by rw [← Nat.eq_of_beq_eq_true hx]; exact hr) (fun x hx => by cases hx) d h] at hm; cases hm
section
variable {s s1 : PS}
/-- the rows and boxes that a datum names are the same -/
structure Same (s s1 : PS) (d : D) : Prop where
  r : ∀ r, ment noB (fun y => Nat.beq r y) d = true → s1.r r = s.r r
  b : ∀ r, ment (fun y => Nat.beq r y) noB d = true → s1.b r = s.b r
theorem Same.row {r o m : Nat} (h : Same s s1 (.row r o m)) : s1.r r = s.r r := h.r r (by simp [ment, mentA, mentS, Nat.beq_refl])
theorem Same.eptr {r o : Nat} {i : Int} (h : Same s s1 (.eptr r i o)) : s1.r r = s.r r := h.r r (by simp [ment, mentA, mentS, Nat.beq_refl])
theorem Same.ptr {r o : Nat} (h : Same s s1 (.ptr r o)) : s1.b r = s.b r := h.b r (by simp [ment, mentA, mentS, Nat.beq_refl])
theorem ptrCells_congrN {d : D} (h : Same s s1 d) : ptrCells s1 d = ptrCells s d := by
  cases d <;> simp only [ptrCells]
  · rw [h.ptr]
  · rw [h.eptr]
/-- the operands whose rows and boxes an operation looks into -/
def opsL : Op → List Operand
  | .load _ x => [x] | .fieldAddr _ x _ => [x] | .indexAddr _ x _ => [x] | .slice _ x _ _ _ => [x] | .call c => c.args.toList | _ => []
theorem evalV_congrN {TT : List (Nat × Ty)} {op : Op} (he : ∀ x ∈ op.operands, s1.ev x = s.ev x) (hs : ∀ x ∈ opsL op, Same s s1 (s.ev x)) : evalV TT s1 op = evalV TT s op := by
  cases op <;> simp only [Op.operands] at he <;> simp only [opsL] at hs <;> try rfl
  case move x => simp only [evalV]; rw [he x (by simp)]
  case assign x => simp only [evalV]; rw [he x (by simp)]
  case pick c x y => simp only [evalV]; rw [he c (by simp), he x (by simp), he y (by simp)]
  case load t x => simp only [evalV]; rw [he x (by simp), ptrCells_congrN (hs x (by simp))]
  case binOp op t x y u => simp only [evalV]; rw [he x (by simp), he y (by simp)]
  case unOp op t x => cases op <;> simp only [evalV] <;> rw [he x (by simp)]
  case slice t x lo hi mx =>
    cases mx with
    | some m => rfl
    | none =>
      have h1 : optI s1 lo = optI s lo := by cases lo with | none => rfl | some y => simp only [optI]; rw [he y (by simp)]
      have h2 : optI s1 hi = optI s hi := by cases hi with | none => rfl | some y => simp only [optI]; rw [he y (by simp)]
      have h3 := hs x (by simp)
      simp only [evalV, h1, h2]
      rw [he x (by simp)]
      generalize s.ev x = d at h3
      cases d <;> first | rfl | simp only [h3.row] | (rename_i r off n; cases off <;> first | rfl | simp only [h3.row])
  case fieldAddr t x f =>
    have h3 := hs x (by simp)
    simp only [evalV]
    rw [he x (by simp)]
    generalize s.ev x = d at h3
    cases d <;> first | rfl | simp only [h3.ptr] | simp only [h3.eptr]
  case indexAddr t x y =>
    have h3 := hs x (by simp)
    simp only [evalV]
    rw [he x (by simp), he y (by simp)]
    generalize s.ev x = d at h3
    generalize s.ev y = e
    cases d
    case row r off n => cases off <;> cases e <;> first | rfl | simp only [h3.row]
    all_goals (cases e <;> rfl)
  case extract x i => simp only [evalV]; rw [he x (by simp)]
  case call c =>
    obtain ⟨callee, args, ts⟩ := c
    simp only [evalV]
    have ha : ∀ x ∈ args.toList, s1.ev x = s.ev x := fun x hx => he x (by simp only [Call.operands]; exact Array.mem_append.2 (.inr (by simpa using hx)))
    have hb : ∀ x ∈ args.toList, Same s s1 (s.ev x) := hs
    generalize args.toList = l at ha hb
    split
    · rename_i x t _
      have h3 := hb x (by simp)
      rw [ha x (by simp)]
      generalize s.ev x = d at h3
      cases d <;> first | rfl | simp only [h3.row] | (rename_i r off n; cases off <;> first | rfl | simp only [h3.row])
    · rw [ha _ (by simp), ha _ (by simp)]
    · rw [ha _ (by simp), ha _ (by simp)]
    · rfl
theorem fitS_congrN {d d' : D} (h : ∀ r o m, d = .row r o m → s1.r r = s.r r) : fitS s1 d d' = fitS s d d' := by
  cases d with
  | row r off m => cases off <;> cases d' <;> simp only [fitS] <;> rw [h _ _ _ rfl]
  | _ => cases d' <;> rfl
theorem fitL_congrN : ∀ (l l' : List D), (∀ d ∈ l, ∀ r o m, d = .row r o m → s1.r r = s.r r) → fitL s1 l l' = fitL s l l'
  | [], [], _ => rfl
  | x :: l, y :: l', h => by simp only [fitL]; rw [fitS_congrN (h x (by simp)), fitL_congrN l l' fun d hd => h d (by simp [hd])]
  | [], _ :: _, _ => rfl
  | _ :: _, [], _ => rfl
theorem fit_congrN {d d' : D} (h : Same s s1 d) : fit s1 d d' = fit s d d' := by
  cases d with
  | agg l =>
    cases d' with
    | agg m =>
      refine fitL_congrN l m fun d hd r o m hr => h.r r ?_
      subst hr
      simp only [ment, mentA, List.any_eq_true]
      exact ⟨_, hd, by simp [mentS, Nat.beq_refl]⟩
    | _ => rfl
  | row r o m => cases d' <;> (simp only [fit]; exact fitS_congrN fun r' o' m' hr => by cases hr; exact h.row)
  | _ => cases d' <;> (simp only [fit]; exact fitS_congrN fun r' o' m' hr => by cases hr)
theorem fits_congrN : ∀ (xs : List Operand) (ds : List D), (∀ x ∈ xs, s1.ev x = s.ev x) → (∀ x ∈ xs, Same s s1 (s.ev x)) → fits s1 xs ds = fits s xs ds
  | [], [], _, _ => rfl
  | x :: xs, d :: ds, h, h2 => by simp only [fits]; rw [h x (by simp), fit_congrN (h2 x (by simp)), fits_congrN xs ds (fun y hy => h y (by simp [hy])) (fun y hy => h2 y (by simp [hy]))]
  | [], _ :: _, _, _ => rfl
  | _ :: _, [], _, _ => rfl
theorem partsD_congrN : ∀ (l : List (Nat × Operand)) (i : Nat), (∀ p ∈ l, s1.ev p.2 = s.ev p.2) → partsD s1 i l = partsD s i l
  | [], _, _ => rfl
  | (j, x) :: l, i, h => by simp only [partsD]; rw [h (j, x) (by simp), partsD_congrN l (i + 1) fun p hp => h p (by simp [hp])]
end
end Go.Proofs.Ytlmlfbjcpajinaa

/-! ## Vxc -/
namespace Go.Proofs.Ytlmlfbjcpajinaa
open Go.RowKit Go.Deep
set_option linter.unusedSimpArgs false
set_option linter.unusedVariables false
section
variable {C : Cx} {ops : Array Oper} {TT : List (Nat × Ty)} {cr B : List Nat} {j : Nat} {o : Oper} {K : PS → Prop} {rest : List Oper} {tm : List (Nat × D)} {rw' : List (Nat × Option (TypeId × Sq))} {bx : List (Nat × Option (List D))} {s s1 : PS}
theorem AgreeN.ev (h : AgreeN ops cr B j o s s1) (x : Operand) (hx : x ∈ o.op.operands) : s1.ev x = s.ev x := by
  cases x with
  | tmp t => exact h.t t (List.mem_append_left _ (List.mem_filterMap.2 ⟨.tmp t, by simpa using hx, rfl⟩))
  | _ => rfl
def visB (ops : Array Oper) (cr B : List Nat) (j : Nat) (s : PS) (l : List Operand) : Bool := match cr with
  | [] => true
  | c :: cr' => l.all fun x => !ment (hid ops (c :: cr') B j) (hid ops (c :: cr') B j) (s.ev x)
theorem AgreeN.same (h : AgreeN ops cr B j o s s1) {l : List Operand} (hv : visB ops cr B j s l = true) : ∀ x ∈ l, Same s s1 (s.ev x) := fun x hx => by
  cases cr with
  | nil => exact ⟨fun r _ => h.r r rfl, fun r _ => h.b r rfl⟩
  | cons c cr' =>
    simp only [visB, List.all_eq_true] at hv
    have := hv x hx
    have hm : ment (hid ops (c :: cr') B j) (hid ops (c :: cr') B j) (s.ev x) = false := by simpa using this
    exact ⟨fun r hr => h.r r ((ment_hit hm).1 hr), fun r hr => h.b r ((ment_hit hm).2 hr)⟩
theorem Wanted.okN (h : Wanted C ops o s) {M : Mp} {a : Act} {w : World} (hag : AgreeN ops cr B j o s s1) (hr : Rel C.w0 C.O0 C.n M s1 a w) : Region.wanted o (yielded ops a.tmps) = true := by
  rcases h with hg | ⟨j, want, t, b, hg, hd, ht, hs, hb⟩
  · simp [Region.wanted, hg]
  · have h1 : s1.t t = .bool b := by rw [hag.t t (looksAt_guard hg hd)]; exact hs
    simp [Region.wanted, hg, yield_of hr hd h1 ht, hb]
theorem nStep {e : Ef} (hw : Wanted C ops o s) (hc : chkE ops cr B j e = true) (h : ∀ s1, AgreeN ops cr B j o s s1 → Step C o s1 (fun s' => s' = s1.ap o.dst e)) (hr : QN C ops cr B K (j + 1) rest (s.ap o.dst e)) : QN C ops cr B K j (o :: rest) s :=
  ⟨e, ⟨fun s1 M a w hag hrl => .inl ⟨hw.okN hag hrl, h s1 hag⟩⟩, hc, hr⟩
theorem nNil (h : K s) : QN C ops cr B K j [] s := h
theorem nVal (hT : TTOK C.P TT) (hi : isV o.op = true) (hw : Wanted C ops o ⟨tm, rw', bx⟩) {t : Nat} (hd : o.dst = some t) (hn : Nat.blt t C.n = true) {ob : Prop} {d : D} (hv : evalF TT ⟨tm, rw', bx⟩ o.op = some (ob, d)) (hvis : visB ops cr B j ⟨tm, rw', bx⟩ (opsL o.op) = true)
    (hc : chkE ops cr B j ⟨d, [], []⟩ = true) (hob : ob) (h : QN C ops cr B K (j + 1) rest ⟨(t, d) :: tm, rw', bx⟩) : QN C ops cr B K j (o :: rest) ⟨tm, rw', bx⟩ :=
  nStep (e := ⟨d, [], []⟩) hw hc (fun s1 hag => sVal hT (by rw [evalV_congrN (fun x hx => hag.ev x hx) (hag.same hvis)]; exact evalF_ok hv) (by rw [hd]; exact hn) hob (by rw [hd]; rfl)) (by rw [hd]; exact h)
theorem nNo {i y : Nat} {want b : Bool} (hg : o.guard = some (i, want)) (hgd : gdst ops i = some y) (hy : Nat.blt y C.n = true) (hs : (PS.t ⟨tm, rw', bx⟩ y) = .bool b) (hb : b = !want) {t : Nat} (hd : o.dst = some t) (hn : Nat.blt t C.n = true) (h : QN C ops cr B K (j + 1) rest ⟨(t, .tup []) :: tm, rw', bx⟩) : QN C ops cr B K j (o :: rest) ⟨tm, rw', bx⟩ :=
  ⟨⟨.tup [], [], []⟩, ⟨fun s1 M a w hag hr => .inr ⟨by
    have h1 : s1.t y = .bool b := by rw [hag.t y (looksAt_guard hg hgd)]; exact hs
    simp [Region.wanted, hg, yield_of hr hgd h1 hy, hb], rfl, by rw [hd]; exact hn⟩⟩, rfl, by rw [hd]; exact h⟩
theorem nNoT {i y : Nat} {b : Bool} (hg : o.guard = some (i, true)) (hgd : gdst ops i = some y) (hy : Nat.blt y C.n = true) (hs : (PS.t ⟨tm, rw', bx⟩ y) = .bool b) (hb : b = false) {t : Nat} (hd : o.dst = some t) (hn : Nat.blt t C.n = true) (h : QN C ops cr B K (j + 1) rest ⟨(t, .tup []) :: tm, rw', bx⟩) : QN C ops cr B K j (o :: rest) ⟨tm, rw', bx⟩ := nNo hg hgd hy hs hb hd hn h
theorem nNoF {i y : Nat} {b : Bool} (hg : o.guard = some (i, false)) (hgd : gdst ops i = some y) (hy : Nat.blt y C.n = true) (hs : (PS.t ⟨tm, rw', bx⟩ y) = .bool b) (hb : b = true) {t : Nat} (hd : o.dst = some t) (hn : Nat.blt t C.n = true) (h : QN C ops cr B K (j + 1) rest ⟨(t, .tup []) :: tm, rw', bx⟩) : QN C ops cr B K j (o :: rest) ⟨tm, rw', bx⟩ := nNo hg hgd hy hs hb hd hn h
theorem nNoU {i y : Nat} {want : Bool} (hg : o.guard = some (i, want)) (hgd : gdst ops i = some y) (hs : (PS.t ⟨tm, rw', bx⟩ y) = .tup []) {t : Nat} (hd : o.dst = some t) (hn : Nat.blt t C.n = true) (h : QN C ops cr B K (j + 1) rest ⟨(t, .tup []) :: tm, rw', bx⟩) : QN C ops cr B K j (o :: rest) ⟨tm, rw', bx⟩ :=
  ⟨⟨.tup [], [], []⟩, ⟨fun s1 M a w hag hr => .inr ⟨by
    have h1 := hr.tmp y
    rw [hag.t y (looksAt_guard hg hgd), hs] at h1
    obtain ⟨us, h2, h3, _⟩ := h1.tup_inv
    have h5 : (ops[i]?).bind (·.dst) = some y := by
      have hd' := hgd
      unfold gdst at hd'
      rw [Array.getElem?_toList] at hd'
      cases h : ops[i]? with
      | none => rw [h] at hd'; cases hd'
      | some o => rw [h] at hd'; exact hd'
    have hy : yielded ops a.tmps i = none := by
      simp only [yielded, h5, Option.bind_some]
      cases h6 : a.tmps[y]? with
      | none => rfl
      | some v =>
        have : v = .tuple us := by simpa [h6] using h2
        subst this; rfl
    simp [Region.wanted, hg, hy], rfl, by rw [hd]; exact hn⟩⟩, rfl, by rw [hd]; exact h⟩
theorem nPickT {c x y : Operand} {b : Bool} (hop : o.op = .pick c x y) (hw : Wanted C ops o ⟨tm, rw', bx⟩) (hc : (PS.ev ⟨tm, rw', bx⟩ c) = .bool b) {t : Nat} (hd : o.dst = some t) (hn : Nat.blt t C.n = true) {d : D} (hb : b = true) (hx : (fcD (PS.ev ⟨tm, rw', bx⟩ x) some) = some d) (hck : chkE ops cr B j ⟨d, [], []⟩ = true)
    (h : QN C ops cr B K (j + 1) rest ⟨(t, d) :: tm, rw', bx⟩) : QN C ops cr B K j (o :: rest) ⟨tm, rw', bx⟩ := by
  rw [fcD_eq] at hx
  cases hx
  refine nStep (e := ⟨_, [], []⟩) hw hck (fun s1 hag => ?_) (by rw [hd]; exact h)
  have e : ∀ z ∈ [c, x, y], s1.ev z = (PS.ev ⟨tm, rw', bx⟩ z) := fun z hz => hag.ev z (by rw [hop]; simpa [Op.operands] using hz)
  exact sPick hop (by rw [e c (by simp)]; exact hc) (by rw [hd]; exact hn) (.inl ⟨hb, (e x (by simp)).symm⟩) (by rw [hd]; rfl)
theorem nPickF {c x y : Operand} {b : Bool} (hop : o.op = .pick c x y) (hw : Wanted C ops o ⟨tm, rw', bx⟩) (hc : (PS.ev ⟨tm, rw', bx⟩ c) = .bool b) {t : Nat} (hd : o.dst = some t) (hn : Nat.blt t C.n = true) {d : D} (hb : b = false) (hx : (fcD (PS.ev ⟨tm, rw', bx⟩ y) some) = some d) (hck : chkE ops cr B j ⟨d, [], []⟩ = true)
    (h : QN C ops cr B K (j + 1) rest ⟨(t, d) :: tm, rw', bx⟩) : QN C ops cr B K j (o :: rest) ⟨tm, rw', bx⟩ := by
  rw [fcD_eq] at hx
  cases hx
  refine nStep (e := ⟨_, [], []⟩) hw hck (fun s1 hag => ?_) (by rw [hd]; exact h)
  have e : ∀ z ∈ [c, x, y], s1.ev z = (PS.ev ⟨tm, rw', bx⟩ z) := fun z hz => hag.ev z (by rw [hop]; simpa [Op.operands] using hz)
  exact sPick hop (by rw [e c (by simp)]; exact hc) (by rw [hd]; exact hn) (.inr ⟨hb, (e y (by simp)).symm⟩) (by rw [hd]; rfl)
theorem AgreeN.fits {f : FuncId} {args : Array Operand} {ts : Array TypeId} {ds : List D} (hag : AgreeN ops cr B j o s s1) (hop : o.op = .call { callee := .value (.func f), args := args, argTypes := ts }) (hvis : visB ops cr B j s args.toList = true) (hfit : fits s args.toList ds) : Ytlmlfbjcpajinaa.fits s1 args.toList ds := by
  rw [fits_congrN _ _ (fun x hx => hag.ev x (by rw [hop]; simp only [Op.operands, Call.operands]; exact Array.mem_append.2 (.inr (by simpa using hx)))) (hag.same hvis)]
  exact hfit
theorem nCall {f : FuncId} {args : Array Operand} {ts : Array TypeId} {ds : List D} {d d' : D} (hp : PCall C.P f ds [] d) (hop : o.op = .call { callee := .value (.func f), args := args, argTypes := ts }) (hw : Wanted C ops o ⟨tm, rw', bx⟩) {b : Nat} (hd : o.dst = some b) (hn : Nat.blt b C.n = true)
    (hno : (ds.all noIds) = true) (hm : noIds d = true) (hre : ren id (fun j => 0 + j) d = d) (hx : (fcD d some) = some d') (hvis : visB ops cr B j ⟨tm, rw', bx⟩ args.toList = true) (hck : chkE ops cr B j ⟨d', [], []⟩ = true) (hfit : fits ⟨tm, rw', bx⟩ args.toList ds) (h : QN C ops cr B K (j + 1) rest ⟨(b, d') :: tm, rw', bx⟩) :
    QN C ops cr B K j (o :: rest) ⟨tm, rw', bx⟩ := by
  rw [fcD_eq] at hx
  cases hx
  exact nStep (e := ⟨_, [], []⟩) hw hck (fun s1 hag => sCall0 hop hp (by rw [hd]; exact hn) (hag.fits hop hvis hfit) hno hm hre (by rw [hd]; rfl)) (by rw [hd]; exact h)
theorem fresh_sub {p b r : Nat → Bool} (h : Fresh s p p) (hb : ∀ x, b x = true → p x = true) (hr : ∀ x, r x = true → p x = true) : Fresh s b r :=
  ⟨fun x => ment_le hb hr _ (h.t x), fun x cs hx d hd => mentS_le hb hr _ (h.b x cs hx d hd)⟩
theorem nCallR {f : FuncId} {args : Array Operand} {ts : Array TypeId} {ds : List D} {rows : List (TypeId × Sq)} {d d' : D} {nr : List (Nat × Option (TypeId × Sq))} (hp : PCall C.P f ds rows d) (hop : o.op = .call { callee := .value (.func f), args := args, argTypes := ts }) (hw : Wanted C ops o ⟨tm, rw', bx⟩) {b : Nat} (hd : o.dst = some b) (hn : Nat.blt b C.n = true)
    (hno : (ds.all noIds) = true) (hm : ment (fun _ => true) (fun r => (look (nrL (rowB b) rows) r).isNone) (ren id (fun j => rowB b + j) d) = false) (hx : (fcD (ren id (fun j => rowB b + j) d) some) = some d') (hnr : nrL (rowB b) rows = nr) (hcr : cr.contains j = true) (hvis : visB ops cr B j ⟨tm, rw', bx⟩ args.toList = true)
    (hck : chkE ops cr B j ⟨d', nr, []⟩ = true) (hfit : fits ⟨tm, rw', bx⟩ args.toList ds) (h : QN C ops cr B K (j + 1) rest ⟨(b, d') :: tm, nr ++ rw', bx⟩) : QN C ops cr B K j (o :: rest) ⟨tm, rw', bx⟩ := by
  rw [fcD_eq] at hx
  cases hx
  cases hnr
  refine nStep (e := ⟨_, _, []⟩) hw hck (fun s1 hag => sCall hop hp (by rw [hd]; exact hn) (hag.fits hop hvis hfit) hno ?_ (by rw [hd]; exact hm) (by rw [hd]; rfl)) (by rw [hd]; exact h)
  rw [hd]
  refine fresh_sub (hag.fr hcr) (fun x hx => by cases hx) fun x hx => ?_
  simp only [chkE, Bool.and_eq_true, List.all_eq_true] at hck
  cases hl : look (nrL (rowB b) rows) x with
  | none => have hx' : (look (nrL (rowB b) rows) x).isSome = true := hx
            rw [hl] at hx'; cases hx'
  | some y => exact (hck.1.1 _ (look_mem hl)).2
theorem nAlloc (hT : TTOK C.P TT) (hw : Wanted C ops o ⟨tm, rw', bx⟩) {t : TypeId} {b : Nat} {y : Ty} {cs : List D} (hop : o.op = .alloc t) (hd : o.dst = some b) (hy : look TT t = some y) (hcs : (fcL (zeroD y).cells some) = some cs) (hn : Nat.blt b C.n = true) (hcr : cr.contains j = true) (hnm : nm ops j b = true)
    (hfl : (zeroD y).flat = true) (hm : (cs.all fun d => !mentS (fun y => Nat.beq y b) noB d) = true) (hck : chkE ops cr B j ⟨.ptr b 0, [], [(b, some cs)]⟩ = true) (h : QN C ops cr B K (j + 1) rest ⟨(b, .ptr b 0) :: tm, rw', (b, some cs) :: bx⟩) : QN C ops cr B K j (o :: rest) ⟨tm, rw', bx⟩ := by
  rw [fcL_eq] at hcs
  cases hcs
  exact nStep (e := ⟨.ptr b 0, [], [(b, some _)]⟩) hw hck (fun s1 hag => sAlloc hT hop hd hy hn (fresh_sub (hag.fr hcr) (fun x hx => by rw [Nat.eq_of_beq_eq_true hx]; exact hnm) (fun x hx => by cases hx)) hfl hm (by rw [hd]; rfl)) (by rw [hd]; exact h)
theorem nBox (hw : Wanted C ops o ⟨tm, rw', bx⟩) {t : TypeId} {x : Operand} {b : Nat} {d : D} {cs : List D} (hop : o.op = .box t x) (hd : o.dst = some b) (hx : (fcD (PS.ev ⟨tm, rw', bx⟩ x) some) = some d) (hfl : d.flat = true) (hcs : (fcL d.cells some) = some cs) (hn : Nat.blt b C.n = true) (hcr : cr.contains j = true) (hnm : nm ops j b = true)
    (hm : (cs.all fun d => !mentS (fun y => Nat.beq y b) noB d) = true) (hck : chkE ops cr B j ⟨.ptr b 0, [], [(b, some cs)]⟩ = true) (h : QN C ops cr B K (j + 1) rest ⟨(b, .ptr b 0) :: tm, rw', (b, some cs) :: bx⟩) : QN C ops cr B K j (o :: rest) ⟨tm, rw', bx⟩ := by
  rw [fcD_eq] at hx
  rw [fcL_eq] at hcs
  cases hx
  cases hcs
  refine nStep (e := ⟨.ptr b 0, [], [(b, some _)]⟩) hw hck (fun s1 hag => ?_) (by rw [hd]; exact h)
  have e := hag.ev x (by rw [hop]; simp [Op.operands])
  exact sBox hop hd e hfl hn (fresh_sub (hag.fr hcr) (fun x hx => by rw [Nat.eq_of_beq_eq_true hx]; exact hnm) (fun x hx => by cases hx)) hm (by rw [hd]; rfl)
theorem nBuild (hT : TTOK C.P TT) (hw : Wanted C ops o ⟨tm, rw', bx⟩) {t e : TypeId} {k q q' : Sq} {by' m b : Nat} {parts : Array (Nat × Operand)} {ds : List D} (hop : o.op = .buildSlice t m parts) (hd : o.dst = some b) (hy : look TT t = some (.sl e k by')) (hp : partsD ⟨tm, rw', bx⟩ 0 parts.toList = some ds)
    (hm : Nat.beq ds.length m = true) (hq : k.ofL ds = some q) (hbig : Nat.ble (m * k.sz) 16777216 = true) (hn : Nat.blt b C.n = true) (hcr : cr.contains j = true) (hnm : nm ops j b = true) (hq' : fcQ q some = some q') (hck : chkE ops cr B j ⟨.row b 0 m, [(b, some (e, q'))], []⟩ = true)
    (h : QN C ops cr B K (j + 1) rest ⟨(b, .row b 0 m) :: tm, (b, some (e, q')) :: rw', bx⟩) : QN C ops cr B K j (o :: rest) ⟨tm, rw', bx⟩ := by
  rw [fcQ_eq] at hq'
  cases hq'
  refine nStep (e := ⟨.row b 0 m, [(b, some (e, _))], []⟩) hw hck (fun s1 hag => ?_) (by rw [hd]; exact h)
  refine sBuildSlice hT hop hd hy ?_ hm hq hbig hn (fresh_sub (hag.fr hcr) (fun x hx => by cases hx) (fun x hx => by rw [← Nat.eq_of_beq_eq_true hx]; exact hnm)) (by rw [hd]; rfl)
  rw [partsD_congrN _ _ fun p hp => hag.ev p.2 (by rw [hop]; simp only [Op.operands]; exact List.mem_toArray.2 (List.mem_map.2 ⟨p, hp, rfl⟩))]
  exact hp
theorem nSplit {i y : Nat} {want b : Bool} (hg : o.guard = some (i, want)) (hgd : gdst ops i = some y) (hs : (PS.t ⟨tm, rw', bx⟩ y) = .bool b) (h1 : b = true → QN C ops cr B K j (o :: rest) ⟨tm, rw', bx⟩) (h2 : b = false → QN C ops cr B K j (o :: rest) ⟨tm, rw', bx⟩) : QN C ops cr B K j (o :: rest) ⟨tm, rw', bx⟩ := by
  cases b
  · exact h2 rfl
  · exact h1 rfl

theorem qn_values {nA : Nat} : ∀ (l : List Oper) (k : Nat) (s0 : PS) (us : Nat → Ef), k + l.length = nA → (∀ j : Nat, j < l.length → l[j]? = ops[k + j]?) → QN C ops cr B K k l (putE ops s0 us (fun _ => true) k) →
    ∃ es : Nat → Ef, (∀ j, j < k → es j = us j) ∧ (∀ j o, k ≤ j → j < nA → ops[j]? = some o → QE C ops cr B j o (putE ops s0 es (fun _ => true) j) (es j)) ∧ (∀ j, k ≤ j → j < nA → chkE ops cr B j (es j) = true) ∧ K (putE ops s0 es (fun _ => true) nA)
  | [], k, s0, us, hn, hl, h => ⟨us, fun _ _ => rfl, fun j o h1 h2 => absurd h2 (by simp at hn; omega), fun j h1 h2 => absurd h2 (by simp at hn; omega), by simp at hn; subst hn; exact h⟩
  | o :: rest, k, s0, us, hn, hl, h => by
    obtain ⟨v, hy, hck, hr⟩ := h
    have ho : ops[k]? = some o := by simpa using (hl 0 (by simp)).symm
    let us' : Nat → Ef := fun j => if j = k then v else us j
    have hsame : ∀ m, m ≤ k → putE ops s0 us' (fun _ => true) m = putE ops s0 us (fun _ => true) m := by
      intro m
      induction m with
      | zero => intro _; rfl
      | succ m ih => intro hm; simp only [putE, if_true]; rw [ih (by omega)]; simp only [us', show m ≠ k from by omega, if_false]
    have hnext : putE ops s0 us' (fun _ => true) (k + 1) = (putE ops s0 us (fun _ => true) k).ap o.dst v := by
      simp only [putE, if_true]; rw [hsame k (Nat.le_refl _)]; simp [us', odst, ho]
    obtain ⟨vs, h1, h2, h4, h3⟩ := qn_values (nA := nA) rest (k + 1) s0 us' (by simp at hn; omega) (fun j hj => by have := hl (j + 1) (by simp; omega); simpa [Nat.add_assoc, Nat.add_comm 1 j] using this) (by rw [hnext]; exact hr)
    have hvs : ∀ m, m ≤ k + 1 → putE ops s0 vs (fun _ => true) m = putE ops s0 us' (fun _ => true) m := by
      intro m
      induction m with
      | zero => intro _; rfl
      | succ m ih => intro hm; simp only [putE, if_true]; rw [ih (by omega), h1 m (by omega)]
    have hvk : vs k = v := by rw [h1 k (by omega)]; simp [us']
    refine ⟨vs, fun j hj => ?_, fun j o' hj hjn ho' => ?_, fun j hj hjn => ?_, h3⟩
    · rw [h1 j (by omega)]; simp only [us', show j ≠ k from by omega, if_false]
    · rcases Nat.lt_or_ge k j with hlt | hge
      · exact h2 j o' hlt hjn ho'
      · have hjk : j = k := by omega
        subst hjk
        rw [ho] at ho'; cases ho'
        rw [hvs j (by omega), hsame j (Nat.le_refl _), hvk]
        exact hy
    · rcases Nat.lt_or_ge k j with hlt | hge
      · exact h4 j hlt hjn
      · have hjk : j = k := by omega
        subst hjk
        rw [hvk]; exact hck

theorem Rel.drew {w0 : World} {O0 : Nat → Prop} {n : Nat} {M : Mp} {s : PS} {a : Act} {w : World} (hr : Rel w0 O0 n M s a w) : Rel w0 O0 n M s a { w with drawn := w.drawn + 1 } :=
  hr.later rfl rfl rfl (Nat.le_refl _) fun _ _ => rfl

/-- **A region that draws its order**: its first nA operations in the order of the text, as long as what they make is named apart; then its tail, each operation of which waits for all before it. -/
theorem vRegionN {id : Nat} {l : List Oper} {Q : Exit → PS → Prop} (nA : Nat) (cr B : List Nat) (hm : C.P.follows .mixedOrders = true) (hp : pairV .any l.toArray = true) (hb : bitsB .any l.toArray B = true) (hd : disB l.toArray cr = true) (ht : tailB l.toArray B nA = true) (hn : Nat.ble nA l.length = true)
    (hf : (cr.all fun c => frB s (nm l.toArray c) (nm l.toArray c)) = true) (h : QN C l.toArray cr B (VO C l.toArray (Q .normal) (l.drop nA)) 0 (l.take nA) s) : VC C (.region id l.toArray true) Q s := by
  refine ⟨fun M a w hr => wp_region_any hm ?_⟩
  have hn' := Nat.le_of_ble_eq_true hn
  obtain ⟨es, _, h2, h4, h3⟩ := qn_values (C := C) (ops := l.toArray) (nA := nA) (l.take nA) 0 s (fun _ => ⟨.dead, [], []⟩) (by simp; omega) (fun j hj => by
    have h1 : j < nA := by have := List.length_take_le nA l; omega
    simp [List.getElem?_take, h1]) h
  refine wpAny_part (C := C) (md := .any) (es := es) hp hb hd ht (by simpa using hn') s ⟨fun j hj => h4 j (Nat.zero_le _) hj⟩ (fun c hc => ?_) (fun j o hj ho => h2 j o (Nat.zero_le _) hj ho) (fun fuel listed M a w hsz hli hcnt hR => ?_) l.toArray.size _ M a _ (by simp) (fun j h1 h2 => ?_)
    (Nat.le_trans (List.countP_le_length) (by simp)) (fun j oj hoj hl => ?_) ?_
  · simp only [List.all_eq_true] at hf
    exact frB_ok (hf c (by simpa using hc))
  · exact wpAny_of_list hp hb ht (l.drop nA) nA (Nat.le_refl _) (fun j => by simp) fuel listed a w hsz hli hcnt (h3.out M a w _ hR fun M' s' a' w' hk hR' => ⟨s', M', hk, hR'⟩)
  · simp only [List.size_toArray] at h2
    simp [h2]
  · have := (Array.getElem?_eq_some_iff.1 hoj).1
    simp only [List.size_toArray] at this
    simp [this] at hl
  · rw [putE_congr (L' := fun _ => false) fun j hj => by have : j < l.length := by omega
                                                         simp [this]]
    have h0 : ∀ k, putE l.toArray s es (fun _ => false) k = s := by
      intro k; induction k with
      | zero => rfl
      | succ k ih => simp [putE, ih]
    rw [h0]
    exact hr.drew
end
end Go.Proofs.Ytlmlfbjcpajinaa

/-! ## Vue -/
namespace Go.Proofs.Ytlmlfbjcpajinaa
open Go.RowKit Go.Deep
set_option linter.unusedSimpArgs false
set_option linter.unusedVariables false
section
variable {C : Cx} {ops : Array Oper} {K : PS → Prop} {o : Oper} {rest : List Oper} {s : PS} {tm : List (Nat × D)} {rw' : List (Nat × Option (TypeId × Sq))} {bx : List (Nat × Option (List D))}
theorem sEqB {op : BinOp} {t u : TypeId} {x y : Operand} {a b r : Bool} (hu : C.P.underlying t = some .bool) (hop : o.op = .binOp op t x y u) (hx : s.ev x = .bool a) (hy : s.ev y = .bool b) (ho : dstOk C.n o.dst = true) (hr : (op = .eql ∧ r = (a == b)) ∨ (op = .neq ∧ r = (a != b))) (h : K (s.put o.dst (.bool r))) : Step C o s K :=
  sRun (fun M ac w hr' => by
    have h1 := hr'.ev x
    have h2 := hr'.ev y
    rw [hx] at h1
    rw [hy] at h2
    have e1 := h1.bool_inv
    have e2 := h2.bool_inv
    have he := run_equalIn_bool w (P := C.P) 9999 t a b hu
    rcases hr with ⟨rfl, rfl⟩ | ⟨rfl, rfl⟩
    · exact ⟨.bool (a == b), by simp only [execOp, hop, e1, e2]; simp [eqGuard, binOp, Op.equal, Op.maxDepth, he, go_sem], .bool _⟩
    · exact ⟨.bool (a != b), by simp only [execOp, hop, e1, e2]; simp [eqGuard, binOp, Op.equal, Op.maxDepth, he, go_sem, bne], .bool _⟩) ho h
theorem oNeB {t u : TypeId} {x y : Operand} {a b : Bool} (hu : C.P.underlying t = some .bool) (hg : o.guard = none) (hop : o.op = .binOp .neq t x y u) (hx : (PS.ev ⟨tm, rw', bx⟩ x) = .bool a) (hy : (PS.ev ⟨tm, rw', bx⟩ y) = .bool b) {d : Nat} (hd : o.dst = some d) (hn : Nat.blt d C.n = true)
    (h : VO C ops K rest ⟨(d, .bool (a != b)) :: tm, rw', bx⟩) : VO C ops K (o :: rest) ⟨tm, rw', bx⟩ := vOp hg (sEqB hu hop hx hy (by rw [hd]; exact hn) (.inr ⟨rfl, rfl⟩) (by rw [hd]; exact h))
theorem oEqB {t u : TypeId} {x y : Operand} {a b : Bool} (hu : C.P.underlying t = some .bool) (hg : o.guard = none) (hop : o.op = .binOp .eql t x y u) (hx : (PS.ev ⟨tm, rw', bx⟩ x) = .bool a) (hy : (PS.ev ⟨tm, rw', bx⟩ y) = .bool b) {d : Nat} (hd : o.dst = some d) (hn : Nat.blt d C.n = true)
    (h : VO C ops K rest ⟨(d, .bool (a == b)) :: tm, rw', bx⟩) : VO C ops K (o :: rest) ⟨tm, rw', bx⟩ := vOp hg (sEqB hu hop hx hy (by rw [hd]; exact hn) (.inl ⟨rfl, rfl⟩) (by rw [hd]; exact h))
end
end Go.Proofs.Ytlmlfbjcpajinaa

/-! ## Sh -/
namespace Go.Proofs.Ytlmlfbjcpajinaa
open Go.RowKit Go.Deep
set_option linter.unusedSimpArgs false
set_option linter.unusedVariables false

instance (x : Int) : Decidable (Rg64 x) := inferInstanceAs (Decidable (_ ∧ _))
/-- a guard -/
def grd {α : Type} (p : Prop) [Decidable p] (x : Option α) : Option α := if p then x else none
def cnd {α : Type} (b : Bool) (x y : α) : α := match b with | true => x | false => y
/-- a text behind which another one goes on -/
def jn {α β : Type} (k : α) (f : α → β) : β := f k
section
variable {α β : Type}
theorem grd_inv {p : Prop} [Decidable p] {x : Option α} {r : α} (h : grd p x = some r) : p ∧ x = some r := by
  unfold grd at h
  split at h
  · rename_i hp; exact ⟨hp, h⟩
  · cases h
theorem grd_pos {p : Prop} [Decidable p] (h : p) (x : Option α) : grd p x = x := if_pos h
theorem cnd_t {b : Bool} (hb : b = true) {x y : Option α} {r : Option α} (h : cnd b x y = r) : x = r := by subst hb; exact h
theorem cnd_f {b : Bool} (hb : b = false) {x y : Option α} {r : Option α} (h : cnd b x y = r) : y = r := by subst hb; exact h
@[simp] theorem cnd_true (x y : α) : cnd true x y = x := rfl
@[simp] theorem cnd_false (x y : α) : cnd false x y = y := rfl
theorem bind_inv {o : Option α} {f : α → Option β} {r : β} (h : o.bind f = some r) : ∃ v, o = some v ∧ f v = some r := by
  cases o with
  | none => cases h
  | some v => exact ⟨v, rfl, h⟩
end

section
variable {C : Cx} {c : Code} {Q : Exit → PS → Prop} {s s' : PS} {α β R : Type}
/-- a loop beside its plain text -/
theorem vLoopS (I : α → PS) (F : Nat → α → Option R) {r : R} {N : Nat} {x0 : α} (h : F N x0 = some r) (hle : Le s (I x0)) (h0 : ∀ x, F 0 x = none)
    (round : ∀ n x, F (n + 1) x = some r → VC C c (XThen (fun s' => ∃ y, Le s' (I y) ∧ F n y = some r) Q) (I x)) : VC C (.loop c) Q s := by
  refine ⟨fun M a w hr => ?_⟩
  obtain ⟨M', hr'⟩ := hr.le hle
  refine wp_loop_n (fun n a w => ∃ x M, Rel C.w0 C.O0 C.n M (I x) a w ∧ F n x = some r) N ⟨x0, M', hr', h⟩ ?_
  rintro n a w ⟨x, M, hr, hx⟩
  cases n with
  | zero => rw [h0] at hx; cases hx
  | succ n =>
    refine Code.wp_mono ?_ ((round n x hx).out M a w hr)
    rintro e a' w' ⟨s', M', hq, hr'⟩
    cases e with
    | normal =>
      obtain ⟨y, hle, hy⟩ := hq
      obtain ⟨M2, hr2⟩ := hr'.le hle
      exact ⟨n, Nat.lt_succ_self n, y, M2, hr2, hy⟩
    | _ => exact ⟨s', M', hq, hr'⟩
/-- what comes behind is shown once, for all that may be handed on -/
theorem vJoin {F : (α → Option R) → Nat → β → Option R} {k : α → Option R} {n : Nat} {b : β} {r : R} (h : F k n b = some r) {J : α → PS} (hm : ∀ s s', Le s s' → Q .normal s' → Q .normal s) (hk : ∀ a, k a = some r → Q .normal (J a))
    (hx : ∀ k' : α → Option R, F k' n b = some r → VC C c (XThen (fun s' => ∃ a, Le s' (J a) ∧ k' a = some r) Q) s) : VC C c Q s := by
  refine ⟨fun M a w hr => ?_⟩
  refine Code.wp_mono ?_ ((hx k h).out M a w hr)
  rintro e a' w' ⟨s', M', hq, hr'⟩
  cases e with
  | normal =>
    obtain ⟨x, hl, hx⟩ := hq
    exact ⟨s', M', hm _ _ hl (hk x hx), hr'⟩
  | _ => exact ⟨s', M', hq, hr'⟩
theorem vJoinN {F : (α → Option R) → Option R} {k : α → Option R} {r : R} (h : jn k F = some r) {J : α → PS} (hm : ∀ s s', Le s s' → Q .normal s' → Q .normal s) (hk : ∀ a, k a = some r → Q .normal (J a))
    (hx : ∀ k' : α → Option R, F k' = some r → VC C c (XThen (fun s' => ∃ a, Le s' (J a) ∧ k' a = some r) Q) s) : VC C c Q s :=
  vJoin (F := fun k (_ : Nat) (_ : Unit) => F k) (n := 0) (b := ()) h hm hk hx
/-- nil as an empty row -/
theorem vNilT (t r : Nat) (e : TypeId) (k : Sq) {tm : List (Nat × D)} {rw' : List (Nat × Option (TypeId × Sq))} {bx : List (Nat × Option (List D))} (ht : (PS.t ⟨tm, rw', bx⟩ t) = .nil) (hk : k.len = 0) (hf : frB ⟨tm, rw', bx⟩ noB (isR r) = true) (hn : Nat.blt t C.n = true)
    (h : VC C c Q ⟨(t, .row r 0 0) :: tm, (r, some (e, k)) :: rw', bx⟩) : VC C c Q ⟨tm, rw', bx⟩ := by
  refine ⟨fun M a w hr => ?_⟩
  have hv := hr.tmp t
  rw [ht] at hv
  obtain ⟨M', h1, h2⟩ := hr.nilRow (r := r) (e := e) (q := k) hk (frB_ok hf)
  have h3 := h1.put (o := some t) hn h2
  have e1 : a.put (some t) (.slice none 0 0) = a := by
    have hlt : t < a.tmps.size := by rw [hr.sz]; simpa using hn
    have : a.tmps.setIfInBounds t (.slice none 0 0) = a.tmps := by
      apply Array.ext
      · simp
      · intro i h1 h2
        by_cases hi : i = t
        · subst hi
          have := hv.nil_inv
          simp only [Array.getElem_setIfInBounds_self]
          simpa [hlt] using this.symm
        · rw [Array.getElem_setIfInBounds_ne _ (Ne.symm hi)]
    simp only [Act.put, this]
  rw [e1] at h3
  exact h.out M' a w h3
end

theorem Rel.setNil {w0 : World} {O0 : Nat → Prop} {n : Nat} {M : Mp} {s : PS} {a : Act} {w : World} (h : Rel w0 O0 n M s a w) {b i : Nat} {cs : List D} {d : D} (hb : s.b b = some cs) (hi : cs[i]? = some .nil) (hv : VR M (Ow (Fs w0 O0) M) w d (.slice none 0 0)) : Rel w0 O0 n M (s.setB b (cs.set i d)) a w := by
  refine ⟨h.fr, h.dfr, h.sz, h.tmp, fun b' cs' hb' => ?_, fun b' hb' => ?_, h.row, h.rown, h.low, h.inj1, h.inj2, h.inj3⟩
  · rw [PS.b_setB] at hb'
    split at hb'
    · rename_i he
      subst he
      cases hb'
      obtain ⟨k, cur, e, g1, g2, g3, g4⟩ := h.box b cs hb
      refine ⟨k, cur, e, g1, g2, by simpa using g3, fun j d' hj => ?_⟩
      rw [List.getElem?_set] at hj
      split at hj
      · rename_i hij
        subst hij
        split at hj
        · cases hj
          have := (g4 i .nil hi).nil_inv
          rw [this]; exact hv
        · cases hj
      · exact g4 j d' hj
    · exact h.box b' cs' hb'
  · rw [PS.b_setB] at hb'
    split at hb'
    · cases hb'
    · exact h.boxn b' hb'
theorem vNilB {C : Cx} {c : Code} {Q : Exit → PS → Prop} (b i r : Nat) (e : TypeId) (k : Sq) {tm : List (Nat × D)} {rw' : List (Nat × Option (TypeId × Sq))} {bx : List (Nat × Option (List D))} {cs cs' : List D} (hb : (PS.b ⟨tm, rw', bx⟩ b) = some cs) (hi : cs[i]? = some .nil) (hk : k.len = 0) (hf : frB ⟨tm, rw', bx⟩ noB (isR r) = true) (hcs : fcL (cs.set i (.row r 0 0)) some = some cs')
    (h : VC C c Q ⟨tm, (r, some (e, k)) :: rw', (b, some cs') :: bx⟩) : VC C c Q ⟨tm, rw', bx⟩ := by
  rw [fcL_eq] at hcs
  cases hcs
  refine ⟨fun M a w hr => ?_⟩
  obtain ⟨M', h1, h2⟩ := hr.nilRow (r := r) (e := e) (q := k) hk (frB_ok hf)
  have h3 := h1.setNil (b := b) (i := i) (cs := cs) hb hi h2
  exact h.out M' a w h3

section
variable {C : Cx} {ops : Array Oper} {K : PS → Prop} {o : Oper} {rest : List Oper} {s s' : PS} {TT : List (Nat × Ty)} {tm : List (Nat × D)} {rw' : List (Nat × Option (TypeId × Sq))} {bx : List (Nat × Option (List D))} {cr B : List Nat} {j : Nat}
theorem oPickGT {j y : Nat} {want b' : Bool} (hg : o.guard = some (j, want)) (hgd : gdst ops j = some y) (hy : Nat.blt y C.n = true) (hs : (PS.t ⟨tm, rw', bx⟩ y) = .bool b') (hb' : b' = want) {c x z : Operand} {b : Bool} (hop : o.op = .pick c x z) (hc : (PS.ev ⟨tm, rw', bx⟩ c) = .bool b) {t : Nat} (hd : o.dst = some t) (hn : Nat.blt t C.n = true) {d : D} (hb : b = true) (hx : (fcD (PS.ev ⟨tm, rw', bx⟩ x) some) = some d)
    (h : VO C ops K rest ⟨(t, d) :: tm, rw', bx⟩) : VO C ops K (o :: rest) ⟨tm, rw', bx⟩ := by
  rw [fcD_eq] at hx
  cases hx
  exact vOpG hg hgd hy hs hb' (sPickT hop hc hb (by rw [hd]; exact hn) (by rw [hd]; exact h))
theorem oPickGF {j y : Nat} {want b' : Bool} (hg : o.guard = some (j, want)) (hgd : gdst ops j = some y) (hy : Nat.blt y C.n = true) (hs : (PS.t ⟨tm, rw', bx⟩ y) = .bool b') (hb' : b' = want) {c x z : Operand} {b : Bool} (hop : o.op = .pick c x z) (hc : (PS.ev ⟨tm, rw', bx⟩ c) = .bool b) {t : Nat} (hd : o.dst = some t) (hn : Nat.blt t C.n = true) {d : D} (hb : b = false) (hx : (fcD (PS.ev ⟨tm, rw', bx⟩ z) some) = some d)
    (h : VO C ops K rest ⟨(t, d) :: tm, rw', bx⟩) : VO C ops K (o :: rest) ⟨tm, rw', bx⟩ := by
  rw [fcD_eq] at hx
  cases hx
  exact vOpG hg hgd hy hs hb' (sPickF hop hc hb (by rw [hd]; exact hn) (by rw [hd]; exact h))

/-- an operation that yields a value, out of what its operands are known to hold -/
structure Pur (C : Cx) (o : Oper) (s : PS) (d : D) : Prop where
  out : ∀ s1, (∀ x ∈ o.op.operands, s1.ev x = s.ev x) → ∀ M a w, Rel C.w0 C.O0 C.n M s1 a w → ∃ v, (execOp a.eval o).run C.P w = .ok (.value v) w ∧ VR M (Ow (Fs C.w0 C.O0) M) w d v
theorem Pur.step {d : D} (h : Pur C o s d) (ho : dstOk C.n o.dst = true) {s1 : PS} (hs : ∀ x ∈ o.op.operands, s1.ev x = s.ev x) : Step C o s1 (fun s' => s' = s1.put o.dst d) := sRun (fun M a w hr => h.out s1 hs M a w hr) ho rfl
theorem oPure (hw : Wanted C ops o ⟨tm, rw', bx⟩) {d : D} (hp : Pur C o ⟨tm, rw', bx⟩ d) {t : Nat} (hd : o.dst = some t) (hn : Nat.blt t C.n = true) (h : VO C ops K rest ⟨(t, d) :: tm, rw', bx⟩) : VO C ops K (o :: rest) ⟨tm, rw', bx⟩ := by
  have hst : Step C o ⟨tm, rw', bx⟩ (VO C ops K rest) := sRun (fun M a w hr => hp.out _ (fun _ _ => rfl) M a w hr) (by rw [hd]; exact hn) (by rw [hd]; exact h)
  rcases hw with hg | ⟨j, want, y, b, hg, hgd, hy, hs, hb⟩
  · exact vOp hg hst
  · exact vOpG hg hgd hy hs hb hst
theorem cPure (hw : Wanted C ops o ⟨tm, rw', bx⟩) {d : D} (hp : Pur C o ⟨tm, rw', bx⟩ d) {t : Nat} (hd : o.dst = some t) (hn : Nat.blt t C.n = true) (h : QC C ops K rest ⟨(t, d) :: tm, rw', bx⟩) : QC C ops K (o :: rest) ⟨tm, rw', bx⟩ :=
  ⟨d, ⟨fun s1 M a w hag hr => .inl ⟨hw.ok hag hr, hp.step (by rw [hd]; exact hn) fun x hx => hag.ev x hx⟩⟩, by rw [hd]; exact h⟩
theorem nPure (hw : Wanted C ops o ⟨tm, rw', bx⟩) {d : D} (hp : Pur C o ⟨tm, rw', bx⟩ d) {t : Nat} (hd : o.dst = some t) (hn : Nat.blt t C.n = true) (hvis : visB ops cr B j ⟨tm, rw', bx⟩ (opsL o.op) = true) (hc : chkE ops cr B j ⟨d, [], []⟩ = true)
    (h : QN C ops cr B K (j + 1) rest ⟨(t, d) :: tm, rw', bx⟩) : QN C ops cr B K j (o :: rest) ⟨tm, rw', bx⟩ :=
  nStep (e := ⟨d, [], []⟩) hw hc (fun s1 hag => by
    exact sRun (fun M a w hr => hp.out s1 (fun x hx => hag.ev x hx) M a w hr) (by rw [hd]; exact hn) (by rw [hd]; rfl)) (by rw [hd]; exact h)
theorem eqB_out {op : BinOp} {t u : TypeId} {x y : Operand} {a b r : Bool} (hu : C.P.underlying t = some .bool) (hop : o.op = .binOp op t x y u) (hx : s.ev x = .bool a) (hy : s.ev y = .bool b) (hr : (op = .eql ∧ r = (a == b)) ∨ (op = .neq ∧ r = (a != b))) : Pur C o s (.bool r) :=
  ⟨fun s1 hs M ac w hr' => by
    have h1 := hr'.ev x
    have h2 := hr'.ev y
    rw [hs x (by rw [hop]; simp [Op.operands]), hx] at h1
    rw [hs y (by rw [hop]; simp [Op.operands]), hy] at h2
    have e1 := h1.bool_inv
    have e2 := h2.bool_inv
    have he := run_equalIn_bool w (P := C.P) 9999 t a b hu
    rcases hr with ⟨rfl, rfl⟩ | ⟨rfl, rfl⟩
    · exact ⟨.bool (a == b), by simp only [execOp, hop, e1, e2]; simp [eqGuard, binOp, Op.equal, Op.maxDepth, he, go_sem], .bool _⟩
    · exact ⟨.bool (a != b), by simp only [execOp, hop, e1, e2]; simp [eqGuard, binOp, Op.equal, Op.maxDepth, he, go_sem, bne], .bool _⟩⟩
theorem pEqB {t u : TypeId} {x y : Operand} {a b : Bool} (hu : C.P.underlying t = some .bool) (hop : o.op = .binOp .eql t x y u) (hx : s.ev x = .bool a) (hy : s.ev y = .bool b) : Pur C o s (.bool (a == b)) := eqB_out hu hop hx hy (.inl ⟨rfl, rfl⟩)
theorem pNeB {t u : TypeId} {x y : Operand} {a b : Bool} (hu : C.P.underlying t = some .bool) (hop : o.op = .binOp .neq t x y u) (hx : s.ev x = .bool a) (hy : s.ev y = .bool b) : Pur C o s (.bool (a != b)) := eqB_out hu hop hx hy (.inr ⟨rfl, rfl⟩)
end
/-! ### equality of pairs, structs built -/
structure EqP (P : Program) (t : TypeId) : Prop where
  eql : ∀ x y u v w, (binOp .eql t (.agg #[.int .i64 x, .int .i64 y]) (.agg #[.int .i64 u, .int .i64 v])).run P w = .ok (.bool ((x == u) && (y == v))) w
  neq : ∀ x y u v w, (binOp .neq t (.agg #[.int .i64 x, .int .i64 y]) (.agg #[.int .i64 u, .int .i64 v])).run P w = .ok (.bool (!((x == u) && (y == v)))) w
  g : P.eqGuardType P.depth t = false
theorem VR.pair_inv {M : Mp} {A : Bool → Nat → Prop} {w : World} {a b : Int} {v : Value} (h : VR M A w (.agg [.int a, .int b]) v) : v = .agg #[.int .i64 a, .int .i64 b] := by
  obtain ⟨us, rfl, hl, hv⟩ := h.agg_inv
  match us, hl with
  | ⟨[x, y]⟩, _ =>
    have h0 := (hv 0 _ rfl).int_inv
    have h1 := (hv 1 _ rfl).int_inv
    simp at h0 h1
    subst h0 h1; rfl
section
variable {C : Cx} {o : Oper} {s : PS}
theorem eqP_out {op : BinOp} {t u : TypeId} {x y : Operand} {a b c d : Int} {r : Bool} (hE : EqP C.P t) (hop : o.op = .binOp op t x y u) (hx : s.ev x = .agg [.int a, .int b]) (hy : s.ev y = .agg [.int c, .int d]) (hr : (op = .eql ∧ r = ((a == c) && (b == d))) ∨ (op = .neq ∧ r = (!((a == c) && (b == d))))) : Pur C o s (.bool r) :=
  ⟨fun s1 hs M ac w hr' => by
    have h1 := hr'.ev x
    have h2 := hr'.ev y
    rw [hs x (by rw [hop]; simp [Op.operands]), hx] at h1
    rw [hs y (by rw [hop]; simp [Op.operands]), hy] at h2
    have e1 := h1.pair_inv
    have e2 := h2.pair_inv
    rcases hr with ⟨rfl, rfl⟩ | ⟨rfl, rfl⟩
    · refine ⟨.bool ((a == c) && (b == d)), ?_, .bool _⟩
      simp only [execOp, hop, e1, e2]
      simp [run_eqGuard_agg w .eql t _ _ _ _ hE.g, hE.eql]
    · refine ⟨.bool (!((a == c) && (b == d))), ?_, .bool _⟩
      simp only [execOp, hop, e1, e2]
      simp [run_eqGuard_agg w .neq t _ _ _ _ hE.g, hE.neq]⟩
theorem pEqP {t u : TypeId} {x y : Operand} {a b c d : Int} (hE : EqP C.P t) (hop : o.op = .binOp .eql t x y u) (hx : s.ev x = .agg [.int a, .int b]) (hy : s.ev y = .agg [.int c, .int d]) : Pur C o s (.bool ((a == c) && (b == d))) := eqP_out hE hop hx hy (.inl ⟨rfl, rfl⟩)
theorem pNeP {t u : TypeId} {x y : Operand} {a b c d : Int} (hE : EqP C.P t) (hop : o.op = .binOp .neq t x y u) (hx : s.ev x = .agg [.int a, .int b]) (hy : s.ev y = .agg [.int c, .int d]) : Pur C o s (.bool (!((a == c) && (b == d)))) := eqP_out hE hop hx hy (.inr ⟨rfl, rfl⟩)

def buildD (places : List (Nat × Nat)) : List D → List (Nat × D) → Option (List D)
  | cells, [] => some cells
  | cells, (f, d) :: l => match places[f]? with
    | some o => match d.flat, Nat.beq d.cells.length o.2, Nat.ble (o.1 + o.2) cells.length with
      | true, true, true => buildD places (cells.take o.1 ++ d.cells ++ cells.drop (o.1 + o.2)) l
      | _, _, _ => none
    | none => none
structure BuildOK (P : Program) (t : TypeId) (places : List (Nat × Nat)) (zs : List Value) : Prop where
  out : ∃ it fs, P.info? t = some it ∧ P.underlying t = some (.struct fs) ∧ it.zero = some (.agg zs.toArray) ∧ fs.toList.mapM (fun f => (P.info? f.type).map fun i => (f.offset, i.size)) = some places
def evP (s : PS) : List (Nat × Operand) → List (Nat × D)
  | [] => []
  | (i, x) :: l => (i, s.ev x) :: evP s l
theorem fill_vr {M : Mp} {A : Bool → Nat → Prop} {w : World} {places : List (Nat × Nat)} : ∀ (l : List (Nat × Value)) (pds : List (Nat × D)) (cells : Array Value) (cd cs : List D),
    l.length = pds.length → (∀ (i : Nat) x y, l[i]? = some x → pds[i]? = some y → x.1 = y.1 ∧ VR M A w y.2 x.2) → cd.length = cells.size → (∀ i d, cd[i]? = some d → VR M A w d (cells.getD i undef)) → buildD places cd pds = some cs →
    ∃ out, Instr.fill (places.toArray[·]?) cells l = some out ∧ cs.length = out.size ∧ ∀ i d, cs[i]? = some d → VR M A w d (out.getD i undef)
  | [], pds, cells, cd, cs, hl, hv, hs, hc, hb => by
    cases pds with
    | nil => simp only [buildD, Option.some.injEq] at hb; subst hb; exact ⟨cells, rfl, hs, hc⟩
    | cons a b => simp at hl
  | (i, v) :: l, pds, cells, cd, cs, hl, hv, hs, hc, hb => by
    cases pds with
    | nil => simp at hl
    | cons pd pds =>
      obtain ⟨f, d⟩ := pd
      obtain ⟨h1, h2⟩ := hv 0 (i, v) (f, d) rfl rfl
      simp only at h1 h2
      subst h1
      simp only [buildD] at hb
      split at hb
      case h_2 => cases hb
      rename_i o ho
      split at hb
      case h_2 => cases hb
      rename_i g1 g2 g3
      have g2' := Nat.eq_of_beq_eq_true g2
      have g3' := Nat.le_of_ble_eq_true g3
      obtain ⟨k1, k2, k3⟩ := h2.cells g1
      have hf := foldl_set v.cells.toList 0 o.1 cells (by simp; omega)
      simp only [Nat.add_zero, Array.length_toList] at hf
      have hfa : (Array.foldl (fun cs (x : Value × Nat) => match x with | (c, j) => cs.setIfInBounds (o.1 + j) c) cells v.cells.zipIdx) = (cells.toList.take o.1 ++ v.cells.toList ++ cells.toList.drop (o.1 + v.cells.size)).toArray := by
        rw [← Array.toList_inj, ← hf, ← Array.foldl_toList, Array.toList_zipIdx]
      obtain ⟨out, e1, e2, e3⟩ := fill_vr l pds (cells.toList.take o.1 ++ v.cells.toList ++ cells.toList.drop (o.1 + v.cells.size)).toArray (cd.take o.1 ++ d.cells ++ cd.drop (o.1 + o.2)) cs (by simpa using hl)
        (fun j x y hx hy => hv (j + 1) x y (by simpa using hx) (by simpa using hy)) (by simp; omega) (fun j dj hj => by
          have hsz : v.cells.toList.length = o.2 := by simp; omega
          have hd : d.cells.length = o.2 := g2'
          simp only [Array.getD_eq_getD_getElem?, List.getElem?_toArray]
          rcases Nat.lt_or_ge j o.1 with hj1 | hj1
          · rw [List.append_assoc, List.getElem?_append_left (by simp; omega), List.getElem?_take_of_lt hj1] at hj ⊢
            have := hc j dj hj
            simpa [Array.getD_eq_getD_getElem?] using this
          · rcases Nat.lt_or_ge j (o.1 + o.2) with hj2 | hj2
            · rw [List.getElem?_append_left (by simp; omega), List.getElem?_append_right (by simp; omega)] at hj ⊢
              have e1 : (cd.take o.1).length = o.1 := by simp; omega
              have e2 : (cells.toList.take o.1).length = o.1 := by simp; omega
              rw [e1] at hj
              rw [e2]
              have := k2 (j - o.1) dj hj
              simpa [Array.getD_eq_getD_getElem?] using this
            · rw [List.getElem?_append_right (by simp; omega)] at hj ⊢
              have e1 : (cd.take o.1 ++ d.cells).length = o.1 + o.2 := by simp; omega
              have e2 : (cells.toList.take o.1 ++ v.cells.toList).length = o.1 + o.2 := by simp; omega
              rw [e1, List.getElem?_drop] at hj
              rw [e2, List.getElem?_drop]
              have e3 : o.1 + o.2 + (j - (o.1 + o.2)) = j := by omega
              have e4 : o.1 + v.cells.size + (j - (o.1 + o.2)) = j := by omega
              rw [e3] at hj
              rw [e4]
              have := hc j dj hj
              simpa [Array.getD_eq_getD_getElem?] using this) hb
      refine ⟨out, ?_, e2, e3⟩
      simp only [Instr.fill]
      have ho' : places.toArray[i]? = some o := by simpa using ho
      rw [ho']
      simp only
      rw [if_neg (by simp; omega), hfa]
      exact e1
theorem evP_len (s : PS) : ∀ l, (evP s l).length = l.length
  | [] => rfl
  | (i, x) :: l => by simp [evP, evP_len s l]
theorem evP_get (s : PS) : ∀ (l : List (Nat × Operand)) (i : Nat), (evP s l)[i]? = (l[i]?).map fun p => (p.1, s.ev p.2)
  | [], i => by simp [evP]
  | (j, x) :: l, 0 => by simp [evP]
  | (j, x) :: l, i + 1 => by simp [evP, evP_get s l i]
theorem pBuild {t : TypeId} {places : List (Nat × Nat)} {zs : List Value} {parts : Array (Nat × Operand)} {cs : List D} (hB : BuildOK C.P t places zs) (hop : o.op = .build t parts) (hc : buildD places (zs.map ofV) (evP s parts.toList) = some cs) : Pur C o s (.agg cs) :=
  ⟨fun s1 hs M ac w hr => by
    obtain ⟨it, fs, h1, h2, h3, h4⟩ := hB.out
    obtain ⟨out, e1, e2, e3⟩ := fill_vr (M := M) (A := Ow (Fs C.w0 C.O0) M) (w := w) (parts.toList.map fun p => (p.1, ac.eval p.2)) (evP s parts.toList) zs.toArray (zs.map ofV) cs (by simp [evP_len])
      (fun i x y hx hy => by
        rw [List.getElem?_map] at hx
        rw [evP_get] at hy
        cases hp : parts.toList[i]? with
        | none => simp [hp] at hx
        | some p =>
          simp only [hp, Option.map_some, Option.some.injEq] at hx hy
          subst hx hy
          refine ⟨rfl, ?_⟩
          have := hr.ev p.2
          rw [hs p.2 (by rw [hop]; simp only [Op.operands]; exact List.mem_toArray.2 (List.mem_map.2 ⟨p, List.mem_of_getElem? hp, rfl⟩))] at this
          exact this) (by simp) (fun i d hd => by
        rw [List.getElem?_map] at hd
        cases hz : zs[i]? with
        | none => simp [hz] at hd
        | some z =>
          simp only [hz, Option.map_some, Option.some.injEq] at hd
          subst hd
          have : zs.toArray.getD i undef = z := by simp [Array.getD_eq_getD_getElem?, hz]
          rw [this]
          exact VR.ofV z) hc
    have hbt : C.P.built t (parts.map fun p => (p.1, ac.eval p.2)).toList = some out := by
      unfold Program.built
      rw [h1, h2]
      simp only [h3, h4]
      show Instr.fill (places.toArray[·]?) zs.toArray _ = some out
      simpa using e1
    refine ⟨.agg out, ?_, .agg _ _ e2 e3⟩
    have := run_build (P := C.P) w t (parts.map fun p => (p.1, ac.eval p.2)) out hbt
    simp only [execOp, hop]
    simp only [Sem.run_bind, this, Result.andThen_ok, Sem.run_pure]⟩
end
end Go.Proofs.Ytlmlfbjcpajinaa

/-! ## Law -/
namespace Go.Proofs.Ytlmlfbjcpajinaa
open Go.ChangeShapes Go.WideShapes Go.ChangeAt Go.RowKit
set_option linter.unusedVariables false
section
variable {H : Type} {enc : TypeId × Value → H} {P : Program}

/-- Arguments read in a grown world as they did. -/
theorem trodAll_below (hl : laidOutB P = true) {W W' : World} (hb : Below W.heap.size W W') : ∀ {ts : List TypeId} {vs : List Value} {ds : List (DataW H)} {ps : List MemPlace},
    (∀ t ∈ ts, P.readableRec t = true ∧ t < P.types.size) → DataW.TrodAll enc P W 0 (fun _ => true) true ts vs ds ps → (∀ x ∈ ps, x.block < W.heap.size) →
    DataW.TrodAll enc P W' 0 (fun b => decide (b < W.heap.size)) true ts vs ds ps
  | [], _, _, _, _, h, _ => by
    obtain ⟨rfl, rfl, rfl⟩ := trodAll_nil h
    exact trodAll_mk0
  | t :: ts, _, _, _, hr, h, hlt => by
    obtain ⟨v, vs1, d, ds1, a, b, rfl, rfl, rfl, h1, h2⟩ := trodAll_cons h
    obtain ⟨hr1, hr2⟩ := hr t (by simp)
    exact trodAll_cons_mk (Below.trod hl hr1 hr2 h1 hb (fun x hx => hlt x (by simp [hx])))
      (trodAll_below hl hb (fun t' ht' => hr t' (by simp [ht'])) h2 (fun x hx => hlt x (by simp [hx])))

/-- The post of a law: it returned true, and below the heap's old size nothing has turned. -/
theorem law_post (hl : laidOutB P = true) {f : Func} {s : ChangeSpec} {apart fresh handsOn : Bool} {W W' : World} {args : Array Value} {ds gs : List (DataW H)} {before : List MemPlace} {tb : TypeId}
    (hr : ∀ t ∈ f.params.toList, P.readableRec t = true ∧ t < P.types.size) (ht : f.resultTypes = #[tb]) (hbool : P.underlying tb = some .bool)
    (hv : s.vars = []) (hfn : s.fn H (ds ++ gs) = { results := [.lit (.bool true)], args := ds })
    (hW : DataW.Whole enc P f.params.toList s.vars apart W args.toList ds gs before) (hb : Below W.heap.size W W') :
    s.post enc P f apart fresh handsOn false W args (.bool true) W' := by
  have hlt : ∀ x ∈ before, x.block < W.heap.size := fun x hx => by simpa using hW.lt x hx
  have hW0 := hW
  obtain ⟨p, q, hA, hV, rfl, hfz, hnd⟩ := hW
  rw [hv] at hV
  obtain ⟨rfl, rfl⟩ := trodVars_none hV
  refine ⟨ds, [], p ++ [], [], p, [], hW0, ?_, ?_, ?_, hb.frame _, fun h => by cases h⟩
  · rw [hfn, ht]
    exact trodAll_cons_mk (shut_bool hbool _) trodAll_mk0
  · rw [hfn]
    exact trodAll_below hl hb hr hA (fun x hx => hlt x (by simp [hx]))
  · rw [hfn, hv]
    rfl
end
end Go.Proofs.Ytlmlfbjcpajinaa

/-! ## Open -/
namespace Go.Proofs.Ytlmlfbjcpajinaa
open Go.ChangeShapes Go.WideShapes Go.ChangeAt Go.RowKit Go.Deep
set_option linter.unusedVariables false
set_option linter.unusedSimpArgs false

/-- In the range of int. -/
def R64 (x : Int) : Prop := -9223372036854775808 ≤ x ∧ x ≤ 9223372036854775807
theorem R64_of_wf {x : Int} (h : (Lit.int .i64 x).wf = true) : R64 x := by
  simp [Lit.wf, IntKind.min, IntKind.max, IntKind.signed, IntKind.bits] at h
  unfold R64; omega

section
variable {H : Type} {enc : TypeId × Value → H} {P : Program} {w : World} {spare : Nat → Bool} {held : Bool}

theorem add_block (a : Addr) (n : Nat) : (a.add n).block = a.block := by unfold Addr.add; split <;> rfl
theorem add_off (a : Addr) (n : Nat) : (a.add n).off = a.off + n := by unfold Addr.add; split <;> simp_all
theorem cell?_lt {w : World} {a : Addr} {v : Value} (h : w.cell? a = some v) : a.block < w.heap.size := World.block_lt_of_cell? w a h
theorem cell?_spot {w : World} {a : Addr} {v : Value} (h : w.cell? a = some v) : a.spot = none := by
  unfold World.cell? at h
  split at h
  · split at h
    · cases h
    · simpa using ‹¬ a.spot.isSome = true›
  · cases h


/-- A slice of ints, read. -/
theorem open_intsAt {t e : TypeId} {fuel : Nat} {v : Value} {x : DataW H × List MemPlace} (ht : P.underlying t = some (.slice e)) (he : P.underlying e = some (.int .i64)) (hc : P.cellsOf e = 1)
    (h : DataW.trod enc P w 0 spare held fuel t [v] = some x) : ∃ l, IntsAt w v l ∧ ∀ x ∈ l, R64 x := by
  rcases open_slice1 ht hc h with ⟨h0, _⟩ | ⟨a, len, cap, m, n, V, D, Pl, h0, hb, hl, hm, hmm, rfl, hx⟩
  · simp at h0; subst h0
    exact ⟨[], ⟨Nat.zero_le _, none, 0, rfl, fun h => absurd h (by simp)⟩, by simp⟩
  · simp at h0; subst h0
    have hlm : len ≤ m := by rw [hmm]; split <;> omega
    have hcell : ∀ i, i < len → ∃ z : Int, w.cell? (a.add i) = some (.int .i64 z) ∧ R64 z := fun i hi => by
      obtain ⟨h1, h2⟩ := hx i (by omega)
      obtain ⟨z, hz, _, hw⟩ := DataW.trod_int he h2
      simp at hz
      exact ⟨z, by rw [h1, hz], R64_of_wf hw⟩
    obtain ⟨f, hf⟩ := choose_lt hcell
    refine ⟨(List.range len).map f, ⟨by simp; omega, some a, cap, by simp, fun h0 => ?_⟩, ?_⟩
    · simp at h0
      have c0 := (hf 0 h0).1
      have hs := cell?_spot c0
      have ha : a = ⟨a.block, a.off, none⟩ := by
        have : (a.add 0) = a := by simp [Addr.add]
        rw [this] at hs; cases a; simp_all
      refine ⟨a.block, a.off, by rw [← ha], by have := cell?_lt c0; rwa [add_block] at this, fun i hi => ?_⟩
      simp at hi
      have := (hf i hi).1
      rw [ha, Addr.add_lit] at this
      simpa using this
    · intro x hx'
      obtain ⟨i, hi, rfl⟩ := List.mem_map.1 hx'
      exact (hf i (by simpa using hi)).2

/-- A slice of pairs of ints, read. -/
theorem open_pairsAt {t e ti : TypeId} {f0 f1 : Field} {fuel : Nat} {v : Value} {x : DataW H × List MemPlace} (ht : P.underlying t = some (.slice e)) (he : P.underlying e = some (.struct #[f0, f1])) (hc : P.cellsOf e = 2)
    (hf0 : f0.type = ti) (hf1 : f1.type = ti) (ho0 : f0.offset = 0) (ho1 : f1.offset = 1) (hi : P.underlying ti = some (.int .i64)) (hci : P.cellsOf ti = 1)
    (h : DataW.trod enc P w 0 spare held fuel t [v] = some x) : ∃ l : List (Int × Int), PairsAt w v l ∧ ∀ x ∈ l, R64 x.1 ∧ R64 x.2 := by
  rcases open_slice ht h with ⟨h0, _⟩ | ⟨a, len, cap, m, n, D, Pl, h0, hb, hl, hm, hmm, rfl, hx⟩
  · simp at h0; subst h0
    exact ⟨[], ⟨Nat.zero_le _, none, 0, rfl, fun h => absurd h (by simp)⟩, by simp⟩
  · simp at h0; subst h0
    have hlm : len ≤ m := by rw [hmm]; split <;> omega
    have hcell : ∀ i, i < len → ∃ z : Int × Int, (w.cell? (a.add (i * 2)) = some (.int .i64 z.1) ∧ w.cell? ((a.add (i * 2)).add 1) = some (.int .i64 z.2)) ∧ R64 z.1 ∧ R64 z.2 := fun i hi' => by
      obtain ⟨cs', h1, h2⟩ := hx i (by omega)
      obtain ⟨y0, y1, n', _, hlen, hy0, hy1⟩ := trod_struct2 he h2
      rw [hc] at h1 hlen
      obtain ⟨c0, c1, rfl⟩ : ∃ c0 c1, cs' = [c0, c1] := by
        match cs', hlen with
        | [c0, c1], _ => exact ⟨c0, c1, rfl⟩
      rw [hf0, ho0, hci] at hy0
      rw [hf1, ho1, hci] at hy1
      simp at hy0 hy1
      obtain ⟨z0, hz0, _, w0⟩ := DataW.trod_int hi hy0
      obtain ⟨z1, hz1, _, w1⟩ := DataW.trod_int hi hy1
      simp at hz0 hz1
      subst hz0 hz1
      obtain ⟨_, _, hk⟩ := World.cells?_some h1
      exact ⟨(z0, z1), ⟨by simpa [Addr.add] using hk 0 (by omega), by simpa using hk 1 (by omega)⟩, R64_of_wf w0, R64_of_wf w1⟩
    obtain ⟨f, hf⟩ := choose_lt hcell
    refine ⟨(List.range len).map f, ⟨by simp; omega, some a, cap, by simp, fun h0 => ?_⟩, ?_⟩
    · simp at h0
      have c0 := (hf 0 h0).1.1
      have hs := cell?_spot c0
      have ha : a = ⟨a.block, a.off, none⟩ := by
        have : (a.add (0 * 2)) = a := by simp [Addr.add]
        rw [this] at hs; cases a; simp_all
      refine ⟨a.block, a.off, by rw [← ha], by have := cell?_lt c0; rwa [add_block] at this, fun i hi => ?_⟩
      simp at hi
      have := (hf i hi).1
      rw [ha, Addr.add_lit, Addr.add_lit] at this
      simpa using this
    · intro x hx'
      obtain ⟨i, hi, rfl⟩ := List.mem_map.1 hx'
      exact (hf i (by simpa using hi)).2

/-- A slice of slices, read: the inner ones by hin. -/
theorem open_slicesAt {α : Type} [Inhabited α] {R : World → Value → α → Prop} {t e : TypeId} {fuel : Nat} {v : Value} {x : DataW H × List MemPlace} (ht : P.underlying t = some (.slice e)) (hc : P.cellsOf e = 1)
    (hin : ∀ (n : Nat) (u : Value) (y : DataW H × List MemPlace), DataW.trod enc P w 0 spare held n e [u] = some y → ∃ a, R w u a)
    (h : DataW.trod enc P w 0 spare held fuel t [v] = some x) : ∃ l : List α, SlicesAt R w v l := by
  rcases open_slice1 ht hc h with ⟨h0, _⟩ | ⟨a, len, cap, m, n, V, D, Pl, h0, hb, hl, hm, hmm, rfl, hx⟩
  · simp at h0; subst h0
    exact ⟨[], Nat.zero_le _, none, 0, rfl, fun h => absurd h (by simp)⟩
  · simp at h0; subst h0
    have hlm : len ≤ m := by rw [hmm]; split <;> omega
    have hcell : ∀ i, i < len → ∃ z : α, w.cell? (a.add i) = some (V i) ∧ R w (V i) z := fun i hi => by
      obtain ⟨h1, h2⟩ := hx i (by omega)
      obtain ⟨z, hz⟩ := hin _ _ _ h2
      exact ⟨z, h1, hz⟩
    obtain ⟨f, hf⟩ := choose_lt hcell
    refine ⟨(List.range len).map f, by simp; omega, some a, cap, by simp, fun h0 => ?_⟩
    simp at h0
    have c0 := (hf 0 h0).1
    have hs := cell?_spot c0
    have ha : a = ⟨a.block, a.off, none⟩ := by
      have : (a.add 0) = a := by simp [Addr.add]
      rw [this] at hs; cases a; simp_all
    refine ⟨a.block, a.off, by rw [← ha], by have := cell?_lt c0; rwa [add_block] at this, fun i hi => ?_⟩
    simp at hi
    have := (hf i hi).1
    rw [ha, Addr.add_lit] at this
    exact ⟨V i, this, by simpa using (hf i hi).2⟩
end
end Go.Proofs.Ytlmlfbjcpajinaa

/-! ## Vz -/
namespace Go.Proofs.Ytlmlfbjcpajinaa
open Go.ChangeShapes Go.WideShapes Go.ChangeAt Go.RowKit Go.Deep
set_option linter.unusedVariables false
set_option linter.unusedSimpArgs false
def PairsR (l : List (Int × Int)) : Prop := ∀ x ∈ l, R64 x.1 ∧ R64 x.2
def IntsR (l : List Int) : Prop := ∀ x ∈ l, R64 x
def GrfR (g : Grf) : Prop := R64 g.n ∧ PairsR g.bars
def PinR (p : Pin) : Prop := GrfR p.g ∧ IntsR p.ground
def FrmR (p : Frm) : Prop := GrfR p.g ∧ PairsR p.places
def LnkR (p : Lnk) : Prop := FrmR p.f ∧ IntsR p.ground
def RseR (p : Rse) : Prop := R64 p.p ∧ IntsR p.bars

section
variable {H : Type} {enc : TypeId × Value → H} {P : Program} {w : World} {spare : Nat → Bool} {held : Bool} {fuel : Nat} {cs : List Value} {x : DataW H × List MemPlace}
theorem trod_cap {t e : TypeId} (ht : P.underlying t = some (.slice e)) (h : DataW.trod enc P w 0 spare held fuel t cs = some x) : ∃ v, cs = [v] ∧ ∀ ao n c, v = .slice ao n c → n ≤ c := by
  rcases open_slice ht h with ⟨rfl, _⟩ | ⟨a, len, cap, m, n, D, Pl, rfl, hb, hl, _⟩
  · exact ⟨_, rfl, fun ao n c h => by cases h; omega⟩
  · exact ⟨_, rfl, fun ao n c h => by cases h; exact hl⟩
theorem open_intsD {t e : TypeId} (ht : P.underlying t = some (.slice e)) (he : P.underlying e = some (.int .i64)) (hc : P.cellsOf e = 1) (h : DataW.trod enc P w 0 spare held fuel t cs = some x) :
    ∃ v l, cs = [v] ∧ VR M0 R0 w (.ro false (.ints l)) v ∧ IntsR l := by
  obtain ⟨v, rfl, hcap⟩ := trod_cap ht h
  obtain ⟨l, hl, hr⟩ := open_intsAt ht he hc h
  exact ⟨v, l, rfl, VR.of_ints hl hcap, hr⟩
theorem open_pairsD {t e ti : TypeId} {f0 f1 : Field} (ht : P.underlying t = some (.slice e)) (he : P.underlying e = some (.struct #[f0, f1])) (hc : P.cellsOf e = 2)
    (hf0 : f0.type = ti) (hf1 : f1.type = ti) (ho0 : f0.offset = 0) (ho1 : f1.offset = 1) (hi : P.underlying ti = some (.int .i64)) (hci : P.cellsOf ti = 1) (h : DataW.trod enc P w 0 spare held fuel t cs = some x) :
    ∃ v l, cs = [v] ∧ VR M0 R0 w (.ro false (.pairs l)) v ∧ PairsR l := by
  obtain ⟨v, rfl, hcap⟩ := trod_cap ht h
  obtain ⟨l, hl, hr⟩ := open_pairsAt ht he hc hf0 hf1 ho0 ho1 hi hci h
  exact ⟨v, l, rfl, VR.of_pairs hl hcap, hr⟩
theorem open_intD {t : TypeId} (ht : P.underlying t = some (.int .i64)) (h : DataW.trod enc P w 0 spare held fuel t cs = some x) : ∃ n, cs = [.int .i64 n] ∧ R64 n := by
  obtain ⟨n, hn, _, hw⟩ := DataW.trod_int ht h
  exact ⟨n, hn, R64_of_wf hw⟩
/-- what the reading of a type's cells gives -/
def Opens (enc : TypeId × Value → H) (P : Program) (w : World) (spare : Nat → Bool) (held : Bool) (t : TypeId) (n : Nat) (R : List Value → Prop) : Prop :=
  P.cellsOf t = n ∧ ∀ fuel cs x, DataW.trod enc P w 0 spare held fuel t cs = some x → R cs
theorem opens2 {t : TypeId} {f0 f1 : Field} {n0 n1 : Nat} {R0' R1' : List Value → Prop} (ht : P.underlying t = some (.struct #[f0, f1])) (hc : P.cellsOf t = n0 + n1) (ho0 : f0.offset = 0) (ho1 : f1.offset = n0)
    (h0 : Opens enc P w spare held f0.type n0 R0') (h1 : Opens enc P w spare held f1.type n1 R1') : Opens enc P w spare held t (n0 + n1) (fun cs => ∃ a b, cs = a ++ b ∧ a.length = n0 ∧ b.length = n1 ∧ R0' a ∧ R1' b) := by
  refine ⟨hc, fun fuel cs x h => ?_⟩
  obtain ⟨y0, y1, n, _, hlen, hy0, hy1⟩ := trod_struct2 ht h
  rw [ho0, h0.1] at hy0
  rw [ho1, h1.1] at hy1
  rw [hc] at hlen
  refine ⟨cs.take n0, cs.drop n0, (List.take_append_drop _ _).symm, by simp; omega, by simp; omega, ?_, ?_⟩
  · exact h0.2 _ _ _ (by simpa using hy0)
  · have : List.take n1 (List.drop n0 cs) = List.drop n0 cs := List.take_of_length_le (by simp; omega)
    rw [this] at hy1
    exact h1.2 _ _ _ hy1
theorem opens_int {t : TypeId} (ht : P.underlying t = some (.int .i64)) (hc : P.cellsOf t = 1) : Opens enc P w spare held t 1 (fun cs => ∃ n, cs = [.int .i64 n] ∧ R64 n) := ⟨hc, fun _ _ _ h => open_intD ht h⟩
theorem opens_ints {t e : TypeId} (hct : P.cellsOf t = 1) (ht : P.underlying t = some (.slice e)) (he : P.underlying e = some (.int .i64)) (hc : P.cellsOf e = 1) : Opens enc P w spare held t 1 (fun cs => ∃ v l, cs = [v] ∧ VR M0 R0 w (.ro false (.ints l)) v ∧ IntsR l) := ⟨hct, fun _ _ _ h => open_intsD ht he hc h⟩
theorem opens_pairs {t e ti : TypeId} {f0 f1 : Field} (hct : P.cellsOf t = 1) (ht : P.underlying t = some (.slice e)) (he : P.underlying e = some (.struct #[f0, f1])) (hc : P.cellsOf e = 2)
    (hf0 : f0.type = ti) (hf1 : f1.type = ti) (ho0 : f0.offset = 0) (ho1 : f1.offset = 1) (hi : P.underlying ti = some (.int .i64)) (hci : P.cellsOf ti = 1) : Opens enc P w spare held t 1 (fun cs => ∃ v l, cs = [v] ∧ VR M0 R0 w (.ro false (.pairs l)) v ∧ PairsR l) :=
  ⟨hct, fun _ _ _ h => open_pairsD ht he hc hf0 hf1 ho0 ho1 hi hci h⟩
abbrev GrfC (w : World) (cs : List Value) : Prop := ∃ g : Grf, VR M0 R0 w (gD g) (.agg cs.toArray) ∧ GrfR g
abbrev PinC (w : World) (cs : List Value) : Prop := ∃ g : Pin, VR M0 R0 w (pD g) (.agg cs.toArray) ∧ PinR g
abbrev FrmC (w : World) (cs : List Value) : Prop := ∃ g : Frm, VR M0 R0 w (fD g) (.agg cs.toArray) ∧ FrmR g
abbrev LnkC (w : World) (cs : List Value) : Prop := ∃ g : Lnk, VR M0 R0 w (lD g) (.agg cs.toArray) ∧ LnkR g
abbrev RseC (w : World) (cs : List Value) : Prop := ∃ g : Rse, VR M0 R0 w (rD g) (.agg cs.toArray) ∧ RseR g
theorem Opens.mono {t : TypeId} {n : Nat} {R R' : List Value → Prop} (h : Opens enc P w spare held t n R) (hm : ∀ cs, R cs → R' cs) : Opens enc P w spare held t n R' := ⟨h.1, fun f cs x hx => hm cs (h.2 f cs x hx)⟩
theorem mkGrfC {cs : List Value} (h : ∃ a b, cs = a ++ b ∧ a.length = 1 ∧ b.length = 1 ∧ (∃ n, a = [.int .i64 n] ∧ R64 n) ∧ (∃ v l, b = [v] ∧ VR M0 R0 w (.ro false (.pairs l)) v ∧ PairsR l)) : GrfC w cs := by
  obtain ⟨a, b, rfl, _, _, ⟨n, rfl, hn⟩, v, l, rfl, hv, hl⟩ := h
  exact ⟨⟨n, l⟩, mk_agg2 (VR.int n) hv, hn, hl⟩
theorem mkRseC {cs : List Value} (h : ∃ a b, cs = a ++ b ∧ a.length = 1 ∧ b.length = 1 ∧ (∃ n, a = [.int .i64 n] ∧ R64 n) ∧ (∃ v l, b = [v] ∧ VR M0 R0 w (.ro false (.ints l)) v ∧ IntsR l)) : RseC w cs := by
  obtain ⟨a, b, rfl, _, _, ⟨n, rfl, hn⟩, v, l, rfl, hv, hl⟩ := h
  exact ⟨⟨n, l⟩, mk_agg2 (VR.int n) hv, hn, hl⟩
theorem mkPinC {cs : List Value} (h : ∃ a b, cs = a ++ b ∧ a.length = 2 ∧ b.length = 1 ∧ GrfC w a ∧ (∃ v l, b = [v] ∧ VR M0 R0 w (.ro false (.ints l)) v ∧ IntsR l)) : PinC w cs := by
  obtain ⟨a, b, rfl, _, _, ⟨g, hg, hgr⟩, v, l, rfl, hv, hl⟩ := h
  obtain ⟨x, y, he, h1, h2⟩ := agg2 hg
  obtain rfl : a = [x, y] := by simpa using congrArg (fun v => match v with | .agg c => c.toList | _ => []) he
  exact ⟨⟨g, l⟩, mk_agg3 h1 h2 hv, hgr, hl⟩
theorem mkFrmC {cs : List Value} (h : ∃ a b, cs = a ++ b ∧ a.length = 2 ∧ b.length = 1 ∧ GrfC w a ∧ (∃ v l, b = [v] ∧ VR M0 R0 w (.ro false (.pairs l)) v ∧ PairsR l)) : FrmC w cs := by
  obtain ⟨a, b, rfl, _, _, ⟨g, hg, hgr⟩, v, l, rfl, hv, hl⟩ := h
  obtain ⟨x, y, he, h1, h2⟩ := agg2 hg
  obtain rfl : a = [x, y] := by simpa using congrArg (fun v => match v with | .agg c => c.toList | _ => []) he
  exact ⟨⟨g, l⟩, mk_agg3 h1 h2 hv, hgr, hl⟩
theorem mkLnkC {cs : List Value} (h : ∃ a b, cs = a ++ b ∧ a.length = 3 ∧ b.length = 1 ∧ FrmC w a ∧ (∃ v l, b = [v] ∧ VR M0 R0 w (.ro false (.ints l)) v ∧ IntsR l)) : LnkC w cs := by
  obtain ⟨a, b, rfl, _, _, ⟨g, hg, hgr⟩, v, l, rfl, hv, hl⟩ := h
  obtain ⟨x, y, z, he, h1, h2, h3⟩ := agg3 hg
  obtain rfl : a = [x, y, z] := by simpa using congrArg (fun v => match v with | .agg c => c.toList | _ => []) he
  exact ⟨⟨g, l⟩, mk_agg4 h1 h2 h3 hv, hgr, hl⟩
end
end Go.Proofs.Ytlmlfbjcpajinaa

/-! ## PinP -/
namespace Go.Proofs.Ytlmlfbjcpajinaa
open Go.RowKit
set_option linter.unusedSimpArgs false
set_option linter.unusedVariables false

/-- place i of l is in 0 .. n-1 and above the one ahead of it -/
def ascAt (n : Int) (l : List Int) (i : Nat) : Bool := inB (l.getD i 0) 0 (n - 1) && (decide (i = 0) || decide (l.getD (i - 1) 0 < l.getD i 0))
def asc (n : Int) (l : List Int) : Bool := (List.range l.length).all (ascAt n l)
theorem asc_true {n : Int} {l : List Int} (h : ∀ i, i < l.length → ascAt n l i = true) : asc n l = true := by
  simp only [asc, List.all_eq_true, List.mem_range]; exact h
theorem asc_bad {n : Int} {l : List Int} (i : Nat) (hi : i < l.length) (h : ascAt n l i = false) : asc n l = false := by
  simp only [asc, List.all_eq_false]; exact ⟨i, by simpa using hi, by simp [h]⟩
theorem asc_at {n : Int} {l : List Int} (h : asc n l = true) {i : Nat} (hi : i < l.length) : ascAt n l i = true := by
  simp only [asc, List.all_eq_true, List.mem_range] at h; exact h i hi
theorem asc_in {n : Int} {l : List Int} (h : asc n l = true) {x : Int} (hx : x ∈ l) : 0 ≤ x ∧ x < n := by
  obtain ⟨i, hi, rfl⟩ := List.getElem_of_mem hx
  have := asc_at h hi
  simp [ascAt, inB, hi] at this; omega
theorem asc_ge {n : Int} {l : List Int} (h : asc n l = true) : ∀ i (hi : i < l.length), (i : Int) ≤ l[i]
  | 0, hi => (asc_in h (List.getElem_mem hi)).1
  | i + 1, hi => by
    have ih := asc_ge h i (by omega)
    have := asc_at h hi
    simp [ascAt, hi, show i < l.length from by omega] at this; omega
theorem asc_len {n : Int} {l : List Int} (h : asc n l = true) (hn : 0 ≤ n) : (l.length : Int) ≤ n := by
  cases hl : l.length with
  | zero => omega
  | succ k =>
    have h1 := asc_ge h k (by omega)
    have h2 := asc_in h (List.getElem_mem (show k < l.length by omega))
    omega
/-- no bar with both ends in gr -/
def bothIn (gr : List Int) (p : Int × Int) : Bool := gr.contains p.1 && gr.contains p.2
def noneIn (gr : List Int) (l : List (Int × Int)) : Bool := l.all fun p => !bothIn gr p
theorem noneIn_true {gr : List Int} {l : List (Int × Int)} (h : ∀ i (hi : i < l.length), bothIn gr l[i] = false) : noneIn gr l = true := by
  simp only [noneIn, List.all_eq_true]
  intro p hp
  obtain ⟨i, hi, rfl⟩ := List.getElem_of_mem hp
  simp [h i hi]
theorem noneIn_bad {gr : List Int} {l : List (Int × Int)} (i : Nat) (hi : i < l.length) (h : bothIn gr l[i] = true) : noneIn gr l = false := by
  simp only [noneIn, List.all_eq_false]; exact ⟨l[i], List.getElem_mem hi, by simp [h]⟩
theorem noneIn_at {gr : List Int} {l : List (Int × Int)} (h : noneIn gr l = true) {p : Int × Int} (hp : p ∈ l) : bothIn gr p = false := by
  simp only [noneIn, List.all_eq_true] at h; simpa using h p hp
def isPinned (p : Pin) : Bool :=
  isGraph p.g && !hasDbl p.g.bars && decide (2 ≤ p.ground.length) && decide (p.g.bars.length ≤ 15) && decide (p.g.bars.length + 2 * p.ground.length ≤ 27) && asc p.g.n p.ground && noneIn p.ground p.g.bars
theorem isPinned_parts {p : Pin} (h : isPinned p = true) : isGraph p.g = true ∧ hasDbl p.g.bars = false ∧ 2 ≤ p.ground.length ∧ p.g.bars.length ≤ 15 ∧ p.g.bars.length + 2 * p.ground.length ≤ 27 ∧ asc p.g.n p.ground = true ∧ noneIn p.ground p.g.bars = true := by
  simp only [isPinned, Bool.and_eq_true, decide_eq_true_eq, Bool.not_eq_true'] at h
  exact ⟨h.1.1.1.1.1.1, h.1.1.1.1.1.2, h.1.1.1.1.2, h.1.1.1.2, h.1.1.2, h.1.2, h.2⟩
/-- the points that are not grounded, in order -/
def inner (p : Pin) : List Int := ((List.range p.g.n.toNat).map fun (i : Nat) => (i : Int)).filter fun x => !p.ground.contains x
end Go.Proofs.Ytlmlfbjcpajinaa
