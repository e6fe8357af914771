/- How a function's own text earns what is known of it. No program in sight. -/
import Derived.Test.YtlmlfbjcpajinaaVm
namespace Go.Proofs.Ytlmlfbjcpajinaa
open Go.RowKit Go.Deep
set_option linter.unusedSimpArgs false
set_option linter.unusedVariables false

def nwS (g : Bool) : D → Bool
  | .ro f _ => f == g
  | .rptr _ _ _ _ | .eptr _ _ _ | .ptr _ _ | .agg _ | .tup _ | .dead => false
  | _ => true
def nwA (g : Bool) : D → Bool
  | .agg l => l.all (nwS g)
  | .dead => true
  | d => nwS g d
def nwD (g : Bool) : D → Bool
  | .tup l => l.all (nwA g)
  | d => nwA g d
theorem elem_new (g : Bool) (q : Sq) (i j : Nat) (d : D) (h : (q.elem g i)[j]? = some d) : nwS g d = true ∧ sameD d d := by
  cases q <;> simp only [Sq.elem] at h <;> rcases j with _ | _ | j <;> simp at h <;> subst h <;> simp [nwS, sameD]
section
variable {M M' : Mp} {A : Bool → Nat → Prop} {w : World} {g : Bool}
theorem VR.flagE {d : D} {v : Value} (h : VR M A w d v) (hs : sameD d d) (hn : nwS g d = true) : VR M' (fun f k => A f k ∧ f = g) w d v := by
  induction h with
  | ro f q ao cap b o u hn' hc hao hu hv ih =>
    simp only [nwS, beq_iff_eq] at hn
    subst hn
    exact .ro f q ao cap b o u hn' hc (fun h0 => ⟨(hao h0).1, (hao h0).2.1, (hao h0).2.2, rfl⟩) hu fun i j d hi hd => ih i j d hi hd (elem_new f q i j d hd).2 (elem_new f q i j d hd).1
  | int n => exact .int _
  | bool b => exact .bool _
  | val v h => exact .val _ h
  | _ => simp [sameD] at hs
theorem VR.flagS {d : D} {v : Value} (h : VR M A w d v) (hn : nwS g d = true) : VR M (fun f k => A f k ∧ f = g) w d v := by
  cases h with
  | nil => exact .nil
  | row r off n v h1 h => exact .row r off n v h1 h
  | int n => exact .int _
  | bool b => exact .bool _
  | val v h => exact .val _ h
  | ro f q ao cap b o u hn' hc hao hu hv => exact VR.flagE (.ro f q ao cap b o u hn' hc hao hu hv) rfl hn
  | _ => simp [nwS] at hn
theorem VR.flagA {d : D} {v : Value} (h : VR M A w d v) (hn : nwA g d = true) : VR M (fun f k => A f k ∧ f = g) w d v := by
  cases d with
  | agg l =>
    cases h with | agg _ us hl h =>
    simp only [nwA, List.all_eq_true] at hn
    exact .agg _ us hl fun i d hi => (h i d hi).flagS (hn d (List.mem_of_getElem? hi))
  | dead => exact .dead _
  | _ => exact VR.flagS h hn
theorem VR.flag {d : D} {v : Value} (h : VR M A w d v) (hn : nwD g d = true) : VR M (fun f k => A f k ∧ f = g) w d v := by
  cases d with
  | tup l =>
    cases h with | tup _ us hl h =>
    simp only [nwD, List.all_eq_true] at hn
    exact .tup _ us hl fun i d hi => (h i d hi).flagA (hn d (List.mem_of_getElem? hi))
  | _ => exact VR.flagA h hn
end

def rowsOk (s : PS) : List Nat → List (TypeId × Sq) → Prop
  | [], [] => True
  | i :: l, x :: m => s.r i = some x ∧ rowsOk s l m
  | _, _ => False
theorem rowsOk_ok {s : PS} : ∀ {l : List Nat} {m : List (TypeId × Sq)}, rowsOk s l m → l.length = m.length ∧ ∀ (j : Nat) x, m[j]? = some x → s.r (l.getD j 0) = some x
  | [], [], _ => ⟨rfl, by simp⟩
  | i :: l, x :: m, h => by
    obtain ⟨h1, h2⟩ := h
    obtain ⟨g1, g2⟩ := rowsOk_ok h2
    refine ⟨by simp [g1], fun j y hy => ?_⟩
    cases j with
    | zero => simp at hy; subst hy; simpa using h1
    | succ j => simpa using g2 j y (by simpa using hy)
  | [], _ :: _, h => h.elim
  | _ :: _, [], h => h.elim
def nodupB : List Nat → Bool
  | [] => true
  | i :: l => (l.all fun j => !Nat.beq i j) && nodupB l
theorem nodupB_ok : ∀ {l : List Nat}, nodupB l = true → ∀ i j, i < l.length → j < l.length → l.getD i 0 = l.getD j 0 → i = j
  | [], _, i, j, hi, _, _ => by simp at hi
  | x :: l, h, i, j, hi, hj, he => by
    simp only [nodupB, Bool.and_eq_true, List.all_eq_true] at h
    have hno : ∀ k, k < l.length → x ≠ l.getD k 0 := fun k hk hx => by
      have := h.1 (l.getD k 0) (by simp [hk])
      rw [← hx] at this
      simp [Nat.beq_refl] at this
    cases i with
    | zero =>
      cases j with
      | zero => rfl
      | succ j => exact absurd (by simpa using he) (hno j (by simpa using hj))
    | succ i =>
      cases j with
      | zero => exact absurd (by simpa using he.symm) (hno i (by simpa using hi))
      | succ j => rw [nodupB_ok h.2 i j (by simpa using hi) (by simpa using hj) (by simpa using he)]
/-- the result's names are below n, it is flat, and what it only reads is new -/
def okD (n : Nat) (d : D) : Bool := !ment (fun _ => true) (fun j => !Nat.blt j n) d && !ment noB noB d && nwD true d
/-- what must hold where a function ends -/
def RetP (TT : List (Nat × Ty)) (res : List ResultVar) (rows : List (TypeId × Sq)) (d : D) : Exit → PS → Prop := fun e s => match e with
  | .normal | .ret => ∃ ids d', retD TT s res = some d' ∧ rowsOk s ids rows ∧ nodupB ids = true ∧ d' = ren id (fun j => ids.getD j 0) d ∧ okD rows.length d = true
  | _ => False

theorem pcall_intro {P : Program} {f : FuncId} {fn : Func} {c : Code} {TT : List (Nat × Ty)} {ds : List D} {rows : List (TypeId × Sq)} {d : D} {n : Nat} {res : List ResultVar} (hT : TTOK P TT) (hf : P.funcs[f]? = some fn) (hb : fn.body = some c)
    (hname : (fn.name == "runtime.NumGoroutine") = false) (hn : fn.ntmps = n) (hres : fn.results.toList = res) (hds : Nat.ble ds.length n = true) (hno : (ds.all fun d => noIds d && nwD false d) = true)
    (h : ∀ w0, VC ⟨P, w0, fun _ => False, n⟩ c (RetP TT res rows d) ⟨entL 0 ds, [], []⟩) : PCall P f ds rows d := by
  subst hn hres
  refine ⟨callFunc_of hf hname (by simp [hb]), fun w0 args ⟨hsz, hargs⟩ => ?_⟩
  have hle := Nat.le_of_ble_eq_true hds
  have hent : Rel w0 (fun _ => False) fn.ntmps M0 ⟨entL 0 ds, [], []⟩ { tmps := args ++ Array.replicate (fn.ntmps - args.size) undef, defers := [] } w0 := by
    refine ⟨⟨rfl, rfl, rfl, Nat.le_refl _, fun _ _ _ => rfl⟩, rfl, by simp; omega, fun t => ?_, fun b cs hb => by simp [PS.b, look] at hb, fun _ _ => rfl, fun r e q hr => by simp [PS.r, look] at hr, fun _ _ => rfl, ?_, by simp, by simp, by simp⟩
    · simp only [PS.t, look_entL, Nat.zero_le, if_true, Nat.sub_zero]
      cases hd : ds[t]? with
      | none => exact .dead _
      | some d0 =>
        have hlt : t < args.size := by rw [hsz]; exact (List.getElem?_eq_some_iff.1 hd).1
        have h1 := hargs t d0 hd
        have h2 : (args ++ Array.replicate (fn.ntmps - args.size) undef).getD t undef = args.getD t undef := by
          simp [Array.getElem?_append_left hlt]
        rw [h2]
        have h4 := (List.all_eq_true.1 hno) d0 (List.mem_of_getElem? hd)
        simp only [Bool.and_eq_true] at h4
        refine VR.new (b := fun _ => true) (r := fun _ => true) (A := fun f _ => True ∧ f = false) (fun f b hb hf => ⟨⟨?_, fun h5 => ?_⟩, hb, rfl⟩) (fun x y hx => by simp at hx) (fun x y hx => by simp at hx) ?_ (h1.flag h4.2)
        · simpa [noIds] using h4.1
        · rintro (⟨x, hx⟩ | ⟨x, c, z, hx⟩) <;> simp at hx
        · rw [hf.2] at h5; cases h5
    · rintro k (⟨x, hx⟩ | ⟨x, c, z, hx⟩) <;> simp at hx
  refine calls_of_wp hf hb (Code.wp_mono ?_ ((h w0).out M0 _ w0 hent))
  rintro e a' w' ⟨s', M', hq, hr⟩
  have fin : ∀ (hq : ∃ ids d', retD TT s' fn.results.toList = some d' ∧ rowsOk s' ids rows ∧ nodupB ids = true ∧ d' = ren id (fun j => ids.getD j 0) d ∧ okD rows.length d = true),
      a'.defers = [] ∧ ∃ v, (results fn a'.tmps).run P w' = .ok v w' ∧ ∃ v', Ending.returned v = .returned v' ∧ ∀ B, ∃ N, New N (Rs w0 N) w0 w' (nrL B rows) ∧ VR N (Rs w0 N) w' (ren id (fun j => B + j) d) v' := by
    rintro ⟨ids, d', h1, h2, h3, rfl, h5⟩
    obtain ⟨v, h6, h7⟩ := ret_ok hT hr h1
    refine ⟨hr.dfr, v, h6, v, rfl, fun B => ?_⟩
    obtain ⟨g1, g2⟩ := rowsOk_ok h2
    simp only [okD, Bool.and_eq_true, Bool.not_eq_true'] at h5
    obtain ⟨⟨k1, k2⟩, k3⟩ := h5
    let M1 : Mp := ⟨fun _ => none, fun j => if j < rows.length then M'.γ (ids.getD j 0) else none⟩
    let N : Mp := ⟨fun _ => none, fun y => if B ≤ y then M1.γ (y - B) else none⟩
    have hNo : ∀ k, N.owned k → M'.owned k := by
      rintro k (⟨b, hb⟩ | ⟨y, c, z, hy⟩)
      · cases hb
      · simp only [N, M1] at hy
        split at hy
        · split at hy
          · exact .inr ⟨_, c, z, hy⟩
          · cases hy
        · cases hy
    have hlow : ∀ k, M'.owned k → w0.heap.size ≤ k := fun k hk => (hr.low k hk).resolve_right (fun h => h)
    have hA : ∀ f b, b < w'.heap.size → (Ow (Fs w0 fun _ => False) M' f b ∧ f = true) → Rs w0 N f b ∧ b < w'.heap.size ∧ w'.heap[b]? = w'.heap[b]? := fun f b hb hh =>
      ⟨⟨(hh.1.2 hh.2).resolve_right (fun h => h), fun ho => hh.1.1 (hNo b ho)⟩, hb, rfl⟩
    refine ⟨N, ⟨hr.fr.os, hr.fr.tape, hr.fr.output, hr.fr.size, fun k hk => hr.fr.block k hk (fun h => h), fun _ => rfl, fun r e q hl => ?_, fun r hl => ?_, fun k hk => hlow k (hNo k hk), fun r r' k c z c' z' a1 a2 => ?_⟩, ?_⟩
    · rw [look_nrL] at hl
      split at hl
      · rename_i hB
        obtain ⟨x, hx, hx'⟩ := Option.map_eq_some_iff.1 hl
        cases hx'
        have hlt := (List.getElem?_eq_some_iff.1 hx).1
        rcases hr.row _ e q (g2 _ _ hx) with ⟨b1, b2⟩ | ⟨g, cap, cur, b1, b2, b3, b4, b5, b6⟩
        · exact .inl ⟨by simp [N, M1, hB, hlt]; simpa using b1, b2⟩
        · refine .inr ⟨g, cap, cur, by simp [N, M1, hB, hlt]; simpa using b1, b2, b3, b4, b5, fun i j d' hi hd => ?_⟩
          have h8 := b6 i j d' hi hd
          exact ((h8.flagE (M' := M') (elem_new true q i j d' hd).2 (elem_new true q i j d' hd).1).elem_any hd hA)
      · cases hl
    · simp only [N, M1]
      split
      · rename_i hB
        split
        · rename_i hlt
          exfalso
          refine hl rows[r - B] ?_
          rw [look_nrL, if_pos hB, List.getElem?_eq_getElem hlt]; rfl
        · rfl
      · rfl
    · simp only [N, M1] at a1 a2
      split at a1
      case isFalse => cases a1
      rename_i hB1
      split at a1
      case isFalse => cases a1
      rename_i hl1
      split at a2
      case isFalse => cases a2
      rename_i hB2
      split at a2
      case isFalse => cases a2
      rename_i hl2
      have := hr.inj2 _ _ _ _ _ _ _ a1 a2
      have := nodupB_ok h3 _ _ (by omega) (by omega) this
      omega
    · have h8 : VR M1 (Ow (Fs w0 fun _ => False) M') w' d v := VR.unren (M' := M') (A' := Ow (Fs w0 fun _ => False) M') (τ := id) (σ := fun j => ids.getD j 0) (fun r x hx => by
        simp only [M1] at hx
        split at hx
        · exact hx
        · cases hx) (fun b k hb => by simp [M1] at hb) (fun _ _ _ h => h) k2 h7
      exact VR.ren (M := M1) hA (fun r x hx => by
        simp only [N] at hx
        rw [if_pos (by omega), Nat.add_sub_cancel_left] at hx
        exact hx) (fun b k hb => by simp [N] at hb) (h8.flag k3)
  cases e with
  | normal => exact fin hq
  | ret => exact fin hq
  | _ => exact hq.elim
end Go.Proofs.Ytlmlfbjcpajinaa
