/- Texts that the proof needs, put together: M11 M12 M13 M14 G69 Pbr G10 G11 G22 Qr G12 G20 G64 G65 G66 G67 G68 G30 G32 G31 G33 G34 G35 G38 G56 G71 Pmd G79. -/
import Derived.Test.YtmoamglpocjhgaaBR3
import Derived.Test.YtmoamglpocjhgaaBR4
namespace Go.Proofs.Ytmoamglpocjhgaa
open Go.RowKit Go.Deep
set_option linter.unusedSimpArgs false
set_option linter.unusedVariables false
/-- A deep row that came new: named B, its family F. -/
structure NewD (N : Mp) (A : Bool → Nat → Prop) (w w' : World) (B F : Nat) (et te : TypeId) (q : Sq) : Prop where
  os : w'.os = w.os
  tape : w'.tape = w.tape
  output : w'.output = w.output
  size : w.heap.size ≤ w'.heap.size
  block : ∀ k, k < w.heap.size → w'.heap[k]? = w.heap[k]?
  noβ : ∀ b, N.β b = none
  outer : (N.γ B = some none ∧ q.len = 0) ∨ ∃ g cap cur, N.γ B = some (some (g, cap, q.sz)) ∧ w'.heap[g]? = some (.cells cur et (0, 0)) ∧ q.len ≤ cap ∧ cap ≤ maxLen ∧ cur.size = cap * q.sz ∧ ∀ i j d, i < q.len → ((dR F q).relem i)[j]? = some d → VR N A w' d (cur.getD (i * q.sz + j) undef)
  inner : ∀ i, i < q.len → (N.γ (inn F i) = some none ∧ (q.nn i).len = 0) ∨ ∃ g cap cur, N.γ (inn F i) = some (some (g, cap, (q.nn i).sz)) ∧ w'.heap[g]? = some (.cells cur te (0, 0)) ∧ (q.nn i).len ≤ cap ∧ cap ≤ maxLen ∧ cur.size = cap * (q.nn i).sz ∧ ∀ i' j d, i' < (q.nn i).len → ((q.nn i).relem i')[j]? = some d → VR N A w' d (cur.getD (i' * (q.nn i).sz + j) undef)
  none : ∀ x, x ≠ B → (∀ i, i < q.len → x ≠ inn F i) → N.γ x = none
  low : ∀ k, N.owned k → w.heap.size ≤ k
  inj : ∀ r r' k c z c' z', N.γ r = some (some (k, c, z)) → N.γ r' = some (some (k, c', z')) → r = r'
structure PCallD (P : Program) (f : FuncId) (ds : List D) (et te : TypeId) (q : Sq) (d : D) : Prop where
  enter : ∀ args w, (callFunc f args).run P w = .ok (.enter f args) w
  deep : q.deep = true
  run : ∀ w args, ArgsOK w ds args → Calls P f args w fun e w' => ∃ v, e = .returned v ∧ ∀ B F, B ≤ 500000 → F < 4294967296 → ∃ N, NewD N (Rs w N) w w' B F et te q ∧ VR N (Rs w N) w' (ren id (fun j => B + j) d) v
section
variable {C : Cx} {ops : Array Oper} {K : PS → Prop} {o : Oper} {rest : List Oper} {s s' : PS} {TT : List (Nat × Ty)} {tm : List (Nat × D)} {rw' : List (Nat × Option (TypeId × Sq))} {bx : List (Nat × Option (List D))}
theorem Rel.newDeep {w0 : World} {O0 : Hd} {n : Nat} {M N : Mp} {A : Bool → Nat → Prop} {a : Act} {w w' : World} {B F : Nat} {et te : TypeId} {q : Sq} (h : Rel w0 O0 n M ⟨tm, rw', bx⟩ a w) (hq : q.deep = true) (hN : NewD N A w w' B F et te q) (hF : F < 4294967296) (hB : B < 1000000)
    (hA : ∀ f k, k < w'.heap.size → A f k → (¬ N.owned k ∧ ¬ M.owned k) ∧ Fs w0 O0 f k) (hf : Fresh ⟨tm, rw', bx⟩ (fun _ => false) (fun r => Nat.beq r B || !notF r)) (hl : lone ⟨tm, rw', bx⟩ 999999 F = true) (h9 : PS.r ⟨tm, rw', bx⟩ 999999 = none) (hfn : PS.r ⟨tm, rw', bx⟩ (FK + F) = none) (hO : ∀ u, O0.fr (FK + F) ≠ some u) :
    ∃ M', Rel w0 O0 n M' ⟨tm, (B, some (et, dR F q)) :: (FK + F, some (te, dF q)) :: rw', bx⟩ a w' ∧ ∀ d v, ment (fun _ => true) (fun r => !Nat.beq r B) d = false → VR N A w' d v → VR M' (Ow (Fs w0 O0) M') w' d v := by
  have hBF := notF_lo hB
  have hBb := notF_big hBF
  have hne : FK + F ≠ B := fk_ne hF hBF
  let M' : Mp := ⟨M.β, fun x => match Nat.ble BIG x with
    | true => if unF x = F then N.γ x else M.γ x
    | false => if x = B then N.γ B else if x = FK + F then some none else M.γ x⟩
  have mB : M'.γ B = N.γ B := by simp [M', hBb]
  have mF : M'.γ (FK + F) = some none := by simp [M', fk_lo hF, hne]
  have mI : ∀ i, M'.γ (inn F i) = N.γ (inn F i) := fun i => by
    have e : ∀ x, Nat.ble BIG x = true → unF x = F → M'.γ x = N.γ x := fun x h1 h2 => by simp [M', h1, h2]
    exact e _ (inn_hi F i) (by rw [unF_inn, Nat.mod_eq_of_lt hF])
  have mG : ∀ x, Nat.ble BIG x = true → unF x ≠ F → M'.γ x = M.γ x := fun x h1 h2 => by simp [M', h1, h2]
  have mL : ∀ x, Nat.ble BIG x = false → x ≠ B → x ≠ FK + F → M'.γ x = M.γ x := fun x h1 h2 h3 => by simp [M', h1, h2, h3]
  have hfi : ∀ k, M.γ (inn F k) = none := fun k => h.rown _ (by rw [PS.r_hi _ (inn_hi F k), PS.inn_r, fk_unF hF, hfn]; rfl)
  have cases4 : ∀ x y, M'.γ x = some y → N.γ x = some y ∨ (M.γ x = some y ∧ x ≠ FK + F) ∨ (x = FK + F ∧ y = none) := fun x y hx => by
    cases hb : Nat.ble BIG x with
    | true =>
      by_cases hu : unF x = F
      · have : M'.γ x = N.γ x := by simp [M', hb, hu]
        rw [this] at hx; exact .inl hx
      · rw [mG x hb hu] at hx
        exact .inr (.inl ⟨hx, fun e => by rw [e, fk_lo hF] at hb; cases hb⟩)
    | false =>
      by_cases h1 : x = B
      · rw [h1, mB] at hx; rw [h1]; exact .inl hx
      · by_cases h2 : x = FK + F
        · rw [h2, mF] at hx; cases hx; exact .inr (.inr ⟨h2, rfl⟩)
        · rw [mL x hb h1 h2] at hx; exact .inr (.inl ⟨hx, h2⟩)
  have hown : ∀ k, M'.owned k → M.owned k ∨ N.owned k := by
    rintro k (⟨x, hx⟩ | ⟨r, c, z, hr⟩)
    · exact .inl (.inl ⟨x, hx⟩)
    · rcases cases4 r _ hr with h1 | ⟨h1, _⟩ | ⟨_, h1⟩
      · exact .inr (.inr ⟨r, c, z, h1⟩)
      · exact .inl (.inr ⟨r, c, z, h1⟩)
      · cases h1
  have hA0 : ∀ f k, k < w.heap.size → Ow (Fs w0 O0) M f k → Ow (Fs w0 O0) M' f k ∧ k < w'.heap.size ∧ w'.heap[k]? = w.heap[k]? := fun f k h1 h2 =>
    ⟨⟨fun h3 => by rcases hown k h3 with h4 | h4; exact h2.1 h4; have := hN.low k h4; omega, h2.2⟩, by have := hN.size; omega, hN.block k h1⟩
  have hA1 : ∀ f k, k < w'.heap.size → A f k → Ow (Fs w0 O0) M' f k ∧ k < w'.heap.size ∧ w'.heap[k]? = w'.heap[k]? := fun f k h1 h2 =>
    ⟨⟨fun h3 => by rcases hown k h3 with h4 | h4; exact (hA f k h1 h2).1.2 h4; exact (hA f k h1 h2).1.1 h4, (hA f k h1 h2).2⟩, h1, rfl⟩
  have hγ : ∀ x y, (Nat.beq x B || !notF x) = false → M'.γ x = some y → M.γ x = some y := fun x y h1 h2 => by
    rw [Bool.or_eq_false_iff] at h1
    have hn : notF x = true := by simpa using h1.2
    rw [mL x (notF_big hn) (fun e => by rw [e, Nat.beq_refl] at h1; cases h1.1) (fun e => fk_ne hF hn e.symm)] at h2
    exact h2
  have hbf : (Nat.beq BIG B || !notF BIG) = true := by
    have : notF BIG = false := by decide
    rw [this]; simp
  have oldrow : ∀ x e p, PS.r ⟨tm, rw', bx⟩ x = some (e, p) → M'.γ x = M.γ x → RowAt (Fs w0 O0) M' w' x e p := fun x e p hx hm => by
    rcases h.row x e p hx with ⟨g1, g2⟩ | ⟨g, cap, cur, g1, g2, g3, g4, g5, g6⟩
    · exact .inl ⟨hm.trans g1, g2⟩
    · have hlt := (Array.getElem?_eq_some_iff.1 g2).1
      refine .inr ⟨g, cap, cur, hm.trans g1, (hN.block g hlt).trans g2, g3, g4, g5, fun i j d hi hd => (g6 i j d hi hd).relem_any2 hd hA0 fun G hG k y hy => ?_⟩
      rcases lone_ok hl hx hG with h1 | ⟨h1, h2⟩
      · rw [h1, h9] at hx; cases hx
      · rw [mG _ (inn_hi G k) (by rw [unF_inn, Nat.mod_eq_of_lt h2]; exact h1)] at hy; exact hy
  have hPS : ∀ x, PS.r ⟨tm, (B, some (et, dR F q)) :: (FK + F, some (te, dF q)) :: rw', bx⟩ x = match Nat.ble BIG x with | true => (if unF x = F then famr (some (some (te, dF q))) (unK x) else PS.r ⟨tm, rw', bx⟩ x) | false => if x = B then some (et, dR F q) else if x = FK + F then some (te, dF q) else PS.r ⟨tm, rw', bx⟩ x := fun x => by
    rw [PS.r_app (s := ⟨tm, rw', bx⟩) (s' := ⟨tm, (B, some (et, dR F q)) :: (FK + F, some (te, dF q)) :: rw', bx⟩) (l := [(B, some (et, dR F q)), (FK + F, some (te, dF q))]) rfl, look_two', look_two']
    cases hbx : Nat.ble BIG x with
    | true =>
      have h1 : B ≠ FK + unF x := fun e => by have := notF_fk x; rw [← e, hBF] at this; cases this
      by_cases hu : unF x = F
      · simp [hu, Ne.symm hne]
      · simp [hu, Ne.symm hu, h1]
    | false =>
      by_cases hx : B = x
      · subst hx; simp
      · by_cases hxf : FK + F = x
        · rw [← hxf, if_neg (Ne.symm hne), if_pos rfl, if_neg hne, if_pos rfl]
        · simp [hx, hxf, Ne.symm hx, Ne.symm hxf]
  refine ⟨M', ⟨?_, h.dfr, h.sz, fun t => ?_, fun x ds hx => ?_, fun x hx => h.boxn x hx, fun x e p hx => ?_, fun x hx => ?_, fun k hk => ?_, h.inj1, fun x y k c z c' z' h1 h2 => ?_, fun x y k c z h1 h2 => ?_, h.nle, h.fxb, fun x u u' h1 h2 => ?_⟩, fun d v hd hv => ?_⟩
  · exact h.fr.step hN.os hN.tape hN.output hN.size fun k h1 _ => hN.block k (Nat.lt_of_lt_of_le h1 h.fr.size)
  · exact VR.new (b := fun _ => false) (r := fun r => Nat.beq r B || !notF r) hA0 hγ (fun _ _ _ h => h) (hf.t t) (h.tmp t) (hi := fun h0 => by rw [hbf] at h0; cases h0)
  · obtain ⟨k, cur', e', h1, h2, h3, h4⟩ := h.box x ds hx
    have hlt := (Array.getElem?_eq_some_iff.1 h2).1
    exact ⟨k, cur', e', h1, (hN.block k hlt).trans h2, h3, fun j d hd => VR.newS (b := fun _ => false) (r := fun r => Nat.beq r B || !notF r) hA0 hγ (fun _ _ _ h => h) (hf.b _ _ hx d (List.mem_of_getElem? hd)) (h4 j d hd) (hi := fun h0 => by rw [hbf] at h0; cases h0)⟩
  · rw [hPS] at hx
    cases hbx : Nat.ble BIG x with
    | true =>
      rw [hbx] at hx
      by_cases hu : unF x = F
      · have hxe : x = inn F (unK x) := by rw [← hu]; exact (inn_of hbx).symm
        simp only [hu, if_true] at hx
        rw [famr_dF hq] at hx
        generalize unK x = k0 at hx hxe
        split at hx
        · rename_i hk
          cases hx
          rw [hxe]
          rcases hN.inner _ hk with ⟨g1, g2⟩ | ⟨g, cap, cur, g1, g2, g3, g4, g5, g6⟩
          · exact .inl ⟨(mI _).trans g1, g2⟩
          · refine .inr ⟨g, cap, cur, (mI _).trans g1, g2, g3, g4, g5, fun i j d hi hd => ?_⟩
            have hd2 := hd
            rw [Sq.relem_eq (nn_refs q _)] at hd2
            exact (g6 i j d hi hd).elem_any hd2 hA1
        · cases hx
      · simp only [hu, if_false] at hx
        exact oldrow x e p hx (mG x hbx hu)
    | false =>
      rw [hbx] at hx
      simp only at hx
      split at hx
      · rename_i hxB
        cases hx
        subst hxB
        rcases hN.outer with ⟨g1, g2⟩ | ⟨g, cap, cur, g1, g2, g3, g4, g5, g6⟩
        · exact .inl ⟨mB.trans g1, by rw [dR_len]; exact g2⟩
        · refine .inr ⟨g, cap, cur, by rw [mB, dR_sz]; exact g1, g2, by rw [dR_len]; exact g3, g4, by rw [dR_sz]; exact g5, fun i j d hi hd => ?_⟩
          rw [dR_len] at hi
          rw [dR_sz]
          have hv := g6 i j d hi hd
          rcases dR_relem hq hi hd with ⟨rfl, _⟩ | ⟨y, rfl, _⟩
          · exact hv.irow_mv fun y hy => by rw [mI] at hy; exact hy
          · rw [hv.int_inv]; exact .int _
      rename_i hxB
      split at hx
      · rename_i hxf
        cases hx
        rw [hxf]
        exact .inl ⟨mF, dF_len q⟩
      · rename_i hxf
        exact oldrow x e p hx (mL x hbx hxB hxf)
  · rw [hPS] at hx
    cases hbx : Nat.ble BIG x with
    | true =>
      rw [hbx] at hx
      by_cases hu : unF x = F
      · have hxe : x = inn F (unK x) := by rw [← hu]; exact (inn_of hbx).symm
        simp only [hu, if_true] at hx
        rw [famr_dF hq] at hx
        split at hx
        · cases hx
        · rename_i hk
          rw [hxe, mI]
          refine hN.none _ (fun e => by have := inn_hi F (unK x); rw [e, hBb] at this; cases this) fun i hi e => hk ?_
          rw [(inn_inj e).2]; exact hi
      · simp only [hu, if_false] at hx
        rw [mG x hbx hu]; exact h.rown x hx
    | false =>
      rw [hbx] at hx
      simp only at hx
      split at hx
      · cases hx
      rename_i hxB
      split at hx
      · cases hx
      rename_i hxf
      rw [mL x hbx hxB hxf]; exact h.rown x hx
  · rcases hown k hk with h1 | h1
    · exact h.low k h1
    · exact .inl (Nat.le_trans h.fr.size (hN.low k h1))
  · have hx : ∀ r r' k c z c' z', M.γ r = some (some (k, c, z)) → N.γ r' = some (some (k, c', z')) → False := fun r r' k c z c' z' a1 a2 => by
      have := h.lt _ (.inr ⟨r, c, z, a1⟩); have := hN.low _ (.inr ⟨r', c', z', a2⟩); omega
    rcases cases4 x _ h1 with g1 | ⟨g1, _⟩ | ⟨_, g1⟩
    · rcases cases4 y _ h2 with g2 | ⟨g2, _⟩ | ⟨_, g2⟩
      · exact hN.inj _ _ _ _ _ _ _ g1 g2
      · exact (hx _ _ _ _ _ _ _ g2 g1).elim
      · cases g2
    · rcases cases4 y _ h2 with g2 | ⟨g2, _⟩ | ⟨_, g2⟩
      · exact (hx _ _ _ _ _ _ _ g1 g2).elim
      · exact h.inj2 _ _ _ _ _ _ _ g1 g2
      · cases g2
    · cases g1
  · rcases cases4 y _ h2 with g2 | ⟨g2, _⟩ | ⟨_, g2⟩
    · have := h.lt _ (.inl ⟨x, h1⟩); have := hN.low _ (.inr ⟨y, c, z, g2⟩); omega
    · exact h.inj3 _ _ _ _ _ h1 g2
    · cases g2
  · obtain ⟨h3, h4⟩ := O0.lor x u h1
    have hb1 : Nat.ble BIG x = false := by
      cases hb : Nat.ble BIG x with
      | false => rfl
      | true => have := Nat.le_of_ble_eq_true hb; omega
    by_cases hxf : x = FK + F
    · rw [hxf] at h1; exact absurd h1 (hO u)
    · rw [mL x hb1 (by omega) hxf] at h2; exact h.fxr x u u' h1 h2
  · refine VR.new (b := fun _ => true) (r := fun r => !Nat.beq r B) hA1 (fun x y h1 h2 => ?_) (fun x k hx => by simp at hx) hd hv (hi := fun h0 => ?_)
    · have : x = B := Nat.eq_of_beq_eq_true (by simpa using h1)
      rw [this, mB] at h2; rw [this]; exact h2
    · have : BIG = B := Nat.eq_of_beq_eq_true (by simpa using h0)
      rw [← this] at hBb
      exact absurd hBb (by decide)
theorem oCallD (F : Nat) {f : FuncId} {args : Array Operand} {ts : Array TypeId} {ds : List D} {et te : TypeId} {q : Sq} {d d' : D} (hp : PCallD C.P f ds et te q d) (hg : o.guard = none) (hop : o.op = .call { callee := .value (.func f), args := args, argTypes := ts }) {b : Nat} (hd : o.dst = some b) (hn : Nat.blt b C.n = true) (hno : (ds.all noIds) = true)
    (hm : ment (fun _ => true) (fun r => !Nat.beq r (rowB b)) (ren id (fun j => rowB b + j) d) = false) (hx : (fcD (ren id (fun j => rowB b + j) d) some) = some d') (hf : frB ⟨tm, rw', bx⟩ (fun _ => false) (fun r => Nat.beq r (rowB b) || !notF r) = true) (hl : lone ⟨tm, rw', bx⟩ 999999 F = true) (h9 : PS.r ⟨tm, rw', bx⟩ 999999 = none) (hfn : PS.r ⟨tm, rw', bx⟩ (FK + F) = none) (hO : ∀ u, C.O0.fr (FK + F) ≠ some u) (hfit : fits ⟨tm, rw', bx⟩ args.toList ds)
    (h : VO C ops K rest ⟨(b, d') :: tm, (rowB b, some (et, dR F q)) :: (FK + F, some (te, dF q)) :: rw', bx⟩) (hF : Nat.blt F 4294967296 = true := by rfl) : VO C ops K (o :: rest) ⟨tm, rw', bx⟩ := by
  refine vOp hg ⟨fun M a w Q K' hr hk => ?_⟩
  rw [Nat.blt_eq] at hF
  rw [fcD_eq] at hx
  cases hx
  have hb1000 : b < 1000 := by have := hr.nle; rw [Nat.blt_eq] at hn; omega
  have hrun : (execOp a.eval o).run C.P w = .ok (.enter f (args.map a.eval)) w := by
    have := hp.enter (args.map a.eval) w
    unfold execOp
    rw [hop]
    show ((do let d ← resolve a.eval _ o.type; invoke d.target d.args : Sem Next)).run C.P w = _
    simp only [resolve]
    show ((callFunc f ((#[] ++ args.map a.eval) ++ #[])) : Sem Next).run C.P w = _
    rw [show (#[] ++ args.map a.eval) ++ #[] = args.map a.eval by simp]
    exact this
  unfold Oper.wp
  rw [hrun]
  refine (hp.run w _ (fits_args hr hfit hno)).mono ?_
  rintro e w' ⟨v, rfl, hB⟩
  obtain ⟨N, hN, hv⟩ := hB (rowB b) F (by simp only [rowB]; omega) hF
  obtain ⟨M', h1, h2⟩ := hr.newDeep hp.deep hN hF (by simp only [rowB]; omega) (fun f k hk hA => ⟨⟨hA.2, fun ho => by have := hr.lt k ho; have := hA.1; omega⟩, .inl (Nat.le_trans hr.fr.size hA.1)⟩) (frB_ok hf) hl h9 hfn hO
  refine hk M' _ _ _ h ?_
  rw [hd]
  exact h1.put (o := some b) hn (h2 _ _ hm hv)
end
end Go.Proofs.Ytmoamglpocjhgaa

/-! ## the end of such a function -/
namespace Go.Proofs.Ytmoamglpocjhgaa
open Go.RowKit Go.Deep
set_option linter.unusedSimpArgs false
set_option linter.unusedVariables false
theorem mentA_ne {b r : Nat → Bool} {d : D} (h : ∀ l, d ≠ .agg l) : mentA b r d = mentS b r d := by cases d <;> first | rfl | exact absurd rfl (h _)
theorem ment_ne {b r : Nat → Bool} {d : D} (h : ∀ l, d ≠ .tup l) : ment b r d = mentA b r d := by cases d <;> first | rfl | exact absurd rfl (h _)
theorem renA_ne {τ σ : Nat → Nat} {d : D} (h : ∀ l, d ≠ .agg l) : renA τ σ d = renS τ σ d := by cases d <;> first | rfl | exact absurd rfl (h _)
theorem ren_ne {τ σ : Nat → Nat} {d : D} (h : ∀ l, d ≠ .tup l) : ren τ σ d = renA τ σ d := by cases d <;> first | rfl | exact absurd rfl (h _)
theorem renS_agg {τ σ : Nat → Nat} (d : D) : ∀ l, renS τ σ d ≠ .agg l := by cases d <;> intro l h <;> cases h
theorem renA_tup {τ σ : Nat → Nat} (d : D) : ∀ l, renA τ σ d ≠ .tup l := by cases d <;> intro l h <;> cases h
theorem ment_one {B : Nat} : ∀ d : D, ment (fun _ => true) (fun j => !Nat.blt j 1) d = false → ment (fun _ => true) (fun r => !Nat.beq r B) (ren id (fun j => B + j) d) = false := by
  have keyS : ∀ d : D, mentS (fun _ => true) (fun j => !Nat.blt j 1) d = false → mentS (fun _ => true) (fun r => !Nat.beq r B) (renS id (fun j => B + j) d) = false := fun d hd => by
    cases d <;> simp only [mentS, renS] at hd ⊢ <;> try (first | exact hd | rfl)
    · rename_i x _ _
      have h1 : x < 1 := by simpa using hd
      have : x = 0 := by omega
      subst this; simp [Nat.beq_refl]
    · rename_i x _ _
      have h1 : x < 1 := by simpa using hd
      have : x = 0 := by omega
      subst this; simp [Nat.beq_refl]
    · rename_i f bs
      simpa using hd
    · exact absurd hd (by decide)
    · exact absurd hd (by decide)
  have keyA : ∀ d : D, mentA (fun _ => true) (fun j => !Nat.blt j 1) d = false → mentA (fun _ => true) (fun r => !Nat.beq r B) (renA id (fun j => B + j) d) = false := fun d hd => by
    by_cases ha : ∃ l, d = .agg l
    · obtain ⟨l, rfl⟩ := ha
      simp only [mentA, renA, List.any_eq_false, List.mem_map] at hd ⊢
      rintro x ⟨y, hy, rfl⟩
      have := keyS y (by simpa using hd y hy)
      simp [this]
    · have hne : ∀ l, d ≠ .agg l := fun l e => ha ⟨l, e⟩
      rw [mentA_ne hne] at hd
      rw [renA_ne hne, mentA_ne (renS_agg d)]
      exact keyS d hd
  intro d hd
  by_cases ha : ∃ l, d = .tup l
  · obtain ⟨l, rfl⟩ := ha
    simp only [ment, ren, List.any_eq_false, List.mem_map] at hd ⊢
    rintro x ⟨y, hy, rfl⟩
    have := keyA y (by simpa using hd y hy)
    simp [this]
  · have hne : ∀ l, d ≠ .tup l := fun l e => ha ⟨l, e⟩
    rw [ment_ne hne] at hd
    rw [ren_ne hne, ment_ne (renA_tup d)]
    exact keyA d hd
def RetPD (TT : List (Nat × Ty)) (res : List ResultVar) (et te : TypeId) (q : Sq) (d : D) : Exit → PS → Prop := fun e s => match e with
  | .normal | .ret => ∃ R F d', Nat.blt F 4294967296 = true ∧ retD TT s res = some d' ∧ s.r R = some (et, dR F q) ∧ s.r (FK + F) = some (te, dF q) ∧ notF R = true ∧ Wk d' (ren id (fun _ => R) d) ∧ okD 1 d = true
  | _ => False
theorem pcallD_intro {P : Program} {f : FuncId} {fn : Func} {c : Code} {TT : List (Nat × Ty)} {ds : List D} {et te : TypeId} {q : Sq} {d : D} {n : Nat} {res : List ResultVar} (hT : TTOK P TT) (hf : P.funcs[f]? = some fn) (hb : fn.body = some c)
    (hname : (fn.name == "runtime.NumGoroutine") = false) (hn : fn.ntmps = n) (hres : fn.results.toList = res) (hds : Nat.ble ds.length n = true) (hno : (ds.all fun d => noIds d && nwD false d) = true) (hq : q.deep = true)
    (h : ∀ w0, VC ⟨P, w0, Hd.no, n⟩ c (RetPD TT res et te q d) ⟨entL 0 ds, [], []⟩) (hn1000 : Nat.ble n 1000 = true := by rfl) : PCallD P f ds et te q d := by
  subst hn hres
  refine ⟨callFunc_of hf hname (by simp [hb]), hq, fun w0 args ⟨hsz, hargs⟩ => ?_⟩
  have hle := Nat.le_of_ble_eq_true hds
  have hent : Rel w0 Hd.no fn.ntmps M0 ⟨entL 0 ds, [], []⟩ { tmps := args ++ Array.replicate (fn.ntmps - args.size) undef, defers := [] } w0 := by
    refine ⟨⟨rfl, rfl, rfl, Nat.le_refl _, fun _ _ _ => rfl⟩, rfl, by simp; omega, fun t => ?_, fun b cs hb => by simp [PS.b, look] at hb, fun _ _ => rfl, fun r e q hr => (by rw [r_ent] at hr; cases hr), fun _ _ => rfl, ?_, by simp, by simp, by simp, Nat.le_of_ble_eq_true hn1000, by simp, by simp⟩
    · simp only [PS.t, look_entL, Nat.zero_le, if_true, Nat.sub_zero]
      cases hd : ds[t]? with
      | none => exact .dead _
      | some d0 =>
        have hlt : t < args.size := by rw [hsz]; exact (List.getElem?_eq_some_iff.1 hd).1
        have h1 := hargs t d0 hd
        have h2 : (args ++ Array.replicate (fn.ntmps - args.size) undef).getD t undef = args.getD t undef := by
          simp [Array.getElem?_append_left hlt]
        rw [h2]
        have h4 := (List.all_eq_true.1 hno) d0 (List.mem_of_getElem? hd)
        simp only [Bool.and_eq_true] at h4
        refine VR.new (b := fun _ => true) (r := fun _ => true) (A := fun f _ => True ∧ f = false) (fun f b hb hf => ⟨⟨?_, .inr hf.2⟩, hb, rfl⟩) (fun x y hx => by simp at hx) (fun x y hx => by simp at hx) ?_ (h1.flag h4.2)
        · simpa [noIds] using h4.1
        · rintro (⟨x, hx⟩ | ⟨x, c, z, hx⟩) <;> simp at hx
    · rintro k (⟨x, hx⟩ | ⟨x, c, z, hx⟩) <;> simp at hx
  refine calls_of_wp hf hb (Code.wp_mono ?_ ((h w0).out M0 _ w0 hent))
  rintro e a' w' ⟨s', M', hqq, hr⟩
  have fin : ∀ (hq' : ∃ R F d', Nat.blt F 4294967296 = true ∧ retD TT s' fn.results.toList = some d' ∧ s'.r R = some (et, dR F q) ∧ s'.r (FK + F) = some (te, dF q) ∧ notF R = true ∧ Wk d' (ren id (fun _ => R) d) ∧ okD 1 d = true),
      a'.defers = [] ∧ ∃ v, (results fn a'.tmps).run P w' = .ok v w' ∧ ∃ v', Ending.returned v = .returned v' ∧ ∀ B F, B ≤ 500000 → F < 4294967296 → ∃ N, NewD N (Rs w0 N) w0 w' B F et te q ∧ VR N (Rs w0 N) w' (ren id (fun j => B + j) d) v' := by
    rintro ⟨R, F0, d', hF0, h1, hR, hf0, hFR, h4, h5⟩
    rw [Nat.blt_eq] at hF0
    obtain ⟨v, h6, h7⟩ := ret_ok hT hr h1
    replace h7 := h7.wk h4
    refine ⟨hr.dfr, v, h6, v, rfl, fun B F hB0 hF => ?_⟩
    have hB : B < 1000000 := by omega
    have hBb := notF_big (notF_lo hB)
    simp only [okD, Bool.and_eq_true, Bool.not_eq_true'] at h5
    obtain ⟨⟨k1, k2⟩, k3⟩ := h5
    let M1 : Mp := ⟨fun _ => none, fun j => if j = 0 then M'.γ R else none⟩
    let N : Mp := ⟨fun _ => none, fun y => if y = B then M'.γ R else if Nat.ble BIG y = true ∧ unF y = F ∧ unK y < q.len then M'.γ (inn F0 (unK y)) else none⟩
    have nB : N.γ B = M'.γ R := by simp [N]
    have nI : ∀ i, i < q.len → N.γ (inn F i) = M'.γ (inn F0 i) := fun i hi => by
      have e : ∀ x, x ≠ B → (Nat.ble BIG x = true ∧ unF x = F ∧ unK x < q.len) → N.γ x = M'.γ (inn F0 (unK x)) := fun x h1 h2 => by simp [N, h1, h2]
      have := e (inn F i) (fun e => by have := inn_hi F i; rw [e, hBb] at this; cases this) ⟨inn_hi F i, by rw [unF_inn, Nat.mod_eq_of_lt hF], by rw [unK_inn]; exact hi⟩
      rwa [unK_inn] at this
    have nC : ∀ y z, N.γ y = some z → (y = B ∧ M'.γ R = some z) ∨ ∃ i, i < q.len ∧ y = inn F i ∧ M'.γ (inn F0 i) = some z := fun y z hy => by
      by_cases hyB : y = B
      · rw [hyB, nB] at hy; exact .inl ⟨hyB, hy⟩
      · simp only [N, hyB, if_false] at hy
        split at hy
        · rename_i hc
          exact .inr ⟨_, hc.2.2, by rw [← hc.2.1]; exact (inn_of hc.1).symm, hy⟩
        · cases hy
    have hNo : ∀ k, N.owned k → M'.owned k := by
      rintro k (⟨b, hb⟩ | ⟨y, c, z, hy⟩)
      · cases hb
      · rcases nC y _ hy with ⟨_, h1⟩ | ⟨i, _, _, h1⟩
        · exact .inr ⟨_, c, z, h1⟩
        · exact .inr ⟨_, c, z, h1⟩
    have hlow : ∀ k, M'.owned k → w0.heap.size ≤ k := fun k hk => (hr.low k hk).resolve_right (fun h => h)
    have hA : ∀ f b, b < w'.heap.size → (Ow (Fs w0 Hd.no) M' f b ∧ f = true) → Rs w0 N f b ∧ b < w'.heap.size ∧ w'.heap[b]? = w'.heap[b]? := fun f b hb hh =>
      ⟨⟨hh.1.2.resolve_right (fun h => by rw [hh.2] at h; cases h), fun ho => hh.1.1 (hNo b ho)⟩, hb, rfl⟩
    have hdeep := deep_r hF0 hq hf0
    have hRb := notF_big hFR
    refine ⟨N, ⟨hr.fr.os, hr.fr.tape, hr.fr.output, hr.fr.size, fun k hk => hr.fr.block k hk (fun h => h), fun _ => rfl, ?_, fun i hi => ?_, fun x hx hxi => ?_, fun k hk => hlow k (hNo k hk), fun r r' k c z c' z' a1 a2 => ?_⟩, ?_⟩
    · rcases hr.row _ _ _ hR with ⟨b1, b2⟩ | ⟨g, cap, cur, b1, b2, b3, b4, b5, b6⟩
      · exact .inl ⟨nB.trans b1, by rw [dR_len] at b2; exact b2⟩
      · rw [dR_len] at b3 b6
        rw [dR_sz] at b1 b5 b6
        refine .inr ⟨g, cap, cur, nB.trans b1, b2, b3, b4, b5, fun i j d0 hi hd => ?_⟩
        rcases dR_relem hq hi hd with ⟨rfl, hro⟩ | ⟨y, rfl, hro⟩
        · have : ((dR F0 q).relem i)[j]? = some (.irow F0 i (q.nn i).len) := by
            rcases dR_elem (F := F0) hq hi (hro true) with ⟨_, h2⟩ | ⟨y, h2, _⟩
            · exact h2
            · cases h2
          exact (b6 i j _ hi this).irow_mv fun y hy => by rw [nI i hi] at hy; exact hy
        · have : ((dR F0 q).relem i)[j]? = some (.int y) := by
            rcases dR_elem (F := F0) hq hi (hro true) with ⟨h2, _⟩ | ⟨y', h2, h3⟩
            · cases h2
            · cases h2; exact h3
          rw [(b6 i j _ hi this).int_inv]; exact .int _
    · have hin := hdeep i
      rw [if_pos hi] at hin
      rcases hr.row _ _ _ hin with ⟨b1, b2⟩ | ⟨g, cap, cur, b1, b2, b3, b4, b5, b6⟩
      · exact .inl ⟨(nI i hi).trans b1, b2⟩
      · refine .inr ⟨g, cap, cur, (nI i hi).trans b1, b2, b3, b4, b5, fun i' j d0 hi' hd => ?_⟩
        have h8 := b6 i' j d0 hi' hd
        rw [Sq.relem_eq (nn_refs q i)] at hd
        have hfl : nwS true d0 = true ∧ sameD d0 d0 := elem_new true (q.nn i) i' j d0 hd
        exact (h8.flagE (M' := M') hfl.2 hfl.1).elem_any hd hA
    · cases hx' : N.γ x with
      | none => rfl
      | some z =>
        rcases nC x z hx' with ⟨h1, _⟩ | ⟨i, h1, h2, _⟩
        · exact absurd h1 hx
        · exact absurd h2 (hxi i h1)
    · rcases nC r _ a1 with ⟨e1, b1⟩ | ⟨i, i1, e1, b1⟩
      · rcases nC r' _ a2 with ⟨e2, b2⟩ | ⟨i', i2, e2, b2⟩
        · rw [e1, e2]
        · have := hr.inj2 _ _ _ _ _ _ _ b1 b2
          have h9 := inn_hi F0 i'
          rw [← this, hRb] at h9; cases h9
      · rcases nC r' _ a2 with ⟨e2, b2⟩ | ⟨i', i2, e2, b2⟩
        · have := hr.inj2 _ _ _ _ _ _ _ b1 b2
          have h9 := inn_hi F0 i
          rw [this, hRb] at h9; cases h9
        · have := hr.inj2 _ _ _ _ _ _ _ b1 b2
          rw [e1, e2, (inn_inj this).2]
    · have h8 : VR M1 (Ow (Fs w0 Hd.no) M') w' d v := VR.unren (M' := M') (A' := Ow (Fs w0 Hd.no) M') (τ := id) (σ := fun _ => R) (fun r x hx => by
        simp only [M1] at hx
        split at hx
        · exact hx
        · cases hx) (fun b k hb => by simp [M1] at hb) (fun _ _ _ h => h) k2 h7 (hi := fun r x hr1 hx => by
        simp only [M1] at hx
        split at hx
        · rename_i h0
          subst h0
          exact absurd hr1 (by decide)
        · cases hx)
      have hbk : ∀ r x, BIG ≤ r → M1.γ r = some x → False := fun r x hr1 hx => by
        simp only [M1] at hx
        split at hx
        · rename_i h0; subst h0; exact absurd hr1 (by decide)
        · cases hx
      have hment : ment (fun _ => true) (fun j => !Nat.blt j 1) d = false := k1
      -- the names of d are 0 alone
      have h9 : VR N (Rs w0 N) w' (ren id (fun j => B + j) d) v := by
        let N1 : Mp := ⟨fun _ => none, fun y => if y = B then M'.γ R else none⟩
        have h10 : VR N1 (Rs w0 N) w' (ren id (fun j => B + j) d) v := VR.ren (M := M1) hA (fun r x hx => by
          simp only [N1] at hx
          split at hx
          · rename_i h0
            have : r = 0 := by omega
            simp only [M1, this, if_true]
            exact hx
          · cases hx) (fun b k hb => by simp [N1] at hb) (h8.flag k3) (hi := fun r x hr1 hx => by
          simp only [N1] at hx
          split at hx
          · rename_i h0
            rw [← h0, Nat.ble_eq_true_of_le hr1] at hBb; cases hBb
          · cases hx)
        have hm2 : ment (fun _ => true) (fun r => !Nat.beq r B) (ren id (fun j => B + j) d) = false := ment_one d hment
        refine VR.new (b := fun _ => true) (r := fun r => !Nat.beq r B) (fun f b hb ha => ⟨ha, hb, rfl⟩) (fun x y hx hy => ?_) (fun x k hx => by simp at hx) hm2 h10 (hi := fun h0 => ?_)
        · have : x = B := Nat.eq_of_beq_eq_true (by simpa using hx)
          rw [this, nB] at hy
          simp only [N1, this, if_true]; exact hy
        · have : BIG = B := Nat.eq_of_beq_eq_true (by simpa using h0)
          rw [← this] at hBb; exact absurd hBb (by decide)
      exact h9
  cases e with
  | normal => exact fin hqq
  | ret => exact fin hqq
  | _ => exact hqq.elim
end Go.Proofs.Ytmoamglpocjhgaa

namespace Go.Proofs.Ytmoamglpocjhgaa
open Go.RowKit Go.Deep
set_option linter.unusedSimpArgs false
set_option linter.unusedVariables false
/-! ### texts -/
theorem getD_set_eq {α : Type} (X : List α) (i j : Nat) (c z : α) (hi : i < X.length) : (X.set i c).getD j z = if j = i then c else X.getD j z := by
  by_cases h : j = i
  · subst h; simp [hi]
  · simp [List.getD_eq_getElem?_getD, List.getElem?_set, Ne.symm h, h]
theorem idr_set (X : List (Int × List Int)) (i : Nat) (p : Int) (c : List Int) (hi : i < X.length) : idr (X.set i (p, c)) = (idr X).set i (p, i, c.length) := by
  apply List.ext_getElem
  · simp [idr]
  · intro j h1 h2
    simp only [idr, List.length_map, List.length_zipIdx, List.length_set] at h1 h2
    by_cases h : i = j
    · subst h; simp [idr]
    · simp [idr, List.getElem_set, h]
/-- an outer cell was set to a row at the end of the family -/
theorem re_gen {F : Nat} {qR q' : Sq} {fq : Fq} {i m : Nat} (hd : q'.deep = true) (hlen : q'.len = qR.len) (hsz : q'.sz = qR.sz) (hm : q'.len ≤ m) (h1 : ∀ j, j < q'.len → j ≠ i → fq.get j = some (q'.nn j)) (h2 : i < q'.len → fq.get m = some (q'.nn i))
    (h3 : ∀ (j k : Nat), j < q'.len → j ≠ i → (qR.relem j)[k]? = ((dR F q').relem j)[k]?) (h4 : ∀ (k n : Nat), i < q'.len → (((dR F q').relem i)[k]? = some (D.irow F i n) → (qR.relem i)[k]? = some (D.irow F m n)) ∧ ∀ x : Int, ((dR F q').relem i)[k]? = some (D.int x) → (qR.relem i)[k]? = some (D.int x)) : ReOK F qR fq q' := by
  refine ⟨hd, hlen, hsz, fun j => if j = i then m else j, fun j hj => ?_, fun j k hj hk e => ?_, fun j k n hj => ?_⟩
  · by_cases h : j = i
    · subst h; simp only [if_true]; exact h2 hj
    · simp only [h, if_false]; exact h1 j hj h
  · simp only at e
    split at e <;> split at e <;> omega
  · by_cases h : j = i
    · subst h; simp only [if_true]; exact h4 k n hj
    · simp only [h, if_false]
      rw [h3 j k hj h]
      exact ⟨fun h => h, fun _ h => h⟩
/-- the cells of a struct set one behind the other -/
theorem idr_two (X : List (Int × List Int)) (i m n : Nat) (p : Int) (hi : i < X.length) : (((idr X).set i (p, ((idr X).getD i (0, NIL, 0)).2)).set i ((((idr X).set i (p, ((idr X).getD i (0, NIL, 0)).2)).getD i (0, NIL, 0)).1, m, n)) = (idr X).set i (p, m, n) := by
  rw [getD_set_eq _ _ _ _ _ (by rw [idr_len]; exact hi), if_pos rfl, List.set_set]
theorem reR (F : Nat) (X : List (Int × List Int)) (i : Nat) (p : Int) (c : List Int) (L : List (Option (List Int))) (hi : i < X.length) (hL : ∀ j, j ≠ i → L.getD j none = (X.map fun x => some x.2).getD j none) (hl : L.length = X.length) :
    ReOK F (.rrefs F (((idr X).set i (p, ((idr X).getD i (0, NIL, 0)).2)).set i ((((idr X).set i (p, ((idr X).getD i (0, NIL, 0)).2)).getD i (0, NIL, 0)).1, L.length, c.length))) (.ints (L ++ [some c])) (.raises (X.set i (p, c))) := by
  rw [idr_two _ _ _ _ _ hi]
  have hidn : ∀ j, ((idr X).set i (p, L.length, c.length)).getD j (0, NIL, 0) = if j = i then (p, L.length, c.length) else (idr X).getD j (0, NIL, 0) := fun j => getD_set_eq _ _ _ _ _ (by rw [idr_len]; exact hi)
  refine re_gen (i := i) (m := L.length) rfl (by simp [Sq.len, idr_len]) rfl (by simp [Sq.len, hl]) (fun j hj hne => ?_) (fun _ => ?_) (fun j k hj hne => ?_) fun k n _ => ⟨fun h => ?_, fun x h => ?_⟩
  · simp only [Sq.len, List.length_set] at hj
    have : (L ++ [some c]).getD j none = (X.map fun x => some x.2).getD j none := by rw [getD_snoc, if_neg (by omega), hL j hne]
    simp only [Fq.get, this]
    simp [Sq.nn, hj, List.getElem_set, Ne.symm hne]
  · simp [Fq.get, Sq.nn, getD_snoc, hi]
  · simp only [Sq.len, List.length_set] at hj
    simp only [dR, Sq.relem, hidn, hne, if_false]
    rw [idr_set _ _ _ _ hi, getD_set_eq _ _ _ _ _ (by rw [idr_len]; exact hi), if_neg hne]
  · simp only [dR, Sq.relem] at h ⊢
    rw [idr_set _ _ _ _ hi, getD_set_eq _ _ _ _ _ (by rw [idr_len]; exact hi), if_pos rfl] at h
    rw [hidn, if_pos rfl]
    rcases k with _ | _ | k
    · simp at h
    · simp at h ⊢; exact h
    · simp at h
  · simp only [dR, Sq.relem] at h ⊢
    rw [idr_set _ _ _ _ hi, getD_set_eq _ _ _ _ _ (by rw [idr_len]; exact hi), if_pos rfl] at h
    rw [hidn, if_pos rfl]
    rcases k with _ | _ | k
    · simp at h ⊢; exact h
    · simp at h
    · simp at h
theorem idr_set0 (X : List (Int × List Int)) (i : Nat) (p : Int) (hi : i < X.length) : (idr X).set i (p, ((idr X).getD i (0, NIL, 0)).2) = idr (X.set i (p, (X.getD i (0, [])).2)) := by
  rw [idr_set _ _ _ _ hi, idr_get _ _ hi]
theorem map_set0 (X : List (Int × List Int)) (i : Nat) (p : Int) (hi : i < X.length) : (X.map fun x => some x.2) = ((X.set i (p, (X.getD i (0, [])).2)).map fun x => some x.2) := by
  apply List.ext_getElem
  · simp
  · intro j h1 h2
    by_cases h : i = j
    · subst h; simp [hi]
    · simp [List.getElem_set, h]
theorem inR (F : Nat) (X : List (Int × List Int)) (k : Nat) (c : List Int) (hk : k < X.length) (hc : c.length = (X.getD k (0, [])).2.length) : SetIn F (.raises X) (.raises (X.set k ((X.getD k (0, [])).1, c))) k (.ints c) := by
  refine ⟨fun j => ?_, ?_⟩
  · rw [famOf_get rfl, famOf_get rfl]
    simp only [Sq.len, List.length_set, Sq.nn, getD_set_eq _ _ _ _ _ hk]
    by_cases h : j = k
    · subst h; simp [hk]
    · simp [h]
  · simp only [dR]
    rw [idr_set _ _ _ _ hk, hc]
    congr 1
    apply List.ext_getElem
    · simp
    · intro j h1 h2
      by_cases h : k = j
      · subst h; simp [idr, hk]
      · simp [List.getElem_set, h]
section
variable {C : Cx} {ops : Array Oper} {K : PS → Prop} {o : Oper} {rest : List Oper} {s : PS} {TT : List (Nat × Ty)} {tm : List (Nat × D)} {rw' : List (Nat × Option (TypeId × Sq))} {bx : List (Nat × Option (List D))} {cr B : List Nat} {j : Nat}
/-- a reference, read -/
theorem sLoadD (hT : TTOK C.P TT) {t et : TypeId} {e : TypeId} {kk : Sq} {by' : Nat} {x : Operand} {R F off m : Nat} {i : Int} {q : Sq} (hop : o.op = .load t x) (hy : look TT t = some (.sl e kk by')) (hx : s.ev x = .eptr R i off) (hR : s.r R = some (et, dR F q)) (hq : q.deep = true) (hoff : Nat.beq (off + 1) q.sz = true) (hm : (q.nn i.toNat).len = m) (hi : 0 ≤ i ∧ i < (q.len : Int)) (ho : dstOk C.n o.dst = true)
    (h : K (s.put o.dst (.irow F i.toNat m))) : Step C o s K := by
  have hi' : i.toNat < q.len := by omega
  have hoff' := Nat.eq_of_beq_eq_true hoff
  have hd : ((dR F q).relem i.toNat)[off]? = some (.irow F i.toNat m) := by
    have hlt : off < q.sz := by omega
    obtain ⟨d', hd'⟩ : ∃ d', (q.elem true i.toNat)[off]? = some d' := ⟨_, List.getElem?_eq_getElem (by rw [Sq.elem_len]; exact hlt)⟩
    rcases dR_elem (F := F) hq hi' hd' with ⟨_, h2⟩ | ⟨y, h1, _⟩
    · rw [hm] at h2; exact h2
    · exfalso
      subst h1
      cases q <;> first | (cases hq; done) | skip
      case raises X => simp [Sq.sz] at hoff'; subst hoff'; simp [Sq.elem] at hd'
      all_goals (simp [Sq.sz] at hoff'; subst hoff'; simp [Sq.elem] at hd')
  refine sRun (d := .irow F i.toNat m) (fun M a w hr => ?_) ho h
  have hv : evalV TT s (.load t x) = some (0 ≤ i ∧ i < ((dR F q).len : Int), .irow F i.toNat m) := by
    simp only [evalV, hx, ptrCells, hR, hy]
    have : ((dR F q).relem i.toNat).drop off = .irow F i.toNat m :: ((dR F q).relem i.toNat).drop (off + 1) := by
      obtain ⟨h1, h2⟩ := List.getElem?_eq_some_iff.1 hd
      rw [List.drop_eq_getElem_cons h1, h2]
    rw [this]
  obtain ⟨v, h1, h2⟩ := load_ok (P := C.P) hT hr hv (by rw [dR_len]; exact hi)
  refine ⟨v, ?_, h2⟩
  unfold execOp
  rw [hop]
  show ((do pure (Next.value (← Instr.loadAt t (a.eval x))) : Sem Next)).run C.P w = _
  rw [Sem.run_bind, h1]; rfl
theorem oLoadD (hT : TTOK C.P TT) (hw : Wanted C ops o ⟨tm, rw', bx⟩) {t et : TypeId} {e : TypeId} {kk : Sq} {by' : Nat} {x : Operand} {R F off m b : Nat} {i : Int} (q : Sq) (hop : o.op = .load t x) (hy : look TT t = some (.sl e kk by')) (hx : (PS.ev ⟨tm, rw', bx⟩ x) = .eptr R i off) (hR : PS.r ⟨tm, rw', bx⟩ R = some (et, dR F q)) (hq : q.deep = true) (hoff : Nat.beq (off + 1) q.sz = true) (hm : (q.nn i.toNat).len = m) (hd : o.dst = some b) (hn : Nat.blt b C.n = true) (hi : 0 ≤ i ∧ i < (q.len : Int))
    (h : VO C ops K rest ⟨(b, .irow F i.toNat m) :: tm, rw', bx⟩) : VO C ops K (o :: rest) ⟨tm, rw', bx⟩ :=
  oStepW hw (sLoadD hT hop hy hx hR hq hoff hm hi (by rw [hd]; exact hn) (by rw [hd]; exact h))
end
end Go.Proofs.Ytmoamglpocjhgaa

namespace Go.Proofs.Ytmoamglpocjhgaa
open Go.RowKit Go.Deep
set_option linter.unusedSimpArgs false
set_option linter.unusedVariables false
section
variable {C : Cx} {tm : List (Nat × D)} {rw' : List (Nat × Option (TypeId × Sq))} {bx : List (Nat × Option (List D))} {s' : PS}
theorem En.adoptA (t p r R F : Nat) {n : Nat} {dl : List D} {et te : TypeId} {c q : Sq} {fq fq' : Fq} (ht : PS.t ⟨tm, rw', bx⟩ t = .agg dl) (hp0 : dl[p]? = some (.row r 0 n)) (hr : PS.r ⟨tm, rw', bx⟩ r = some (te, c)) (hn : n = c.len) (hf : PS.r ⟨tm, rw', bx⟩ (FK + F) = some (te, .fam fq)) (hR : PS.r ⟨tm, rw', bx⟩ R = some (et, dR F q))
    (hq : q.deep = true) (hlen : q.len = fq.len) (hp : fq.push c = some fq') (hl : lone ⟨tm, rw', bx⟩ R F = true) {dl' : List D} (hd' : dl' = (dl.map (klXS r)).set p (.irow F fq.len n))
    (hnf : nf ⟨(t, .agg dl') :: (PS.killX ⟨tm, rw', bx⟩ r).tmp, (r, none) :: (FK + F, some (te, .fam fq')) :: rw', (PS.killX ⟨tm, rw', bx⟩ r).box⟩ = some s') (hF : Nat.blt F 4294967296 = true := by rfl) (hr1 : Nat.blt r 1000000 = true := by rfl) (hFR : notF R = true := by rfl) (hrR : Nat.beq r R = false := by rfl) : En C ⟨tm, rw', bx⟩ s' := ⟨fun M a w h => by
  rw [nf_ok hnf]
  rw [Nat.blt_eq] at hF hr1
  subst hn hd'
  have hne : r ≠ R := fun e => by subst e; rw [Nat.beq_refl] at hrR; cases hrR
  have hget := Fq.get_push hp
  have hrn := notF_lo hr1
  let g : Nat → Nat := fun k => if k = fq.len then r else inn F k
  have hinnr : ∀ k, inn F k ≠ r := fun k e => by have := inn_hi F k; rw [e, notF_big hrn] at this; cases this
  have hown : ∀ k, (famM M r F fq' g).owned k → M.owned k := by
    rintro k (⟨b, hb⟩ | ⟨y, c, z, hy⟩)
    · exact .inl ⟨b, hb⟩
    · simp only [famM] at hy
      split at hy
      · split at hy
        · split at hy
          · exact .inr ⟨_, c, z, hy⟩
          · cases hy
        · exact .inr ⟨_, c, z, hy⟩
      · split at hy
        · cases hy
        · exact .inr ⟨_, c, z, hy⟩
  have hA : ∀ f b, b < w.heap.size → Ow (Fs C.w0 C.O0) M f b → Ow (Fs C.w0 C.O0) (famM M r F fq' g) f b ∧ b < w.heap.size ∧ w.heap[b]? = w.heap[b]? := fun f b h1 h2 => ⟨⟨fun h3 => h2.1 (hown b h3), h2.2⟩, h1, rfl⟩
  have hγ' : ∀ x y, x ≠ r → notF x = true → (famM M r F fq' g).γ x = some y → M.γ x = some y := fun x y h1 h2 h3 => by rw [famM_lo _ _ _ _ _ (notF_big h2) h1] at h3; exact h3
  have hgM : ∀ k, k ≠ fq.len → ∀ y, (famM M r F fq' g).γ (inn F k) = some y → M.γ (inn F k) = some y := fun k hk y hy => by
    rw [famM_inn _ _ _ _ _ hF] at hy
    split at hy
    · simpa [g, hk] using hy
    · cases hy
  refine ⟨_, h.refam r R F hF (fq' := fq') g (yR := some (et, dR F q)) hr1 hFR hne hf hl (fun k c' hc => ?_) (fun k k' c1 c2 h1 h2 h3 => ?_) (fun k c' hc => ?_) (fun x => ?_) (fun e p hx => ?_) (fun hx => by cases hx) (fun t' => ?_) fun b => ?_⟩
  · rw [hget] at hc
    by_cases hk : k = fq.len
    · rw [if_pos hk] at hc
      cases hc
      simp [g, hk, hr]
    · rw [if_neg hk] at hc
      simp only [g, hk, if_false]
      rw [fam_r hF hf, hc]
  · simp only [g] at h3
    split at h3 <;> split at h3
    · omega
    · exact absurd h3.symm (hinnr _)
    · exact absurd h3 (hinnr _)
    · exact (inn_inj h3).2
  · by_cases hk : k = fq.len
    · exact .inl (by simp [g, hk])
    · exact .inr ⟨k, by simp [g, hk]⟩
  · rw [PS.r_app (s := ⟨tm, rw', bx⟩) (l := [(r, none), (FK + F, some (te, .fam fq'))]) rfl, look_two', look_two']
    cases hbx : Nat.ble BIG x with
    | true =>
      have h1 : r ≠ FK + unF x := fun e => by have := notF_fk x; rw [← e, hrn] at this; cases this
      simp only [h1, if_false]
      by_cases hu : unF x = F
      · simp [hu]
      · simp [hu, Ne.symm hu]
    | false =>
      simp only
      by_cases hxr : r = x
      · simp [hxr]
      · simp only [hxr, if_false, Ne.symm hxr]
        by_cases hxf : FK + F = x
        · simp [hxf]
        · simp only [hxf, if_false, Ne.symm hxf]
          by_cases hxR : x = R
          · simp [hxR, hR]
          · simp [hxR]
  · cases hx
    rcases h.row _ _ _ hR with ⟨g1, g2⟩ | ⟨gg, cap, cur, g1, g2, g3, g4, g5, g6⟩
    · exact .inl ⟨by rw [famM_lo _ _ _ _ _ (notF_big hFR) (Ne.symm hne)]; exact g1, g2⟩
    · refine .inr ⟨gg, cap, cur, by rw [famM_lo _ _ _ _ _ (notF_big hFR) (Ne.symm hne)]; exact g1, g2, g3, g4, g5, fun i j d hi hd => ?_⟩
      have hv := g6 i j d hi hd
      rw [dR_len] at hi
      rcases dR_relem hq hi hd with ⟨rfl, _⟩ | ⟨x, rfl, _⟩
      · exact hv.irow_mv (hgM i (by omega))
      · rw [hv.int_inv]; exact .int _
  · have hk := PS.t_killX ⟨tm, rw', bx⟩ r t'
    by_cases htt : t = t'
    · subst htt
      have : PS.t ⟨(t, .agg ((dl.map (klXS r)).set p (.irow F fq.len c.len))) :: (PS.killX ⟨tm, rw', bx⟩ r).tmp, (r, none) :: (FK + F, some (te, .fam fq')) :: rw', (PS.killX ⟨tm, rw', bx⟩ r).box⟩ t = .agg ((dl.map (klXS r)).set p (.irow F fq.len c.len)) := by simp [PS.t, look_cons_self]
      rw [this]
      have hv := h.tmp t
      rw [ht] at hv
      generalize a.tmps.getD t undef = v at hv ⊢
      cases hv with
      | agg _ us hl hd =>
        refine .agg _ us (by simpa using hl) fun j d hj => ?_
        rw [List.getElem?_set] at hj
        by_cases hij : p = j
        · subst hij
          have hlt := (List.getElem?_eq_some_iff.1 hp0).1
          rw [if_pos rfl, if_pos (by simpa using hlt)] at hj
          cases hj
          refine (hd p _ hp0).irow_of fun x hx => ?_
          rw [famM_inn _ _ _ _ _ hF] at hx
          split at hx
          · simpa [g] using hx
          · cases hx
        · rw [if_neg hij, List.getElem?_map] at hj
          obtain ⟨d0, hd0, rfl⟩ := Option.map_eq_some_iff.1 hj
          exact VR.klXS hA hγ' (fun _ _ h => h) (hd j d0 hd0)
    · have : PS.t ⟨(t, .agg ((dl.map (klXS r)).set p (.irow F fq.len c.len))) :: (PS.killX ⟨tm, rw', bx⟩ r).tmp, (r, none) :: (FK + F, some (te, .fam fq')) :: rw', (PS.killX ⟨tm, rw', bx⟩ r).box⟩ t' = PS.t (PS.killX ⟨tm, rw', bx⟩ r) t' := by simp [PS.t, look_cons_ne htt]
      rw [this, hk]
      exact VR.klX hA hγ' (fun _ _ h => h) (h.tmp t')
  · exact PS.b_killX ⟨tm, rw', bx⟩ r b⟩
end
/-- a family whose rows are empty -/
theorem Rel.newFamN {C : Cx} {tm : List (Nat × D)} {rw' : List (Nat × Option (TypeId × Sq))} {bx : List (Nat × Option (List D))} {M : Mp} {a : Act} {w : World} (h : Rel C.w0 C.O0 C.n M ⟨tm, rw', bx⟩ a w) (F : Nat) (te : TypeId) (fq : Fq) (h0 : ∀ k c, fq.get k = some c → c.len = 0) (hl : lone ⟨tm, rw', bx⟩ 999999 F = true) (hl2 : PS.r ⟨tm, rw', bx⟩ 999999 = none) (hN : PS.r ⟨tm, rw', bx⟩ (FK + F) = none) (hO : ∀ u, C.O0.fr (FK + F) ≠ some u)
    (hF : F < 4294967296) : ∃ M' : Mp, Rel C.w0 C.O0 C.n M' ⟨(PS.killX ⟨tm, rw', bx⟩ 999999).tmp, (FK + F, some (te, .fam fq)) :: rw', (PS.killX ⟨tm, rw', bx⟩ 999999).box⟩ a w ∧ ∀ k c, fq.get k = some c → M'.γ (inn F k) = some none := by
  let M' : Mp := ⟨M.β, fun x => if x = FK + F then some none else if Nat.ble BIG x = true ∧ unF x = F ∧ (fq.get (unK x)).isSome = true then some none else M.γ x⟩
  have hMi : ∀ G k, G < 4294967296 → G ≠ F → M'.γ (inn G k) = M.γ (inn G k) := fun G k hG hne => by
    have : inn G k ≠ FK + F := fun e => by have h1 := inn_hi G k; rw [e, fk_lo hF] at h1; cases h1
    have h2 : unF (inn G k) ≠ F := by rw [unF_inn, Nat.mod_eq_of_lt hG]; exact hne
    simp [M', this, h2]
  have hMF : ∀ x, Nat.ble BIG x = false → x ≠ FK + F → M'.γ x = M.γ x := fun x h1 h2 => by simp only [M', h1, h2, if_false]; simp
  have hsub : ∀ x k c z, M'.γ x = some (some (k, c, z)) → M.γ x = some (some (k, c, z)) := fun x k c z hx => by
    simp only [M'] at hx
    split at hx
    · cases hx
    · split at hx
      · cases hx
      · exact hx
  have hown : ∀ k, M'.owned k → M.owned k := by
    rintro k (⟨b, hb⟩ | ⟨y, c, z, hy⟩)
    · exact .inl ⟨b, hb⟩
    · exact .inr ⟨y, c, z, hsub _ _ _ _ hy⟩
  have hA : ∀ f b, b < w.heap.size → Ow (Fs C.w0 C.O0) M f b → Ow (Fs C.w0 C.O0) M' f b ∧ b < w.heap.size ∧ w.heap[b]? = w.heap[b]? := fun f b h1 h2 => ⟨⟨fun h3 => h2.1 (hown b h3), h2.2⟩, h1, rfl⟩
  have hγ' : ∀ x y, x ≠ 999999 → notF x = true → M'.γ x = some y → M.γ x = some y := fun x y _ h2 h3 => by
    rw [hMF x (notF_big h2) (fun e => fk_ne hF h2 e.symm)] at h3
    exact h3
  refine ⟨M', ?_, fun k c hc => by
    have h1 : inn F k ≠ FK + F := fun e => by have h1 := inn_hi F k; rw [e, fk_lo hF] at h1; cases h1
    have h2 : unF (inn F k) = F := by rw [unF_inn, Nat.mod_eq_of_lt hF]
    simp [M', h1, h2, inn_hi, unK_inn, hc]⟩
  refine h.remap 999999 F hF (fun _ => rfl) (fun x k c z hx => ⟨x, hsub _ _ _ _ hx⟩) (fun x y k c z c' z' h1 h2 => h.inj2 _ _ _ _ _ _ _ (hsub _ _ _ _ h1) (hsub _ _ _ _ h2)) hγ' (fun x y h1 h2 h3 h4 => ?_) (.inl (by decide)) (fun u u' h1 _ => absurd h1 (hO u)) (fun G k y h1 h2 h3 => by rw [← hMi G k h1 h2]; exact h3) (fun t => ?_) (fun b => ?_) (fun x e q hx => ?_) fun x hx => ?_
  · rw [hMF x h3 h1] at h4
    exact h4
  · have : PS.t ⟨(PS.killX ⟨tm, rw', bx⟩ 999999).tmp, (FK + F, some (te, .fam fq)) :: rw', (PS.killX ⟨tm, rw', bx⟩ 999999).box⟩ t = klX 999999 (PS.t ⟨tm, rw', bx⟩ t) := PS.t_killX ⟨tm, rw', bx⟩ 999999 t
    rw [this]
    exact VR.klX hA hγ' (fun _ _ h => h) (h.tmp t)
  · exact PS.b_killX ⟨tm, rw', bx⟩ 999999 b
  · rw [PS.r_app (s := ⟨tm, rw', bx⟩) (l := [(FK + F, some (te, .fam fq))]) rfl, look_one', look_one'] at hx
    cases hbx : Nat.ble BIG x with
    | true =>
      rw [hbx] at hx
      have hxf : x ≠ FK + F := fun e => by rw [e, fk_lo hF] at hbx; cases hbx
      by_cases hu : FK + F = FK + unF x
      · simp only [hu, if_true, famr] at hx
        split at hx
        · rename_i c hc
          cases hx
          have hu' : unF x = F := by omega
          exact .inr (.inl ⟨by simp [M', hxf, hbx, hu', hc], h0 _ _ hc⟩)
        · cases hx
      · have hu' : unF x ≠ F := fun e => hu (by rw [e])
        have hMx : M'.γ x = M.γ x := by simp [M', hxf, hu']
        simp only [hu, if_false] at hx
        refine .inl ⟨hx, hMx, fun G hG => ?_⟩
        rcases lone_ok hl hx hG with h1 | h1
        · rw [h1, hl2] at hx; cases hx
        · exact h1
    | false =>
      rw [hbx] at hx
      by_cases hxf : FK + F = x
      · subst hxf
        simp only [if_true] at hx
        cases hx
        exact .inr (.inl ⟨by simp [M'], rfl⟩)
      · simp only [hxf, if_false] at hx
        refine .inl ⟨hx, hMF x hbx (Ne.symm hxf), fun G hG => ?_⟩
        rcases lone_ok hl hx hG with h1 | h1
        · rw [h1, hl2] at hx; cases hx
        · exact h1
  · rw [PS.r_app (s := ⟨tm, rw', bx⟩) (l := [(FK + F, some (te, .fam fq))]) rfl, look_one', look_one'] at hx
    cases hbx : Nat.ble BIG x with
    | true =>
      rw [hbx] at hx
      have hxf : x ≠ FK + F := fun e => by rw [e, fk_lo hF] at hbx; cases hbx
      by_cases hu : FK + F = FK + unF x
      · simp only [hu, if_true, famr] at hx
        split at hx
        · cases hx
        · rename_i hc
          have hMx : M'.γ x = M.γ x := by simp [M', hxf, hc]
          rw [hMx]
          refine h.rown x ?_
          rw [PS.r_hi _ hbx, PS.inn_r, ← hu, hN]; rfl
      · have hu' : unF x ≠ F := fun e => hu (by rw [e])
        have hMx : M'.γ x = M.γ x := by simp [M', hxf, hu']
        rw [hMx]
        simp only [hu, if_false] at hx; exact h.rown x hx
    | false =>
      rw [hbx] at hx
      by_cases hxf : FK + F = x
      · simp only [hxf, if_true] at hx; cases hx
      · simp only [hxf, if_false] at hx
        rw [hMF x hbx (Ne.symm hxf)]
        exact h.rown x hx
/-- a new row of references -/
theorem Rel.newRowW {w0 : World} {O0 : Hd} {n : Nat} {M : Mp} {s : PS} {a : Act} {w w' : World} (h : Rel w0 O0 n M s a w) {r m : Nat} {e : TypeId} {q : Sq} {cur : Array Value} (hq : q.len = m) (hm : m ≤ maxLen) (hc : cur.size = m * q.sz) (g1 : w'.heap[w.heap.size]? = some (.cells cur e (0, 0))) (ho : w'.os = w.os) (htp : w'.tape = w.tape) (hou : w'.output = w.output) (hsi : w.heap.size ≤ w'.heap.size) (hbl : ∀ k, k < w.heap.size → w'.heap[k]? = w.heap[k]?)
    (hv : ∀ i j d, i < m → (q.relem i)[j]? = some d → VR M (Ow (Fs w0 O0) M) w d (cur.getD (i * q.sz + j) undef)) (hf : Fresh s noB (isR r)) (hlo : r < 1000000) :
    ∃ M', Rel w0 O0 n M' (s.setR r (some (e, q))) a w' ∧ VR M' (Ow (Fs w0 O0) M') w' (.row r 0 m) (.slice (some ⟨w.heap.size, 0, none⟩) m m) := by
  have hF := notF_lo hlo
  let M' : Mp := ⟨M.β, fun x => if x = r then some (some (w.heap.size, m, q.sz)) else M.γ x⟩
  have m1 : M'.γ r = some (some (w.heap.size, m, q.sz)) := by simp [M']
  have m2 : ∀ x, x ≠ r → M'.γ x = M.γ x := fun x hx => by simp [M', hx]
  have hown : ∀ k, M'.owned k → M.owned k ∨ k = w.heap.size := by
    rintro k (⟨x, hx⟩ | ⟨y, c, z, hy⟩)
    · exact .inl (.inl ⟨x, hx⟩)
    · by_cases hyr : y = r
      · rw [hyr, m1] at hy; cases hy; exact .inr rfl
      · rw [m2 y hyr] at hy; exact .inl (.inr ⟨y, c, z, hy⟩)
  have hA : ∀ f k, k < w.heap.size → Ow (Fs w0 O0) M f k → Ow (Fs w0 O0) M' f k ∧ k < w'.heap.size ∧ w'.heap[k]? = w.heap[k]? := fun f k h1 h2 =>
    ⟨⟨fun h3 => by rcases hown k h3 with h4 | h4; exact h2.1 h4; omega, h2.2⟩, by omega, hbl k h1⟩
  have hγ : ∀ x y, isR r x = false → M'.γ x = some y → M.γ x = some y := fun x y h1 h2 => by
    rw [m2 x (fun e => by subst e; simp [isR, Nat.beq_refl] at h1)] at h2; exact h2
  have hrb := notF_big hF
  have hbig : ∀ x y, BIG ≤ x → M'.γ x = some y → M.γ x = some y := fun x y hx h2 => by
    rw [m2 x (fun e => by rw [← e, Nat.ble_eq_true_of_le hx] at hrb; cases hrb)] at h2; exact h2
  have hno : ∀ y c z, M.γ y ≠ some (some (w.heap.size, c, z)) := fun y c z hy => by have := h.lt _ (.inr ⟨y, c, z, hy⟩); omega
  refine ⟨M', ⟨?_, h.dfr, h.sz, fun t => ?_, fun x ds hx => ?_, fun x hx => h.boxn x hx, fun x e' p hx => ?_, fun x hx => ?_, fun k hk => ?_, h.inj1, fun x y k c z c' z' h1 h2 => ?_, fun x y k c z h1 h2 => ?_, h.nle, h.fxb, fun x u u' h1 h2 => ?_⟩, ?_⟩
  · exact h.fr.step ho htp hou hsi fun k h1 _ => hbl k (Nat.lt_of_lt_of_le h1 h.fr.size)
  · exact VR.new (b := noB) (r := isR r) hA hγ (fun _ _ _ h => h) (hf.t t) (h.tmp t) (hi := fun _ => hbig)
  · obtain ⟨k, cur', e', h1, h2, h3, h4⟩ := h.box x ds hx
    have hlt := (Array.getElem?_eq_some_iff.1 h2).1
    exact ⟨k, cur', e', h1, (hbl k hlt).trans h2, h3, fun j d hd => VR.newS (b := noB) (r := isR r) hA hγ (fun _ _ _ h => h) (hf.b _ _ hx d (List.mem_of_getElem? hd)) (h4 j d hd) (hi := fun _ => hbig)⟩
  · rw [PS.r_setR _ _ _ _ hF] at hx
    by_cases hxr : r = x
    · subst hxr
      rw [if_pos rfl] at hx
      cases hx
      exact .inr ⟨w.heap.size, m, cur, m1, g1, by omega, hm, hc, fun i j d hi hd => (hv i j d (by omega) hd).relem_any hd hA hbig⟩
    · rw [if_neg hxr] at hx
      rcases h.row x e' p hx with ⟨h1, h2⟩ | ⟨g, cap, cur', h1, h2, h3, h4, h5, h6⟩
      · exact .inl ⟨(m2 x (Ne.symm hxr)).trans h1, h2⟩
      · have hlt := (Array.getElem?_eq_some_iff.1 h2).1
        exact .inr ⟨g, cap, cur', (m2 x (Ne.symm hxr)).trans h1, (hbl g hlt).trans h2, h3, h4, h5, fun i j d hi hd => (h6 i j d hi hd).relem_any hd hA hbig⟩
  · rw [PS.r_setR _ _ _ _ hF] at hx
    by_cases hxr : r = x
    · rw [if_pos hxr] at hx; cases hx
    · rw [if_neg hxr] at hx; exact (m2 x (Ne.symm hxr)).trans (h.rown x hx)
  · rcases hown k hk with h1 | rfl
    · exact h.low k h1
    · exact .inl h.fr.size
  · by_cases hx : x = r
    · by_cases hy : y = r
      · rw [hx, hy]
      · rw [hx, m1] at h1; cases h1; rw [m2 y hy] at h2; exact absurd h2 (hno _ _ _)
    · by_cases hy : y = r
      · rw [hy, m1] at h2; cases h2; rw [m2 x hx] at h1; exact absurd h1 (hno _ _ _)
      · rw [m2 x hx] at h1; rw [m2 y hy] at h2; exact h.inj2 _ _ _ _ _ _ _ h1 h2
  · by_cases hy : y = r
    · rw [hy, m1] at h2; cases h2
      have := h.lt _ (.inl ⟨x, h1⟩); omega
    · rw [m2 y hy] at h2; exact h.inj3 _ _ _ _ _ h1 h2
  · have h3 := (O0.lor x u h1).1
    rw [m2 x (by omega)] at h2
    exact h.fxr x u u' h1 h2
  · exact .row _ _ _ _ rfl fun x hx => by rw [m1] at hx; cases hx; exact ⟨by omega, _, by rw [Nat.sub_zero], fun _ => by rw [Nat.zero_mul]⟩
/-- the kinds of rows of rows -/
def kD (k q : Sq) : Bool := match k, q with
  | .intss _, .intss _ | .pairss _, .pairss _ | .boolss _, .boolss _ | .raises _, .raises _ => true
  | _, _ => false
structure ZeroD (q : Sq) (m : Nat) : Prop where
  deep : q.deep = true
  len : q.len = m
  inner : ∀ i, i < q.len → (q.nn i).len = 0
  fst : ∀ (i j : Nat) (x : Int), i < q.len → (q.elem true i)[j]? = some (D.int x) → x = 0
theorem zeroR (m : Nat) : ZeroD (.raises (List.replicate m ((0, []) : Int × List Int))) m := ⟨rfl, by simp [Sq.len], fun i hi => by simp only [Sq.len, List.length_replicate] at hi; simp [Sq.nn, Sq.len, hi], fun i j x hi hx => by
  simp only [Sq.len, List.length_replicate] at hi
  rcases j with _ | _ | j <;> simp [Sq.elem, hi] at hx
  exact hx.symm⟩
section
variable {C : Cx} {ops : Array Oper} {K : PS → Prop} {o : Oper} {rest : List Oper} {s : PS} {TT : List (Nat × Ty)} {tm : List (Nat × D)} {rw' : List (Nat × Option (TypeId × Sq))} {bx : List (Nat × Option (List D))}
/-- a row of rows made with n empty elements -/
theorem oMakeD (F : Nat) (te : TypeId) (q : Sq) (hT : TTOK C.P TT) (hg : o.guard = none) {t e : TypeId} {k : Sq} {by' b : Nat} {x y : Operand} {n : Int} (hop : o.op = .makeSlice t x y) (hd : o.dst = some b) (hy : look TT t = some (.sl e k by')) (hx : (PS.ev ⟨tm, rw', bx⟩ x) = .int n) (hyy : (PS.ev ⟨tm, rw', bx⟩ y) = .int n)
    (hb : Nat.ble by' 32 = true) (hn : Nat.blt b C.n = true) (hk : kD k q = true) (hl : lone ⟨tm, rw', bx⟩ 999999 F = true) (hl2 : PS.r ⟨tm, rw', bx⟩ 999999 = none) (hN : PS.r ⟨tm, rw', bx⟩ (FK + F) = none) (hO : ∀ u, C.O0.fr (FK + F) ≠ some u)
    (hf : frB ⟨(PS.killX ⟨tm, rw', bx⟩ 999999).tmp, (FK + F, some (te, dF q)) :: rw', (PS.killX ⟨tm, rw', bx⟩ 999999).box⟩ noB (isR b) = true) {m : Nat} {s' : PS} (hm : m = q.len) (hnf : nf ⟨(b, .row b 0 m) :: (PS.killX ⟨tm, rw', bx⟩ 999999).tmp, (b, some (e, dR F q)) :: (FK + F, some (te, dF q)) :: rw', (PS.killX ⟨tm, rw', bx⟩ 999999).box⟩ = some s')
    (hz : ZeroD q n.toNat) (hob : 0 ≤ n ∧ n ≤ 4294967296) (h : VO C ops K rest s') (hF : Nat.blt F 4294967296 = true := by rfl) : VO C ops K (o :: rest) ⟨tm, rw', bx⟩ := by
  refine vOp hg ⟨fun M a w Q K' hr hk' => ?_⟩
  subst hm
  have hty := hT t _ hy
  obtain ⟨hu, _, i, hi, hsz, hby, z, hz0, hzc⟩ := hty
  have e1 := hr.ev x
  have e2 := hr.ev y
  rw [hx] at e1
  rw [hyy] at e2
  have hb' := Nat.le_of_ble_eq_true hb
  rw [Nat.blt_eq] at hF
  obtain ⟨m, rfl⟩ : ∃ m : Nat, n = (m : Int) := ⟨n.toNat, by omega⟩
  have hmm : m ≤ 4294967296 := by omega
  obtain ⟨w', hrun, hown, hgr⟩ := run_make_full (P := C.P) w w.heap.size t e i z k.sz hu hi hz0 hsz .i64 .i64 m (by rw [hby]; have := Nat.mul_le_mul hb' hmm; omega) (by unfold maxLen; omega) (Nat.le_refl _)
  have hzs : z.cells.size = k.sz := by rw [hzc]; cases k <;> rfl
  have hheap : ∃ cur, w'.heap[w.heap.size]? = some (.cells cur e (0, 0)) ∧ cur.size = m * k.sz ∧ cur.toList = (madeCells z.cells (m * k.sz)).toList := by
    rcases hown.2 with ⟨h1, _⟩ | ⟨g, cap, cur, h1, _, h2, h3, h4, h5, h6⟩
    · cases h1
    · cases h1
      refine ⟨cur, h2, h5, ?_⟩
      rw [← h6, List.take_of_length_le (by simp [h5])]
  obtain ⟨cur, g1, g2, g3⟩ := hheap
  rw [Int.toNat_natCast] at hz
  obtain ⟨z0, z1, z2, z3⟩ := hz
  have hks : k.sz = q.sz := by
    cases k <;> cases q <;> first | rfl | (cases hk; done)
  obtain ⟨M1, hr1, hi1⟩ := hr.newFamN F te (famOf q) (fun j c hc => by
    rw [famOf_get z0] at hc
    split at hc
    · rename_i hj; cases hc; exact z2 j hj
    · cases hc) hl hl2 hN hO hF
  rw [← dF_fam] at hr1
  obtain ⟨M', h1, h2⟩ := hr1.newRowW (r := b) (m := m) (e := e) (q := dR F q) (cur := cur) (w' := w') (by rw [dR_len]; exact z1) (by unfold maxLen; omega) (by rw [dR_sz, ← hks]; exact g2) g1 hgr.os hgr.tape hgr.output hgr.size (fun k hk => hgr.block k hk (by simp)) (fun i j d hi hd => by
    have hj : j < k.sz := by rw [hks, ← dR_sz F q, ← Sq.relem_len (dR F q) i]; exact (List.getElem?_eq_some_iff.1 hd).1
    have hlt : i * k.sz + j < m * k.sz := by
      have : (i + 1) * k.sz ≤ m * k.sz := Nat.mul_le_mul_right _ hi
      rw [Nat.add_mul, Nat.one_mul] at this; omega
    have hget : cur.getD (i * (dR F q).sz + j) undef = k.zero1.toArray.getD j undef := by
      have hc : cur = madeCells z.cells (m * k.sz) := by rw [← Array.toList_inj]; exact g3
      have hzz : k.zero1.toArray.size = k.sz := by rw [← hzc, hzs]
      rw [dR_sz, ← hks, hc, ← hzc]
      have hmod : (i * k.sz + j) % k.sz = j := by rw [Nat.mul_comm, Nat.mul_add_mod, Nat.mod_eq_of_lt hj]
      simp [madeCells, hlt, hzs, hmod, hj]
    rw [hget]
    have hi' : i < q.len := by rw [z1]; exact hi
    have hin : ∀ n, n = 0 → VR M1 (Ow (Fs C.w0 C.O0) M1) w (.irow F i n) (.slice none 0 0) := fun n hn0 => .irow _ _ _ _ rfl fun x hx => by
      rw [hi1 i (q.nn i) (by rw [famOf_get z0, if_pos hi'])] at hx
      cases hx
      exact ⟨⟨none, rfl⟩, hn0, rfl⟩
    have hlen0 := z2 i hi'
    rcases dR_relem z0 hi' hd with ⟨rfl, h5⟩ | ⟨x, rfl, h5⟩
    · have : k.zero1.toArray.getD j undef = .slice none 0 0 := by
        cases k <;> cases q <;> first | (cases hk; done) | skip
        case raises.raises => rcases j with _ | _ | j <;> first | rfl | (simp [Sq.elem] at h5; done) | (exfalso; simp [Sq.sz] at hj; done) | (exfalso; simp [Sq.sz] at hj; omega)
        all_goals (rcases j with _ | j <;> first | rfl | (exfalso; simp [Sq.sz] at hj; done) | (exfalso; simp [Sq.sz] at hj; omega))
      rw [this]
      exact hin _ hlen0
    · have hx0 := z3 i j x hi' (h5 true)
      subst hx0
      have : k.zero1.toArray.getD j undef = .int .i64 0 := by
        cases k <;> cases q <;> first | (cases hk; done) | skip
        case raises.raises => rcases j with _ | _ | j <;> first | rfl | (simp [Sq.elem] at h5; done)
        all_goals (rcases j with _ | j <;> simp [Sq.elem] at h5)
      rw [this]
      exact .int 0) (frB_ok hf) (by have h1000 := hr.nle; rw [Nat.blt_eq] at hn; omega)
  have hrun' : (execOp a.eval o).run C.P w = .ok (.value (.slice (some ⟨w.heap.size, 0, none⟩) m m)) w' := by
    unfold execOp
    rw [hop]
    simp only [Sem.run_bind, e1.int_inv, e2.int_inv, hrun, Result.andThen_ok]
    rfl
  unfold Oper.wp
  rw [hrun']
  refine hk' M' _ _ _ (vNf hnf h) ?_
  rw [hd, z1]
  exact h1.put (o := some b) hn h2
end
end Go.Proofs.Ytmoamglpocjhgaa

namespace Go.Proofs.Ytmoamglpocjhgaa
open Go.RowKit Go.Deep
set_option linter.unusedSimpArgs false
set_option linter.unusedVariables false
section
variable {C : Cx} {ops : Array Oper} {K : PS → Prop} {o : Oper} {rest : List Oper} {TT : List (Nat × Ty)} {tm : List (Nat × D)} {rw' : List (Nat × Option (TypeId × Sq))} {bx : List (Nat × Option (List D))} {cr B : List Nat} {j : Nat}
end
end Go.Proofs.Ytmoamglpocjhgaa

namespace Go.Proofs.Ytmoamglpocjhgaa
open Go.RowKit Go.Deep
set_option linter.unusedVariables false
set_option linter.unusedSimpArgs false
def L_toRaiseS_l1 (N : Nat) (a_0 : List (Int × List Int)) (k : (List (Int × List Int)) → Option (List (Int × List Int))) : Nat → ((List (Int × List Int)) × Int) → Option (List (Int × List Int))
  | 0, _ => none
  | n + 1, (l9, i10) =>
    cnd (decide (i10 < (a_0.length : Int))) (
      grd (0 ≤ i10 ∧ i10 < (a_0.length : Int)) <|
      (L_toRaise N (⟨(a_0.getD ((i10).toNat) (0, [])).1, (a_0.getD ((i10).toNat) (0, [])).2⟩ : Rse)).bind fun v12 =>
      grd (0 ≤ i10 ∧ i10 < ((List.replicate (((a_0.length : Int)).toNat) ((0, []) : (Int × List Int))).length : Int)) <|
      grd (0 ≤ i10 ∧ i10 < (l9.length : Int)) <|
      grd (Rg64 (i10 + (1 : Int))) <|
      L_toRaiseS_l1 N a_0 k n ((l9.set ((i10).toNat) (v12.p, v12.bars)), (i10 + (1 : Int)))) (
      k l9)
def L_toRaiseS (N : Nat) (a_0 : List (Int × List Int)) : Option (List (Int × List Int)) :=
  grd (0 ≤ (a_0.length : Int) ∧ (a_0.length : Int) ≤ 4294967296) <|
  L_toRaiseS_l1 N a_0 (fun (l6 : List (Int × List Int)) =>
        grd ((List.replicate (((a_0.length : Int)).toNat) ((0, []) : (Int × List Int))).length = l6.length) <|
        some l6) N ((List.replicate (((a_0.length : Int)).toNat) ((0, []) : (Int × List Int))), (0 : Int))
set_option maxRecDepth 20000 in
set_option maxHeartbeats 1600000 in
theorem L_toRaiseS_w (N : Nat) (a_0 : List (Int × List Int)) (r : List (Int × List Int)) (h : L_toRaiseS N a_0 = some r) : PCallD Try.prog 14 [.ro false (.raises a_0)] 70 3 (.raises r) (.row 0 0 r.length) := by
  unfold L_toRaiseS at h
  refine pcallD_intro (TT := TT) tt Try.func14 rfl rfl Try.ntmps14 (congrArg Array.toList Try.results14) rfl rfl rfl fun w0 => ?_
  refine vSeq ?_
  refine vRegion ?_
  refine oVal tt rfl rfl rfl rfl rfl trivial ?_
  refine vNil ?_
  change VC _ _ _ _
  refine vSeq ?_
  refine vRegion ?_
  iterate 2 refine oVal tt rfl rfl rfl rfl rfl trivial ?_
  obtain ⟨hg1, h⟩ := grd_inv h
  refine oMakeD 10 3 (.raises (List.replicate (((a_0.length : Int)).toNat) ((0, []) : (Int × List Int)))) tt rfl rfl rfl rfl rfl rfl rfl rfl rfl rfl rfl rfl (fun _ h => by cases h) rfl (m := (List.replicate (((a_0.length : Int)).toNat) ((0, []) : (Int × List Int))).length) rfl rfl (zeroR _) hg1 ?_
  refine oVal tt rfl rfl rfl rfl rfl trivial ?_
  refine vNil ?_
  change VC _ _ _ _
  iterate 2 refine vSeq ?_
  refine vRegion ?_
  refine oVal tt rfl rfl rfl rfl rfl trivial ?_
  refine vNil ?_
  change VC _ _ _ _
  refine vJoin (F := fun k => L_toRaiseS_l1 N a_0 k) h (α := List (Int × List Int)) (J := fun (l6 : List (Int × List Int)) => (⟨[(3, .row 7 0 ((List.replicate (((a_0.length : Int)).toNat) ((0, []) : (Int × List Int))).length))], [(7, some (70, dR 10 (.raises l6))), (8589934602, some (3, dF (.raises l6)))], []⟩ : PS)) ?_ ?_
  · rintro l6 h
    show VC _ _ _ (⟨[(3, .row 7 0 ((List.replicate (((a_0.length : Int)).toNat) ((0, []) : (Int × List Int))).length))], [(7, some (70, dR 10 (.raises l6))), (8589934602, some (3, dF (.raises l6)))], []⟩ : PS)
    refine vSeq ?_
    refine vRegion ?_
    iterate 2 refine oVal tt rfl rfl rfl rfl rfl trivial ?_
    refine vNil ?_
    change VC _ _ _ _
    obtain ⟨hg2, h⟩ := grd_inv h
    refine vRet ?_
    change ∃ _, _
    cases h
    exact ⟨7, 10, _, rfl, rfl, rfl, rfl, rfl, (.eq (by simp only [hg2]; rfl)), rfl⟩
  · intro k h
    refine vBlock ?_
    refine vLoopS (α := (List (Int × List Int)) × Int) (fun | (l9, i10) => (⟨[(0, .ro false (.raises a_0)), (3, .row 7 0 ((List.replicate (((a_0.length : Int)).toNat) ((0, []) : (Int × List Int))).length)), (4, .int i10)], [(7, some (70, dR 10 (.raises l9))), (8589934602, some (3, dF (.raises l9)))], []⟩ : PS)) (L_toRaiseS_l1 N a_0 k) h (En.of ⟨rfl, rfl, rfl, trivial⟩ ⟨rfl, rfl, trivial⟩ trivial) (fun _ => rfl) ?_
    rintro n ⟨l9, i10⟩ h
    rw [L_toRaiseS_l1] at h
    show VC _ _ _ (⟨[(0, .ro false (.raises a_0)), (3, .row 7 0 ((List.replicate (((a_0.length : Int)).toNat) ((0, []) : (Int × List Int))).length)), (4, .int i10)], [(7, some (70, dR 10 (.raises l9))), (8589934602, some (3, dF (.raises l9)))], []⟩ : PS)
    iterate 2 refine vSeq ?_
    refine vRegion ?_
    iterate 4 refine oVal tt rfl rfl rfl rfl rfl trivial ?_
    refine vNil ?_
    change VC _ _ _ _
    refine vCond rfl (fun hb3 => ?_) (fun hb3 => ?_)
    · replace h := cnd_t hb3 h
      refine vSkip ?_
      change VC _ _ _ _
      refine vSeq ?_
      refine vBlock ?_
      refine vRegion ?_
      iterate 4 refine oVal tt rfl rfl rfl rfl rfl trivial ?_
      obtain ⟨hg4, h⟩ := grd_inv h
      refine oVal tt rfl rfl rfl rfl rfl hg4 ?_
      refine oVal tt rfl rfl rfl rfl rfl trivial ?_
      obtain ⟨v12, hc5, h⟩ := bind_inv h
      refine oCall (L_toRaise_w N (⟨(a_0.getD ((i10).toNat) (0, [])).1, (a_0.getD ((i10).toNat) (0, [])).2⟩ : Rse) v12 hc5) rfl rfl rfl rfl rfl rfl rfl rfl ⟨⟨rfl, rfl, trivial⟩, trivial⟩ ?_
      obtain ⟨hg6, h⟩ := grd_inv h
      refine oVal tt rfl rfl rfl rfl rfl hg6 ?_
      obtain ⟨hg7, h⟩ := grd_inv h
      refine vEnO (En.adoptA 20 1 1200 7 10 (q := (.raises l9)) rfl rfl rfl rfl rfl rfl rfl (by simp [Sq.len, Fq.len]) rfl rfl rfl rfl) ?_
      refine oStore tt rfl rfl rfl rfl rfl rfl rfl rfl rfl rfl ⟨_, _, rfl, hg7.1, (by simpa [Sq.len, dR, idn_len, idr_len] using hg7.2)⟩ ⟨(by simpa [Sq.len, dR, idn_len, idr_len] using hg7), (by simpa [Sq.len, dR, idn_len, idr_len] using hg7), trivial⟩ ?_
      refine vEnO (En.re 7 10 rfl rfl (reR _ l9 ((i10).toNat) v12.p v12.bars (l9.map fun x => some x.2) (by first | omega | (simp only [List.length_set, List.length_append, List.length_replicate] at *; omega)) (fun _ _ => rfl) (by simp)) rfl rfl rfl) ?_
      refine vNil ?_
      change VC _ _ _ _
      refine vRegion ?_
      refine oVal tt rfl rfl rfl rfl rfl trivial ?_
      obtain ⟨hg8, h⟩ := grd_inv h
      refine oVal tt rfl rfl rfl rfl rfl hg8 ?_
      refine oVal tt rfl rfl rfl rfl rfl trivial ?_
      refine vNil ?_
      change ∃ _, _
      exact ⟨((l9.set ((i10).toNat) (v12.p, v12.bars)), (i10 + (1 : Int))), (En.of ⟨rfl, rfl, rfl, trivial⟩ ⟨rfl, rfl, trivial⟩ trivial), h⟩
    · replace h := cnd_f hb3 h
      refine vExit ?_
      change ∃ _, _
      exact ⟨l9, (En.of ⟨rfl, trivial⟩ ⟨rfl, rfl, trivial⟩ trivial), h⟩
end Go.Proofs.Ytmoamglpocjhgaa

namespace Go.Proofs.Ytmoamglpocjhgaa
open Go.ChangeShapes Go.WideShapes Go.ChangeAt Go.RowKit Go.Deep
set_option linter.unusedVariables false
set_option linter.unusedSimpArgs false
section
variable {H : Type} {enc : TypeId × Value → H} {P : Program} {w : World} {spare : Nat → Bool} {held : Bool} {fuel : Nat} {cs : List Value} {x : DataW H × List MemPlace}
/-- every inner slice no longer than can be, every number in range -/
def RsR (l : List (Int × List Int)) : Prop := ∀ x ∈ l, R64 x.1 ∧ IntsR x.2 ∧ x.2.length ≤ 9223372036854775807
theorem open_raisesD {t e ti tl : TypeId} {f0 f1 : Field} (ht : P.underlying t = some (.slice e)) (he : P.underlying e = some (.struct #[f0, f1])) (hc : P.cellsOf e = 2)
    (hf0 : f0.type = ti) (hf1 : f1.type = tl) (ho0 : f0.offset = 0) (ho1 : f1.offset = 1) (hi : P.underlying ti = some (.int .i64)) (hci : P.cellsOf ti = 1) (htl : P.underlying tl = some (.slice ti)) (hcl : P.cellsOf tl = 1)
    (h : DataW.trod enc P w 0 spare held fuel t cs = some x) : ∃ v l, cs = [v] ∧ VR M0 R0 w (.ro false (.raises l)) v ∧ RsR l := by
  rcases open_slice ht h with ⟨rfl, _⟩ | ⟨a, len, cap, m, n, D, Pl, rfl, hb, hl, hm, hmm, rfl, hx⟩
  · exact ⟨_, [], rfl, .ro false (.raises []) none 0 0 0 (fun _ _ => undef) (Nat.zero_le _) (Nat.le_refl _) (fun h => absurd h (by simp [Sq.len])) (fun i j d hi => absurd hi (by simp [Sq.len])) (fun i j d hi => absurd hi (by simp [Sq.len])), by simp [RsR]⟩
  · have hlm : len ≤ m := by rw [hmm]; split <;> omega
    have hcell : ∀ i, i < len → ∃ z : Int × List Int × Value, w.cell? (a.add (i * 2)) = some (.int .i64 z.1) ∧ w.cell? ((a.add (i * 2)).add 1) = some z.2.2 ∧ VR M0 R0 w (.ro false (.ints z.2.1)) z.2.2 ∧ R64 z.1 ∧ IntsR z.2.1 := fun i hi' => by
      obtain ⟨cs', h1, h2⟩ := hx i (by omega)
      obtain ⟨y0, y1, n', _, hlen, hy0, hy1⟩ := trod_struct2 he h2
      rw [hc] at h1 hlen
      obtain ⟨c0, c1, rfl⟩ : ∃ c0 c1, cs' = [c0, c1] := by
        match cs', hlen with
        | [c0, c1], _ => exact ⟨c0, c1, rfl⟩
      rw [hf0, ho0, hci] at hy0
      rw [hf1, ho1, hcl] at hy1
      simp at hy0 hy1
      obtain ⟨z0, hz0, _, w0⟩ := DataW.trod_int hi hy0
      obtain ⟨v1, l1, e1, k1, r1⟩ := open_intsD htl hi hci hy1
      simp at hz0 e1
      subst hz0 e1
      obtain ⟨_, _, hk⟩ := World.cells?_some h1
      exact ⟨(z0, l1, c1), by simpa [Addr.add] using hk 0 (by omega), by simpa using hk 1 (by omega), k1, R64_of_wf w0, r1⟩
    obtain ⟨f, hf⟩ := choose_lt hcell
    refine ⟨_, (List.range len).map fun i => ((f i).1, (f i).2.1), rfl, ?_, ?_⟩
    · have key := VR.ro (M := M0) (A := R0) (w := w) false (.raises ((List.range len).map fun i => ((f i).1, (f i).2.1))) (some a) cap a.block a.off (fun i j => if j = 0 then .int .i64 (f i).1 else (f i).2.2)
        (by simp [Sq.len]; omega) (by simp [Sq.len]; omega) (fun h0 => ?_) (fun i j d hi hd => ?_) (fun i j d hi hd => ?_)
      · simpa [Sq.len] using key
      · simp [Sq.len] at h0
        have c0 := (hf 0 h0).1
        have hs := cell?_spot c0
        have : (a.add (0 * 2)) = a := by simp [Addr.add]
        rw [this] at hs c0
        exact ⟨by cases a; simp_all, cell?_lt c0, trivial⟩
      · simp [Sq.len] at hi
        obtain ⟨g1, g2, _⟩ := hf i hi
        have c0 := (hf 0 (by omega)).1
        have hs := cell?_spot c0
        have ha : a = ⟨a.block, a.off, none⟩ := by
          have : (a.add (0 * 2)) = a := by simp [Addr.add]
          rw [this] at hs; cases a; simp_all
        rw [ha, Addr.add_lit] at g1
        rw [ha, Addr.add_lit, Addr.add_lit] at g2
        rcases j with _ | _ | j <;> simp [Sq.elem] at hd
        · simpa [Sq.sz] using g1
        · simpa [Sq.sz] using g2
      · simp [Sq.len] at hi
        obtain ⟨_, _, g3, _⟩ := hf i hi
        rcases j with _ | _ | j <;> simp [Sq.elem, hi] at hd
        · subst hd; exact .int _
        · subst hd; exact g3
    · intro y hy
      obtain ⟨i, hi, rfl⟩ := List.mem_map.1 hy
      obtain ⟨_, _, g3, g4, g5⟩ := hf i (by simpa using hi)
      exact ⟨g4, g5, g3.lens⟩
end
variable (N : Nat)
abbrev BRaiseS (a : List (Int × List Int)) : Prop := B63 a.length ∧ ∀ x ∈ a, B63 x.2.length
def lnRaiseS (a : List (Int × List Int)) : Nat := a.length + (a.map fun x => x.2.length).sum
theorem sum_le_mem : ∀ (l : List Nat) (x : Nat), x ∈ l → x ≤ l.sum
  | y :: l, x, h => by
    rcases List.mem_cons.1 h with rfl | h
    · simp
    · have := sum_le_mem l x h; simp; omega
theorem lnRaiseS_in {a : List (Int × List Int)} {x : Int × List Int} (h : x ∈ a) : x.2.length ≤ lnRaiseS a := by
  have := sum_le_mem (a.map fun x => x.2.length) x.2.length (List.mem_map.2 ⟨x, h, rfl⟩)
  unfold lnRaiseS; omega
theorem szRaiseS_l {a : List (Int × List Int)} (ha : BRaiseS a) : ∀ (n i : Nat) (left : Int), i ≤ a.length → a.length < n + i → 0 ≤ left → left ≤ 1048576 → a.length ≤ 1048576 →
    L_szRaiseS_l1 N a (fun x => some x) n (left, (i : Int)) = some (szv left ((a.drop i).map fun x => x.2.length).sum) := by
  intro n
  induction n with
  | zero => intro i left h1 h2; omega
  | succ n ih =>
    intro i left h1 h2 h3 h4 h5
    rw [L_szRaiseS_l1]
    by_cases hi : i < a.length
    · have hg : a.getD i (0, []) = a[i] := by simp [hi]
      have hb : B63 (a[i]).2.length := ha.2 _ (List.getElem_mem hi)
      have e : ((i : Int)).toNat = i := by omega
      have gi : 0 ≤ (i : Int) ∧ (i : Int) < (a.length : Int) := by omega
      rw [cnd_dt (by omega), grd_pos gi, e, hg, szRaise_s N (a := ⟨(a[i]).1, (a[i]).2⟩) hb h3 h4, Option.bind_some, List.drop_eq_getElem_cons hi, List.map_cons, List.sum_cons]
      by_cases hl : left < ((a[i]).2.length : Int)
      · rw [szv_big (n := lnRaise _) hl, szv_big (n := _ + _) (by omega), cnd_dt (by omega)]
      · rw [szv_ok (n := lnRaise _) hl]
        have hl' : ¬ (left - ((lnRaise ⟨(a[i]).1, (a[i]).2⟩ : Nat) : Int)) < 0 := by show ¬ (left - ((a[i]).2.length : Int)) < 0; omega
        rw [cnd_df hl', grd_R (by omega) (by omega), succ_cast, ih (i + 1) _ (by omega) (by omega) (by omega) (by show left - ((a[i]).2.length : Int) ≤ 1048576; omega) h5]
        show some (szv (left - ((a[i]).2.length : Int)) _) = _
        unfold szv
        congr 1
        split <;> split <;> omega
    · rw [cnd_df (by omega)]
      obtain rfl : i = a.length := by omega
      rw [List.drop_length]
      show some left = some (szv left 0)
      rw [szv_ok (by omega)]; simp
theorem szRaiseS_s (hN : 4000000 ≤ N) {a : List (Int × List Int)} (ha : BRaiseS a) {left : Int} (h0 : 0 ≤ left) (h1 : left ≤ 1048576) : L_szRaiseS N a left = some (szv left (lnRaiseS a)) := by
  unfold L_szRaiseS lnRaiseS
  have hb := ha.1
  rw [grd_R (by omega) (by omega)]
  by_cases h : left < (a.length : Int)
  · rw [cnd_dt (by omega), szv_big (by omega)]
  · have := szRaiseS_l N ha N 0 (left - (a.length : Int)) (by omega) (by omega) (by omega) (by omega) (by omega)
    rw [cnd_df (by omega)]
    refine this.trans ?_
    rw [List.drop_zero]
    unfold szv
    congr 1
    split <;> split <;> omega
theorem toRaiseS_l (hN : 4000000 ≤ N) {a : List (Int × List Int)} (ha : lnRaiseS a ≤ 1048576) (k : List (Int × List Int) → Option (List (Int × List Int))) : ∀ n i : Nat, i ≤ a.length → a.length < n + i → L_toRaiseS_l1 N a k n (cpy a (0, []) i, (i : Int)) = k a := by
  intro n
  have hal : a.length ≤ 1048576 := by unfold lnRaiseS at ha; omega
  induction n with
  | zero => intro i h1 h2; omega
  | succ n ih =>
    intro i h1 h2
    have hl := cpy_len a (0, []) i
    rw [L_toRaiseS_l1]
    by_cases hi : i < a.length
    · have hg : a.getD i (0, []) = a[i] := by simp [hi]
      have e : ((i : Int)).toNat = i := by omega
      have hb : (a[i]).2.length ≤ 1048576 := by have := lnRaiseS_in (List.getElem_mem hi); omega
      have gi : 0 ≤ (i : Int) ∧ (i : Int) < (a.length : Int) := by omega
      have gl : 0 ≤ (i : Int) ∧ (i : Int) < ((cpy a (0, []) i).length : Int) := by omega
      have gr : 0 ≤ (i : Int) ∧ (i : Int) < ((List.replicate (((a.length : Int)).toNat) ((0, []) : (Int × List Int))).length : Int) := by rw [List.length_replicate]; omega
      rw [cnd_dt (by omega), grd_pos gi, e, toRaise_s N hN (a := ⟨(a.getD i (0, [])).1, (a.getD i (0, [])).2⟩) (by rw [hg]; exact hb), Option.bind_some, grd_pos gr, grd_pos gl, grd_R (by omega) (by omega), succ_cast]
      show L_toRaiseS_l1 N a k n ((cpy a (0, []) i).set i ((a.getD i (0, [])).1, (a.getD i (0, [])).2), _) = _
      rw [cpy_set a (0, []) (0, []) i hi rfl]
      exact ih (i + 1) (by omega) (by omega)
    · rw [cnd_df (by omega)]
      obtain rfl : i = a.length := by omega
      rw [cpy_full]
theorem toRaiseS_s (hN : 4000000 ≤ N) {a : List (Int × List Int)} (ha : lnRaiseS a ≤ 1048576) : L_toRaiseS N a = some a := by
  have hal : a.length ≤ 1048576 := by unfold lnRaiseS at ha; omega
  unfold L_toRaiseS
  have h := toRaiseS_l N hN ha (fun l9 => grd ((List.replicate (((a.length : Int)).toNat) ((0, []) : (Int × List Int))).length = l9.length) <| some l9) N 0 (by omega) (by omega)
  simp only [Int.toNat_natCast, cpy_zero] at h ⊢
  have g0 : 0 ≤ (a.length : Int) ∧ (a.length : Int) ≤ 4294967296 := by omega
  rw [grd_pos g0]
  refine h.trans ?_
  rw [grd_pos (by rw [cpy_len])]
theorem eqRaiseS_l (hN : 4000000 ≤ N) {a : List (Int × List Int)} (ha : lnRaiseS a ≤ 1048576) (k : Unit → Option Bool) : ∀ n i : Nat, i ≤ a.length → a.length < n + i → L_eqRaiseS_l1 N a a k n (i : Int) = k () := by
  intro n
  have hal : a.length ≤ 1048576 := by unfold lnRaiseS at ha; omega
  induction n with
  | zero => intro i h1 h2; omega
  | succ n ih =>
    intro i h1 h2
    rw [L_eqRaiseS_l1]
    by_cases hi : i < a.length
    · have hg : a.getD i (0, []) = a[i] := by simp [hi]
      have e : ((i : Int)).toNat = i := by omega
      have hb : (a[i]).2.length ≤ 1048576 := by have := lnRaiseS_in (List.getElem_mem hi); omega
      have gi : 0 ≤ (i : Int) ∧ (i : Int) < (a.length : Int) := by omega
      rw [cnd_dt (by omega), grd_pos gi, grd_pos gi, e, eqRaise_s N hN (a := ⟨(a.getD i (0, [])).1, (a.getD i (0, [])).2⟩) (by rw [hg]; exact hb), Option.bind_some, Bool.not_true, cnd_false, grd_R (by omega) (by omega), succ_cast]
      exact ih (i + 1) (by omega) (by omega)
    · rw [cnd_df (by omega)]
theorem eqRaiseS_s (hN : 4000000 ≤ N) {a : List (Int × List Int)} (ha : lnRaiseS a ≤ 1048576) : L_eqRaiseS N a a = some true := by
  have hal : a.length ≤ 1048576 := by unfold lnRaiseS at ha; omega
  unfold L_eqRaiseS
  rw [bne_self_eq_false, cnd_false]
  exact eqRaiseS_l N hN ha (fun _ => some true) N 0 (by omega) (by omega)
end Go.Proofs.Ytmoamglpocjhgaa

namespace Go.Proofs.Ytmoamglpocjhgaa
open Go.RowKit
set_option linter.unusedVariables false
set_option linter.unusedSimpArgs false
end Go.Proofs.Ytmoamglpocjhgaa

namespace Go.Proofs.Ytmoamglpocjhgaa
open Go.RowKit
set_option linter.unusedVariables false
set_option linter.unusedSimpArgs false
end Go.Proofs.Ytmoamglpocjhgaa

namespace Go.Proofs.Ytmoamglpocjhgaa
open Go.RowKit
set_option linter.unusedVariables false
set_option linter.unusedSimpArgs false
def S_RaisedPoints_l1 (N : Nat) (p_0 : Pin) (l_1 : List (Int × List Int)) (k : (List Int) → Option (List Int)) : Nat → ((List Int) × Int) → Option (List Int)
  | 0, _ => none
  | n + 1, (l11, i12) =>
    cnd (decide (i12 < (l_1.length : Int))) (
      grd (0 ≤ i12 ∧ i12 < (l_1.length : Int)) <|
      (S_IsRaise N p_0 l11 (⟨(l_1.getD ((i12).toNat) (0, [])).1, (l_1.getD ((i12).toNat) (0, [])).2⟩ : Rse)).bind fun v14 =>
      cnd (!v14) (
        some l11) (
        grd (l11.length + 1 ≤ 4294967296) <|
        grd (Rg64 (i12 + (1 : Int))) <|
        S_RaisedPoints_l1 N p_0 l_1 k n ((l11 ++ ([(l_1.getD ((i12).toNat) (0, [])).1] : List Int)), (i12 + (1 : Int))))) (
      k l11)
def S_RaisedPoints (N : Nat) (p_0 : Pin) (l_1 : List (Int × List Int)) : Option (List Int) :=
  S_RaisedPoints_l1 N p_0 l_1 (fun (l7 : List Int) =>
        some l7) N (([] : List Int), (0 : Int))
set_option maxRecDepth 20000 in
set_option maxHeartbeats 1600000 in
theorem S_RaisedPoints_w (N : Nat) (p_0 : Pin) (l_1 : List (Int × List Int)) (r : List Int) (h : S_RaisedPoints N p_0 l_1 = some r) : PCall Try.prog 12 [pD p_0, .ro false (.raises l_1)] [(3, .ints r)] (.row 0 0 r.length) := by
  unfold S_RaisedPoints at h
  refine pcall_intro (TT := TT) tt Try.func12 rfl rfl Try.ntmps12 (congrArg Array.toList Try.results12) rfl rfl fun w0 => ?_
  refine vSeq ?_
  refine vRegion ?_
  refine oBox rfl rfl rfl rfl rfl rfl rfl rfl rfl ?_
  refine oVal tt rfl rfl rfl rfl rfl trivial ?_
  refine vNil ?_
  change VC _ _ _ _
  refine vSeq ?_
  refine vRegion ?_
  refine oEmpty tt (wNone rfl) rfl rfl rfl rfl ?_
  refine oVal tt rfl rfl rfl rfl rfl trivial ?_
  refine vNil ?_
  change VC _ _ _ _
  iterate 2 refine vSeq ?_
  refine vRegion ?_
  refine oVal tt rfl rfl rfl rfl rfl trivial ?_
  refine vNil ?_
  change VC _ _ _ _
  refine vJoin (F := fun k => S_RaisedPoints_l1 N p_0 l_1 k) h (α := List Int) (J := fun (l7 : List Int) => (⟨[(5, .row 30 0 l7.length)], [(30, some (3, .ints l7))], []⟩ : PS)) ?_ ?_
  · rintro l7 h
    show VC _ _ _ (⟨[(5, .row 30 0 l7.length)], [(30, some (3, .ints l7))], []⟩ : PS)
    refine vSeq ?_
    refine vRegion ?_
    iterate 2 refine oVal tt rfl rfl rfl rfl rfl trivial ?_
    refine vNil ?_
    change VC _ _ _ _
    refine vRet ?_
    change ∃ _, _
    cases h
    exact ⟨[30], _, rfl, ⟨rfl, trivial⟩, rfl, (.eq rfl), rfl⟩
  · intro k h
    refine vBlock ?_
    refine vNilT 5 30 3 (.ints []) rfl rfl rfl rfl ?_
    refine vLoopS (α := (List Int) × Int) (fun | (l11, i12) => (⟨[(1, .ro false (.raises l_1)), (2, .ptr 2 0), (5, .row 30 0 l11.length), (6, .int i12)], [(30, some (3, .ints l11))], [(2, some [.int p_0.g.n, .ro false (.pairs p_0.g.bars), .ro false (.ints p_0.ground)])]⟩ : PS)) (S_RaisedPoints_l1 N p_0 l_1 k) h (En.of ⟨rfl, rfl, rfl, rfl, trivial⟩ ⟨rfl, trivial⟩ ⟨rfl, trivial⟩) (fun _ => rfl) ?_
    rintro n ⟨l11, i12⟩ h
    rw [S_RaisedPoints_l1] at h
    show VC _ _ _ (⟨[(1, .ro false (.raises l_1)), (2, .ptr 2 0), (5, .row 30 0 l11.length), (6, .int i12)], [(30, some (3, .ints l11))], [(2, some [.int p_0.g.n, .ro false (.pairs p_0.g.bars), .ro false (.ints p_0.ground)])]⟩ : PS)
    iterate 2 refine vSeq ?_
    refine vRegion ?_
    iterate 4 refine oVal tt rfl rfl rfl rfl rfl trivial ?_
    refine vNil ?_
    change VC _ _ _ _
    refine vCond rfl (fun hb1 => ?_) (fun hb1 => ?_)
    · replace h := cnd_t hb1 h
      refine vSkip ?_
      change VC _ _ _ _
      refine vSeq ?_
      refine vBlock ?_
      iterate 2 refine vSeq ?_
      refine vRegionD (by kernel_rfl) (by kernel_rfl) ?_
      iterate 4 refine cVal tt rfl (wNone rfl) rfl rfl rfl trivial ?_
      obtain ⟨hg2, h⟩ := grd_inv h
      refine cVal tt rfl (wNone rfl) rfl rfl rfl hg2 ?_
      refine cVal tt rfl (wNone rfl) rfl rfl rfl trivial ?_
      obtain ⟨v14, hc3, h⟩ := bind_inv h
      refine cCall (S_IsRaise_w N p_0 l11 (⟨(l_1.getD ((i12).toNat) (0, [])).1, (l_1.getD ((i12).toNat) (0, [])).2⟩ : Rse) v14 hc3) rfl (wNone rfl) rfl rfl rfl rfl rfl rfl ⟨⟨rfl, rfl, rfl, trivial⟩, (.inl ⟨rfl, rfl⟩), ⟨rfl, rfl, trivial⟩, trivial⟩ ?_
      refine cVal tt rfl (wNone rfl) rfl rfl rfl trivial ?_
      refine cNil ?_
      change VC _ _ _ _
      refine vCond rfl (fun hb4 => ?_) (fun hb4 => ?_)
      · replace h := cnd_t hb4 h
        refine vSeq ?_
        refine vRegion ?_
        iterate 2 refine oVal tt rfl rfl rfl rfl rfl trivial ?_
        refine vNil ?_
        change VC _ _ _ _
        refine vRet ?_
        change ∃ _, _
        cases h
        exact ⟨[30], _, rfl, ⟨rfl, trivial⟩, rfl, (.eq rfl), rfl⟩
      · replace h := cnd_f hb4 h
        refine vSkip ?_
        change VC _ _ _ _
        refine vRegion ?_
        iterate 3 refine oVal tt rfl rfl rfl rfl rfl trivial ?_
        refine oVal tt rfl rfl rfl rfl rfl hg2 ?_
        iterate 2 refine oVal tt rfl rfl rfl rfl rfl trivial ?_
        refine oBuild tt rfl rfl rfl rfl rfl rfl rfl rfl rfl rfl rfl ?_
        obtain ⟨hg5, h⟩ := grd_inv h
        refine oAppend tt rfl rfl rfl rfl rfl rfl rfl rfl rfl rfl rfl rfl rfl rfl rfl rfl (Nat.le_of_eq (Nat.zero_add _)) hg5 ?_
        refine oVal tt rfl rfl rfl rfl rfl trivial ?_
        refine vNil ?_
        change VC _ _ _ _
        refine vRegion ?_
        refine oVal tt rfl rfl rfl rfl rfl trivial ?_
        obtain ⟨hg6, h⟩ := grd_inv h
        refine oVal tt rfl rfl rfl rfl rfl hg6 ?_
        refine oVal tt rfl rfl rfl rfl rfl trivial ?_
        refine vNil ?_
        change ∃ _, _
        exact ⟨((l11 ++ ([(l_1.getD ((i12).toNat) (0, [])).1] : List Int)), (i12 + (1 : Int))), (En.of ⟨rfl, rfl, rfl, rfl, trivial⟩ ⟨rfl, trivial⟩ ⟨rfl, trivial⟩), h⟩
    · replace h := cnd_f hb1 h
      refine vExit ?_
      change ∃ _, _
      exact ⟨l11, (En.of ⟨rfl, trivial⟩ ⟨rfl, trivial⟩ trivial), h⟩
def I_RaisedPoints_l1 (N : Nat) (p_0 : Pin) (l_1 : List (Int × List Int)) (k : (List Int) → Option (List Int)) : Nat → ((List Int) × Int) → Option (List Int)
  | 0, _ => none
  | n + 1, (l11, x12) =>
    cnd (decide (x12 < (l_1.length : Int))) (
      grd (0 ≤ x12 ∧ x12 < (l_1.length : Int)) <|
      (I_IsRaise N p_0 l11 (⟨(l_1.getD ((x12).toNat) (0, [])).1, (l_1.getD ((x12).toNat) (0, [])).2⟩ : Rse)).bind fun v14 =>
      cnd (!v14) (
        k l11) (
        grd (l11.length + 1 ≤ 4294967296) <|
        grd (Rg64 (x12 + (1 : Int))) <|
        I_RaisedPoints_l1 N p_0 l_1 k n ((l11 ++ ([(l_1.getD ((x12).toNat) (0, [])).1] : List Int)), (x12 + (1 : Int))))) (
      k l11)
def I_RaisedPoints (N : Nat) (p_0 : Pin) (l_1 : List (Int × List Int)) : Option (List Int) :=
  I_RaisedPoints_l1 N p_0 l_1 (fun (l7 : List Int) =>
        some l7) N (([] : List Int), (0 : Int))
set_option maxRecDepth 20000 in
set_option maxHeartbeats 1600000 in
theorem I_RaisedPoints_w (N : Nat) (p_0 : Pin) (l_1 : List (Int × List Int)) (r : List Int) (h : I_RaisedPoints N p_0 l_1 = some r) : PCall Try.prog 15 [pD p_0, .ro false (.raises l_1)] [(3, .ints r)] (.row 0 0 r.length) := by
  unfold I_RaisedPoints at h
  refine pcall_intro (TT := TT) tt Try.func15 rfl rfl Try.ntmps15 (congrArg Array.toList Try.results15) rfl rfl fun w0 => ?_
  refine vSeq ?_
  refine vRegion ?_
  refine oBox rfl rfl rfl rfl rfl rfl rfl rfl rfl ?_
  refine oVal tt rfl rfl rfl rfl rfl trivial ?_
  refine vNil ?_
  change VC _ _ _ _
  refine vSeq ?_
  refine vRegion ?_
  refine oEmpty tt (wNone rfl) rfl rfl rfl rfl ?_
  refine oVal tt rfl rfl rfl rfl rfl trivial ?_
  refine vNil ?_
  change VC _ _ _ _
  iterate 2 refine vSeq ?_
  refine vRegion ?_
  iterate 3 refine oVal tt rfl rfl rfl rfl rfl trivial ?_
  refine vNil ?_
  change VC _ _ _ _
  refine vJoin (F := fun k => I_RaisedPoints_l1 N p_0 l_1 k) h (α := List Int) (J := fun (l7 : List Int) => (⟨[(5, .row 24 0 l7.length)], [(24, some (3, .ints l7))], []⟩ : PS)) ?_ ?_
  · rintro l7 h
    show VC _ _ _ (⟨[(5, .row 24 0 l7.length)], [(24, some (3, .ints l7))], []⟩ : PS)
    refine vSeq ?_
    refine vRegion ?_
    iterate 2 refine oVal tt rfl rfl rfl rfl rfl trivial ?_
    refine vNil ?_
    change VC _ _ _ _
    refine vRet ?_
    change ∃ _, _
    cases h
    exact ⟨[24], _, rfl, ⟨rfl, trivial⟩, rfl, (.eq rfl), rfl⟩
  · intro k h
    refine vBlock ?_
    refine vNilT 5 24 3 (.ints []) rfl rfl rfl rfl ?_
    refine vLoopS (α := (List Int) × Int) (fun | (l11, x12) => (⟨[(2, .ptr 2 0), (5, .row 24 0 l11.length), (9, .ro false (.raises l_1)), (10, .int (l_1.length : Int)), (11, .int x12)], [(24, some (3, .ints l11))], [(2, some [.int p_0.g.n, .ro false (.pairs p_0.g.bars), .ro false (.ints p_0.ground)])]⟩ : PS)) (I_RaisedPoints_l1 N p_0 l_1 k) h (En.of ⟨rfl, rfl, rfl, rfl, rfl, trivial⟩ ⟨rfl, trivial⟩ ⟨rfl, trivial⟩) (fun _ => rfl) ?_
    rintro n ⟨l11, x12⟩ h
    rw [I_RaisedPoints_l1] at h
    show VC _ _ _ (⟨[(2, .ptr 2 0), (5, .row 24 0 l11.length), (9, .ro false (.raises l_1)), (10, .int (l_1.length : Int)), (11, .int x12)], [(24, some (3, .ints l11))], [(2, some [.int p_0.g.n, .ro false (.pairs p_0.g.bars), .ro false (.ints p_0.ground)])]⟩ : PS)
    refine vSeq ?_
    refine vRegion ?_
    refine oVal tt rfl rfl rfl rfl rfl trivial ?_
    refine vNil ?_
    change VC _ _ _ _
    refine vSeq ?_
    refine vCond rfl (fun hb1 => ?_) (fun hb1 => ?_)
    · replace h := cnd_t hb1 h
      refine vSkip ?_
      change VC _ _ _ _
      refine vSeq ?_
      refine vBlock ?_
      refine vSeq ?_
      refine vRegion ?_
      obtain ⟨hg2, h⟩ := grd_inv h
      refine oVal tt rfl rfl rfl rfl rfl hg2 ?_
      refine oVal tt rfl rfl rfl rfl rfl trivial ?_
      refine oAlloc tt rfl rfl rfl rfl rfl rfl rfl rfl rfl ?_
      refine oStore tt rfl rfl rfl rfl rfl rfl rfl rfl rfl rfl rfl ⟨trivial, trivial, trivial⟩ ?_
      refine vNil ?_
      change VC _ _ _ _
      iterate 2 refine vSeq ?_
      refine vRegion ?_
      iterate 3 refine oVal tt rfl rfl rfl rfl rfl trivial ?_
      obtain ⟨v14, hc3, h⟩ := bind_inv h
      refine oCall (I_IsRaise_w N p_0 l11 (⟨(l_1.getD ((x12).toNat) (0, [])).1, (l_1.getD ((x12).toNat) (0, [])).2⟩ : Rse) v14 hc3) rfl rfl rfl rfl rfl rfl rfl rfl ⟨⟨rfl, rfl, rfl, trivial⟩, (.inl ⟨rfl, rfl⟩), ⟨rfl, rfl, trivial⟩, trivial⟩ ?_
      refine oVal tt rfl rfl rfl rfl rfl trivial ?_
      refine vNil ?_
      change VC _ _ _ _
      refine vCond rfl (fun hb4 => ?_) (fun hb4 => ?_)
      · replace h := cnd_t hb4 h
        refine vExit ?_
        change ∃ _, _
        exact ⟨l11, (En.of ⟨rfl, trivial⟩ ⟨rfl, trivial⟩ trivial), h⟩
      · replace h := cnd_f hb4 h
        refine vSkip ?_
        change VC _ _ _ _
        refine vRegion ?_
        iterate 3 refine oVal tt rfl rfl rfl rfl rfl trivial ?_
        refine oBuild tt rfl rfl rfl rfl rfl rfl rfl rfl rfl rfl rfl ?_
        obtain ⟨hg5, h⟩ := grd_inv h
        refine oAppend tt rfl rfl rfl rfl rfl rfl rfl rfl rfl rfl rfl rfl rfl rfl rfl rfl (Nat.le_of_eq (Nat.zero_add _)) hg5 ?_
        refine oVal tt rfl rfl rfl rfl rfl trivial ?_
        refine vNil ?_
        change VC _ _ _ _
        refine vRegion ?_
        obtain ⟨hg6, h⟩ := grd_inv h
        refine oVal tt rfl rfl rfl rfl rfl hg6 ?_
        refine oVal tt rfl rfl rfl rfl rfl trivial ?_
        refine vNil ?_
        change ∃ _, _
        exact ⟨((l11 ++ ([(l_1.getD ((x12).toNat) (0, [])).1] : List Int)), (x12 + (1 : Int))), (En.of ⟨rfl, rfl, rfl, rfl, rfl, trivial⟩ ⟨rfl, trivial⟩ ⟨rfl, trivial⟩), h⟩
    · replace h := cnd_f hb1 h
      refine vExit ?_
      change ∃ _, _
      exact ⟨l11, (En.of ⟨rfl, trivial⟩ ⟨rfl, trivial⟩ trivial), h⟩
end Go.Proofs.Ytmoamglpocjhgaa

namespace Go.Proofs.Ytmoamglpocjhgaa
set_option linter.unusedVariables false
set_option linter.unusedSimpArgs false
variable {N : Nat}
/-- the points raised behind d, up to the first that is none -/
def raisedFrom (p : Pin) : List (Int × List Int) → List Int → List Int
  | [], d => d
  | r :: l, d => cnd (raiseOk p d ⟨r.1, r.2⟩) (raisedFrom p l (d ++ [r.1])) d
theorem raisedFrom_len (p : Pin) : ∀ (l : List (Int × List Int)) (d : List Int), (raisedFrom p l d).length ≤ d.length + l.length
  | [], d => by simp [raisedFrom]
  | r :: l, d => by
    rw [raisedFrom]
    cases raiseOk p d ⟨r.1, r.2⟩
    · rw [cnd_false]; omega
    · rw [cnd_true]
      have := raisedFrom_len p l (d ++ [r.1])
      simp at this ⊢; omega
theorem raisedS_l (hN : 4000000 ≤ N) {p : Pin} (hb : p.g.bars.length ≤ 3000000) (hg : p.ground.length ≤ 3000000) {l : List (Int × List Int)} (hl : lnRaiseS l ≤ 1048576) : ∀ (n i : Nat) (d : List Int), i ≤ l.length → l.length < n + i → d.length ≤ i →
    S_RaisedPoints_l1 N p l (fun x => some x) n (d, (i : Int)) = some (raisedFrom p (l.drop i) d) := by
  have hll : l.length ≤ 1048576 := by unfold lnRaiseS at hl; omega
  intro n
  induction n with
  | zero => intro i d h1 h2; omega
  | succ n ih =>
    intro i d h1 h2 h3
    rw [S_RaisedPoints_l1]
    by_cases hi : i < l.length
    · have hgt : l.getD i (0, []) = l[i] := by simp [hi]
      have e : ((i : Int)).toNat = i := by omega
      have hbr : (l[i]).2.length ≤ 1048576 := by have := lnRaiseS_in (List.getElem_mem hi); omega
      have gi : 0 ≤ (i : Int) ∧ (i : Int) < (l.length : Int) := by omega
      have gd : d.length + 1 ≤ 4294967296 := by omega
      rw [cnd_dt (by omega), grd_pos gi, e, hgt, isRaiseS_s N hN hb hg (dn := d) (by omega) (r := ⟨(l[i]).1, (l[i]).2⟩) (by show (l[i]).2.length ≤ 3000000; omega), Option.bind_some, List.drop_eq_getElem_cons hi, raisedFrom]
      cases raiseOk p d ⟨(l[i]).1, (l[i]).2⟩
      · rfl
      · rw [Bool.not_true, cnd_false, cnd_true, grd_pos gd, grd_R (by omega) (by omega), succ_cast]
        exact ih (i + 1) _ (by omega) (by omega) (by simp; omega)
    · rw [cnd_df (by omega), List.drop_of_length_le (by omega)]
      rfl
theorem raisedI_l (hN : 4000000 ≤ N) {p : Pin} (hb : p.g.bars.length ≤ 3000000) (hg : p.ground.length ≤ 3000000) {l : List (Int × List Int)} (hl : lnRaiseS l ≤ 1048576) : ∀ (n i : Nat) (d : List Int), i ≤ l.length → l.length < n + i → d.length ≤ i →
    I_RaisedPoints_l1 N p l (fun x => some x) n (d, (i : Int)) = some (raisedFrom p (l.drop i) d) := by
  have hll : l.length ≤ 1048576 := by unfold lnRaiseS at hl; omega
  intro n
  induction n with
  | zero => intro i d h1 h2; omega
  | succ n ih =>
    intro i d h1 h2 h3
    rw [I_RaisedPoints_l1]
    by_cases hi : i < l.length
    · have hgt : l.getD i (0, []) = l[i] := by simp [hi]
      have e : ((i : Int)).toNat = i := by omega
      have hbr : (l[i]).2.length ≤ 1048576 := by have := lnRaiseS_in (List.getElem_mem hi); omega
      have gi : 0 ≤ (i : Int) ∧ (i : Int) < (l.length : Int) := by omega
      have gd : d.length + 1 ≤ 4294967296 := by omega
      rw [cnd_dt (by omega), grd_pos gi, e, hgt, isRaiseI_s N hN hb hg (dn := d) (by omega) (r := ⟨(l[i]).1, (l[i]).2⟩) (by show (l[i]).2.length ≤ 3000000; omega), Option.bind_some, List.drop_eq_getElem_cons hi, raisedFrom]
      cases raiseOk p d ⟨(l[i]).1, (l[i]).2⟩
      · rfl
      · rw [Bool.not_true, cnd_false, cnd_true, grd_pos gd, grd_R (by omega) (by omega), succ_cast]
        exact ih (i + 1) _ (by omega) (by omega) (by simp; omega)
    · rw [cnd_df (by omega), List.drop_of_length_le (by omega)]
      rfl
theorem raisedS_s (hN : 4000000 ≤ N) {p : Pin} (hb : p.g.bars.length ≤ 3000000) (hg : p.ground.length ≤ 3000000) {l : List (Int × List Int)} (hl : lnRaiseS l ≤ 1048576) : S_RaisedPoints N p l = some (raisedFrom p l []) := by
  have hll : l.length ≤ 1048576 := by unfold lnRaiseS at hl; omega
  exact raisedS_l hN hb hg hl N 0 [] (by omega) (by omega) (by simp)
theorem raisedI_s (hN : 4000000 ≤ N) {p : Pin} (hb : p.g.bars.length ≤ 3000000) (hg : p.ground.length ≤ 3000000) {l : List (Int × List Int)} (hl : lnRaiseS l ≤ 1048576) : I_RaisedPoints N p l = some (raisedFrom p l []) := by
  have hll : l.length ≤ 1048576 := by unfold lnRaiseS at hl; omega
  exact raisedI_l hN hb hg hl N 0 [] (by omega) (by omega) (by simp)
end Go.Proofs.Ytmoamglpocjhgaa

namespace Go.Proofs.Ytmoamglpocjhgaa
open Go.RowKit
set_option linter.unusedVariables false
set_option linter.unusedSimpArgs false
end Go.Proofs.Ytmoamglpocjhgaa

namespace Go.Proofs.Ytmoamglpocjhgaa
open Go.RowKit
set_option linter.unusedVariables false
set_option linter.unusedSimpArgs false
end Go.Proofs.Ytmoamglpocjhgaa

namespace Go.Proofs.Ytmoamglpocjhgaa
open Go.RowKit
set_option linter.unusedVariables false
set_option linter.unusedSimpArgs false
end Go.Proofs.Ytmoamglpocjhgaa

namespace Go.Proofs.Ytmoamglpocjhgaa
open Go.RowKit
set_option linter.unusedVariables false
set_option linter.unusedSimpArgs false
end Go.Proofs.Ytmoamglpocjhgaa

namespace Go.Proofs.Ytmoamglpocjhgaa
open Go.RowKit
set_option linter.unusedVariables false
set_option linter.unusedSimpArgs false
end Go.Proofs.Ytmoamglpocjhgaa

namespace Go.Proofs.Ytmoamglpocjhgaa
open Go.RowKit
set_option linter.unusedVariables false
set_option linter.unusedSimpArgs false
end Go.Proofs.Ytmoamglpocjhgaa

namespace Go.Proofs.Ytmoamglpocjhgaa
open Go.RowKit
set_option linter.unusedVariables false
set_option linter.unusedSimpArgs false
end Go.Proofs.Ytmoamglpocjhgaa

namespace Go.Proofs.Ytmoamglpocjhgaa
open Go.RowKit
set_option linter.unusedVariables false
set_option linter.unusedSimpArgs false
end Go.Proofs.Ytmoamglpocjhgaa

namespace Go.Proofs.Ytmoamglpocjhgaa
open Go.RowKit
set_option linter.unusedVariables false
set_option linter.unusedSimpArgs false
end Go.Proofs.Ytmoamglpocjhgaa

namespace Go.Proofs.Ytmoamglpocjhgaa
open Go.RowKit
set_option linter.unusedVariables false
set_option linter.unusedSimpArgs false
end Go.Proofs.Ytmoamglpocjhgaa

namespace Go.Proofs.Ytmoamglpocjhgaa
open Go.RowKit
set_option linter.unusedVariables false
set_option linter.unusedSimpArgs false
end Go.Proofs.Ytmoamglpocjhgaa

namespace Go.Proofs.Ytmoamglpocjhgaa
open Go.RowKit
set_option linter.unusedVariables false
set_option linter.unusedSimpArgs false
end Go.Proofs.Ytmoamglpocjhgaa

namespace Go.Proofs.Ytmoamglpocjhgaa
open Go.RowKit
set_option linter.unusedVariables false
set_option linter.unusedSimpArgs false
end Go.Proofs.Ytmoamglpocjhgaa

namespace Go.Proofs.Ytmoamglpocjhgaa
open Go.RowKit
set_option linter.unusedVariables false
set_option linter.unusedSimpArgs false
end Go.Proofs.Ytmoamglpocjhgaa

namespace Go.Proofs.Ytmoamglpocjhgaa
open Go.RowKit
set_option linter.unusedVariables false
set_option linter.unusedSimpArgs false
end Go.Proofs.Ytmoamglpocjhgaa

namespace Go.Proofs.Ytmoamglpocjhgaa
open Go.RowKit Go.Deep
set_option linter.unusedVariables false
set_option linter.unusedSimpArgs false
def L_markRaiseS_l1 (N : Nat) (a_0 : List (Int × List Int)) (k : ((List (Int × List Int)) × Int) → Option (Int × (List (Int × List Int)))) : Nat → ((List (Int × List Int)) × Int × Int) → Option (Int × (List (Int × List Int)))
  | 0, _ => none
  | n + 1, (l11, k12, i13) =>
    cnd (decide (i13 < (a_0.length : Int))) (
      grd (0 ≤ i13 ∧ i13 < (a_0.length : Int)) <|
      grd (0 ≤ i13 ∧ i13 < (l11.length : Int)) <|
      grd (Rg64 (k12 + (1 : Int))) <|
      grd (0 ≤ i13 ∧ i13 < ((l11.set ((i13).toNat) (k12, (l11.getD ((i13).toNat) (0, [])).2)).length : Int)) <|
      (L_markIntS N (((l11.set ((i13).toNat) (k12, (l11.getD ((i13).toNat) (0, [])).2)).getD ((i13).toNat) (0, [])).2) (k12 + (1 : Int))).bind fun v15 =>
      grd (v15.2.length = (((l11.set ((i13).toNat) (k12, (l11.getD ((i13).toNat) (0, [])).2)).getD ((i13).toNat) (0, [])).2).length) <|
      grd (Rg64 (i13 + (1 : Int))) <|
      L_markRaiseS_l1 N a_0 k n (((l11.set ((i13).toNat) (k12, (l11.getD ((i13).toNat) (0, [])).2)).set ((i13).toNat) (((l11.set ((i13).toNat) (k12, (l11.getD ((i13).toNat) (0, [])).2)).getD ((i13).toNat) (0, [])).1, v15.2)), v15.1, (i13 + (1 : Int)))) (
      k (l11, k12))
def L_markRaiseS (N : Nat) (a_0 : List (Int × List Int)) (k_1 : Int) : Option (Int × (List (Int × List Int))) :=
  L_markRaiseS_l1 N a_0 (fun (x : (List (Int × List Int)) × Int) =>
      match x with
      | (l7, k8) =>
        some (k8, l7)) N (a_0, k_1, (0 : Int))
set_option maxRecDepth 20000 in
set_option maxHeartbeats 1600000 in
theorem L_markRaiseS_wF11 (N : Nat) (a_0 : List (Int × List Int)) (k_1 : Int) (r : Int × (List (Int × List Int))) (h : L_markRaiseS N a_0 k_1 = some r) : MCall Try.prog 20 [.row 1000000 0 a_0.length, .int k_1] [1000000, 8589934603] [] [(70, dR 11 (.raises a_0)), (3, dF (.raises a_0))] [(70, dR 11 (.raises r.2)), (3, dF (.raises r.2))] [] [] (.int r.1) := by
  unfold L_markRaiseS at h
  refine mcall_intro (TT := TT) tt Try.func20 rfl rfl Try.ntmps20 (congrArg Array.toList Try.results20) rfl rfl rfl rfl rfl fun w0 O0 => ?_
  refine vSeq ?_
  refine vRegion ?_
  refine oVal tt rfl rfl rfl rfl rfl trivial ?_
  refine vNil ?_
  change VC _ _ _ _
  iterate 2 refine vSeq ?_
  refine vRegion ?_
  refine oVal tt rfl rfl rfl rfl rfl trivial ?_
  refine vNil ?_
  change VC _ _ _ _
  refine vJoin (F := fun k => L_markRaiseS_l1 N a_0 k) h (α := (List (Int × List Int)) × Int) (J := fun | (l7, k8) => (⟨[(1, .int k8)], [(1000000, some (70, dR 11 (.raises l7))), (8589934603, some (3, dF (.raises l7)))], []⟩ : PS)) ?_ ?_
  · rintro ⟨l7, k8⟩ h
    show VC _ _ _ (⟨[(1, .int k8)], [(1000000, some (70, dR 11 (.raises l7))), (8589934603, some (3, dF (.raises l7)))], []⟩ : PS)
    refine vSeq ?_
    refine vRegion ?_
    iterate 2 refine oVal tt rfl rfl rfl rfl rfl trivial ?_
    refine vNil ?_
    change VC _ _ _ _
    refine vRet ?_
    change ∃ _, _
    cases h
    exact ⟨[1000000, 8589934603], rfl, ⟨rfl, rfl, trivial⟩, trivial, rfl⟩
  · intro k h
    refine vBlock ?_
    refine vLoopS (α := (List (Int × List Int)) × Int × Int) (fun | (l11, k12, i13) => (⟨[(0, .row 1000000 0 a_0.length), (1, .int k12), (5, .int i13)], [(1000000, some (70, dR 11 (.raises l11))), (8589934603, some (3, dF (.raises l11)))], []⟩ : PS)) (L_markRaiseS_l1 N a_0 k) h (En.of ⟨rfl, rfl, rfl, trivial⟩ ⟨rfl, rfl, trivial⟩ trivial) (fun _ => rfl) ?_
    rintro n ⟨l11, k12, i13⟩ h
    rw [L_markRaiseS_l1] at h
    show VC _ _ _ (⟨[(0, .row 1000000 0 a_0.length), (1, .int k12), (5, .int i13)], [(1000000, some (70, dR 11 (.raises l11))), (8589934603, some (3, dF (.raises l11)))], []⟩ : PS)
    iterate 2 refine vSeq ?_
    refine vRegion ?_
    iterate 4 refine oVal tt rfl rfl rfl rfl rfl trivial ?_
    refine vNil ?_
    change VC _ _ _ _
    refine vCond rfl (fun hb1 => ?_) (fun hb1 => ?_)
    · replace h := cnd_t hb1 h
      refine vSkip ?_
      change VC _ _ _ _
      refine vSeq ?_
      refine vBlock ?_
      refine vSeq ?_
      refine vRegion ?_
      iterate 3 refine oVal tt rfl rfl rfl rfl rfl trivial ?_
      obtain ⟨hg2, h⟩ := grd_inv h
      refine oVal tt rfl rfl rfl rfl rfl hg2 ?_
      obtain ⟨hg3, h⟩ := grd_inv h
      refine oVal tt rfl rfl rfl rfl rfl (by simpa [Sq.len, dR, idn_len, idr_len] using hg3) ?_
      refine oStore tt rfl rfl rfl rfl rfl rfl rfl rfl rfl rfl ⟨_, _, rfl, hg3.1, (by simpa [Sq.len, dR, idn_len, idr_len] using hg3.2)⟩ ⟨(by simpa [Sq.len, dR, idn_len, idr_len] using hg3), trivial⟩ ?_
      refine vEnO (En.eqR 1000000 rfl (congrArg (Sq.rrefs 11) (idr_set0 l11 ((i13).toNat) _ (by first | omega | (simp only [List.length_set, List.length_append, List.length_replicate] at *; omega))))) ?_
      refine vEnO (En.eqR 8589934603 rfl (congrArg (fun l => Sq.fam (.ints l)) (map_set0 l11 ((i13).toNat) k12 (by first | omega | (simp only [List.length_set, List.length_append, List.length_replicate] at *; omega))))) ?_
      refine vNil ?_
      change VC _ _ _ _
      refine vSeq ?_
      refine vRegion ?_
      refine oVal tt rfl rfl rfl rfl rfl trivial ?_
      obtain ⟨hg4, h⟩ := grd_inv h
      refine oVal tt rfl rfl rfl rfl rfl hg4 ?_
      refine oVal tt rfl rfl rfl rfl rfl trivial ?_
      refine vNil ?_
      change VC _ _ _ _
      refine vRegion ?_
      iterate 2 refine oVal tt rfl rfl rfl rfl rfl trivial ?_
      refine oVal tt rfl rfl rfl rfl rfl hg2 ?_
      obtain ⟨hg5, h⟩ := grd_inv h
      refine oVal tt rfl rfl rfl rfl rfl (by simpa [Sq.len, dR, idn_len, idr_len] using hg5) ?_
      refine oLoadD tt (wNone rfl) (.raises (l11.set ((i13).toNat) (k12, (l11.getD ((i13).toNat) (0, [])).2))) rfl rfl rfl rfl rfl rfl rfl rfl rfl hg5 ?_
      refine oVal tt rfl rfl rfl rfl rfl trivial ?_
      obtain ⟨v15, hc6, h⟩ := bind_inv h
      obtain ⟨hg7, h⟩ := grd_inv h
      refine oMCallI 1000000 (.raises ((l11.set ((i13).toNat) (k12, (l11.getD ((i13).toNat) (0, [])).2)).set ((i13).toNat) (((l11.set ((i13).toNat) (k12, (l11.getD ((i13).toNat) (0, [])).2)).getD ((i13).toNat) (0, [])).1, v15.2))) (L_markIntS_w N (((l11.set ((i13).toNat) (k12, (l11.getD ((i13).toNat) (0, [])).2)).getD ((i13).toNat) (0, [])).2) (k12 + (1 : Int)) v15 hc6) rfl rfl rfl rfl rfl rfl rfl rfl rfl (by simp only [Sq.len, List.length_set, List.length_append, List.length_replicate] at *; omega) (inR _ _ _ _ (by first | omega | (simp only [List.length_set, List.length_append, List.length_replicate] at *; omega)) hg7) hg7 rfl rfl ?_
      refine oVal tt rfl rfl rfl rfl rfl trivial ?_
      refine vNil ?_
      change VC _ _ _ _
      refine vRegion ?_
      refine oVal tt rfl rfl rfl rfl rfl trivial ?_
      obtain ⟨hg8, h⟩ := grd_inv h
      refine oVal tt rfl rfl rfl rfl rfl hg8 ?_
      refine oVal tt rfl rfl rfl rfl rfl trivial ?_
      refine vNil ?_
      change ∃ _, _
      exact ⟨(((l11.set ((i13).toNat) (k12, (l11.getD ((i13).toNat) (0, [])).2)).set ((i13).toNat) (((l11.set ((i13).toNat) (k12, (l11.getD ((i13).toNat) (0, [])).2)).getD ((i13).toNat) (0, [])).1, v15.2)), v15.1, (i13 + (1 : Int))), (En.of ⟨rfl, rfl, rfl, trivial⟩ ⟨rfl, rfl, trivial⟩ trivial), h⟩
    · replace h := cnd_f hb1 h
      refine vExit ?_
      change ∃ _, _
      exact ⟨(l11, k12), (En.of ⟨rfl, trivial⟩ ⟨rfl, rfl, trivial⟩ trivial), h⟩
end Go.Proofs.Ytmoamglpocjhgaa

namespace Go.Proofs.Ytmoamglpocjhgaa
set_option linter.unusedVariables false
set_option linter.unusedSimpArgs false
variable {N : Nat}
def mkR (k : Int) : List Nat → List (Int × List Int)
  | [] => []
  | m :: l => (k, mkI (k + 1) m) :: mkR (k + 1 + (m : Int)) l
theorem getD_at {α : Type} {a : List α} {x d : α} {b : List α} {i : Nat} (h : a.length = i) : (a ++ x :: b).getD i d = x := by subst h; simp
theorem set_at {α : Type} {a : List α} {x y : α} {b : List α} {i : Nat} (h : a.length = i) : (a ++ x :: b).set i y = a ++ y :: b := by subst h; simp
theorem app_shift {α : Type} (a b : List α) (x : α) : a ++ x :: b = (a ++ [x]) ++ b := by simp
theorem markRaiseS_l (hN : 4000000 ≤ N) {a : List (Int × List Int)} (ha : a.length ≤ 1048576) (kk : List (Int × List Int) × Int → Option (Int × List (Int × List Int))) : ∀ (rest : List (Int × List Int)) (pre : List (Int × List Int)) (k : Int) (n : Nat), pre.length + rest.length = a.length → rest.length < n → 0 ≤ k → k + (lnRaiseS rest : Int) ≤ 100000000 → lnRaiseS rest ≤ 1048576 →
    L_markRaiseS_l1 N a kk n (pre ++ rest, k, (pre.length : Int)) = kk (pre ++ mkR k (rest.map fun x => x.2.length), k + (lnRaiseS rest : Int)) := by
  intro rest
  induction rest with
  | nil =>
    intro pre k n h1 h2 h3 h4 h5
    cases n with
    | zero => simp at h2
    | succ n =>
      simp at h1
      rw [L_markRaiseS_l1, cnd_df (by omega)]
      simp [lnRaiseS, mkR]
  | cons r rest ih =>
    intro pre k n h1 h2 h3 h4 h5
    cases n with
    | zero => simp at h2
    | succ n =>
      simp at h1 h2
      have e0 : lnRaiseS (r :: rest) = 1 + r.2.length + lnRaiseS rest := by simp [lnRaiseS]; omega
      have hll : rest.length ≤ lnRaiseS rest := by unfold lnRaiseS; omega
      have e : ((pre.length : Int)).toNat = pre.length := by omega
      have g1 : 0 ≤ (pre.length : Int) ∧ (pre.length : Int) < (a.length : Int) := by omega
      have g2 : 0 ≤ (pre.length : Int) ∧ (pre.length : Int) < ((pre ++ r :: rest).length : Int) := by simp; omega
      have g3 : 0 ≤ (pre.length : Int) ∧ (pre.length : Int) < ((pre ++ (k, r.2) :: rest).length : Int) := by simp; omega
      have hr : r.2.length ≤ 1048576 := by omega
      rw [L_markRaiseS_l1, cnd_dt (by omega), grd_pos g1, grd_pos g2, grd_R (by omega) (by omega), e, getD_at rfl, set_at rfl, grd_pos g3, getD_at rfl]
      simp only
      rw [markIntS_s hN (by omega) hr, Option.bind_some]
      simp only
      rw [grd_pos (mkI_len _ _), grd_R (by omega) (by omega), set_at rfl, succ_cast, app_shift]
      have h6 : ((pre.length + 1 : Nat) : Int) = ((pre ++ [(k, mkI (k + 1) r.2.length)]).length : Int) := by simp
      rw [h6, ih _ _ _ (by simp; omega) (by omega) (by omega) (by omega) (by omega)]
      rw [List.map_cons, mkR, e0, ← app_shift]
      congr 2
      omega
theorem markRaiseS_s (hN : 4000000 ≤ N) {a : List (Int × List Int)} {k0 : Int} (hk : 0 ≤ k0 ∧ k0 ≤ 50000000) (ha : lnRaiseS a ≤ 1048576) : L_markRaiseS N a k0 = some (k0 + (lnRaiseS a : Int), mkR k0 (a.map fun x => x.2.length)) := by
  have hal : a.length ≤ 1048576 := by unfold lnRaiseS at ha; omega
  unfold L_markRaiseS
  exact markRaiseS_l hN hal _ a [] k0 N (by simp) (by omega) (by omega) (by omega) ha
end Go.Proofs.Ytmoamglpocjhgaa

namespace Go.Proofs.Ytmoamglpocjhgaa
open Go.RowKit
set_option linter.unusedVariables false
set_option linter.unusedSimpArgs false
def L_FnExactRaisedPoints (N : Nat) (aP_0 : Pin) (aL_1 : List (Int × List Int)) : Option (Bool) :=
  (L_szPinned N aP_0 (1048576 : Int)).bind fun v1 =>
  cnd (decide (v1 < (0 : Int))) (
    some true) (
    (L_szRaiseS N aL_1 v1).bind fun v2 =>
    cnd (decide (v2 < (0 : Int))) (
      some true) (
      (L_toPinned N aP_0).bind fun v3 =>
      (L_toRaiseS N aL_1).bind fun v4 =>
      (S_RaisedPoints N v3 v4).bind fun v5 =>
      (L_toPinned N aP_0).bind fun v6 =>
      (L_toRaiseS N aL_1).bind fun v7 =>
      (I_RaisedPoints N v6 v7).bind fun v8 =>
      (L_eqIntS N v8 v5).bind fun v9 =>
      cnd (!v9) (
        some false) (
        (L_toPinned N aP_0).bind fun v10 =>
        (L_eqPinned N v6 v10).bind fun v11 =>
        cnd (!v11) (
          some false) (
          (L_toRaiseS N aL_1).bind fun v12 =>
          (L_eqRaiseS N v7 v12).bind fun v13 =>
          cnd (!v13) (
            some false) (
            (L_markPinned N (⟨⟨v6.g.n, v6.g.bars⟩, v6.ground⟩ : Pin) (1 : Int)).bind fun v14 =>
            (L_markRaiseS N v7 v14.1).bind fun v15 =>
            cnd (decide (v15.1 < (0 : Int))) (
              some false) (
              (L_eqIntS N v8 v5).bind fun v16 =>
              cnd (!v16) (
                some false) (
                (L_markIntS N v8 (1 : Int)).bind fun v17 =>
                grd (v8.length = v17.2.length) <|
                (L_heldIntS N v17.2 (1 : Int)).bind fun v18 =>
                cnd (decide (v18 < (0 : Int))) (
                  some false) (
                  cnd (v18 != v17.1) (
                    some false) (
                    (L_toPinned N aP_0).bind fun v19 =>
                    (L_toRaiseS N aL_1).bind fun v20 =>
                    (I_RaisedPoints N v19 v20).bind fun v21 =>
                    (L_eqIntS N v21 v5).bind fun v22 =>
                    cnd (!v22) (
                      some false) (
                      (L_heldIntS N v17.2 (1 : Int)).bind fun v23 =>
                      cnd (decide (v23 < (0 : Int))) (
                        some false) (
                        cnd (v23 != v17.1) (
                          some false) (
                          some true))))))))))))
set_option maxRecDepth 20000 in
set_option maxHeartbeats 1600000 in
theorem L_FnExactRaisedPoints_w (N : Nat) (aP_0 : Pin) (aL_1 : List (Int × List Int)) (r : Bool) (h : L_FnExactRaisedPoints N aP_0 aL_1 = some r) : PCall Try.prog 3 [pD aP_0, .ro false (.raises aL_1)] [] (.bool r) := by
  unfold L_FnExactRaisedPoints at h
  refine pcall_intro (TT := TT) tt Try.func3 rfl rfl Try.ntmps3 (congrArg Array.toList Try.results3) rfl rfl fun w0 => ?_
  refine vSeq ?_
  refine vRegion ?_
  refine oBox rfl rfl rfl rfl rfl rfl rfl rfl rfl ?_
  refine oVal tt rfl rfl rfl rfl rfl trivial ?_
  refine vNil ?_
  change VC _ _ _ _
  refine vSeq ?_
  refine vRegion ?_
  refine oVal tt rfl rfl rfl rfl rfl trivial ?_
  refine vNil ?_
  change VC _ _ _ _
  refine vSeq ?_
  refine vRegion ?_
  iterate 2 refine oVal tt rfl rfl rfl rfl rfl trivial ?_
  obtain ⟨v1, hc1, h⟩ := bind_inv h
  refine oCall (L_szPinned_w N aP_0 (1048576 : Int) v1 hc1) rfl rfl rfl rfl rfl rfl rfl rfl ⟨⟨rfl, rfl, rfl, trivial⟩, rfl, trivial⟩ ?_
  refine oVal tt rfl rfl rfl rfl rfl trivial ?_
  refine vNil ?_
  change VC _ _ _ _
  iterate 2 refine vSeq ?_
  refine vRegion ?_
  iterate 2 refine oVal tt rfl rfl rfl rfl rfl trivial ?_
  refine vNil ?_
  change VC _ _ _ _
  refine vCond rfl (fun hb2 => ?_) (fun hb2 => ?_)
  · replace h := cnd_t hb2 h
    refine vSeq ?_
    refine vRegion ?_
    refine oVal tt rfl rfl rfl rfl rfl trivial ?_
    refine vNil ?_
    change VC _ _ _ _
    refine vRet ?_
    change ∃ _, _
    cases h
    exact ⟨[], _, rfl, trivial, rfl, (.eq rfl), rfl⟩
  · replace h := cnd_f hb2 h
    refine vSkip ?_
    change VC _ _ _ _
    refine vSeq ?_
    refine vRegion ?_
    iterate 2 refine oVal tt rfl rfl rfl rfl rfl trivial ?_
    obtain ⟨v2, hc3, h⟩ := bind_inv h
    refine oCall (L_szRaiseS_w N aL_1 v1 v2 hc3) rfl rfl rfl rfl rfl rfl rfl rfl ⟨rfl, rfl, trivial⟩ ?_
    refine oVal tt rfl rfl rfl rfl rfl trivial ?_
    refine vNil ?_
    change VC _ _ _ _
    iterate 2 refine vSeq ?_
    refine vRegion ?_
    iterate 2 refine oVal tt rfl rfl rfl rfl rfl trivial ?_
    refine vNil ?_
    change VC _ _ _ _
    refine vCond rfl (fun hb4 => ?_) (fun hb4 => ?_)
    · replace h := cnd_t hb4 h
      refine vSeq ?_
      refine vRegion ?_
      refine oVal tt rfl rfl rfl rfl rfl trivial ?_
      refine vNil ?_
      change VC _ _ _ _
      refine vRet ?_
      change ∃ _, _
      cases h
      exact ⟨[], _, rfl, trivial, rfl, (.eq rfl), rfl⟩
    · replace h := cnd_f hb4 h
      refine vSkip ?_
      change VC _ _ _ _
      refine vSeq ?_
      refine vRegion ?_
      refine oVal tt rfl rfl rfl rfl rfl trivial ?_
      obtain ⟨v3, hc5, h⟩ := bind_inv h
      refine oCall (L_toPinned_w N aP_0 v3 hc5) rfl rfl rfl rfl rfl rfl rfl rfl ⟨⟨rfl, rfl, rfl, trivial⟩, trivial⟩ ?_
      refine oVal tt rfl rfl rfl rfl rfl trivial ?_
      obtain ⟨v4, hc6, h⟩ := bind_inv h
      refine oCallD 10 (L_toRaiseS_w N aL_1 v4 hc6) rfl rfl rfl rfl rfl rfl rfl rfl rfl rfl rfl (fun _ h => by cases h) ⟨rfl, trivial⟩ ?_
      obtain ⟨v5, hc7, h⟩ := bind_inv h
      refine oCall (S_RaisedPoints_w N v3 v4 v5 hc7) rfl rfl rfl rfl rfl rfl rfl rfl ⟨⟨rfl, (.inl ⟨rfl, rfl⟩), (.inl ⟨rfl, rfl⟩), trivial⟩, (.inr (.inr ⟨10, _, by decide, rfl, rfl, rfl, rfl⟩)), trivial⟩ ?_
      refine oVal tt rfl rfl rfl rfl rfl trivial ?_
      refine vNil ?_
      change VC _ _ _ _
      refine vSeq ?_
      refine vRegion ?_
      refine oVal tt rfl rfl rfl rfl rfl trivial ?_
      obtain ⟨v6, hc8, h⟩ := bind_inv h
      refine oCall (L_toPinned_w N aP_0 v6 hc8) rfl rfl rfl rfl rfl rfl rfl rfl ⟨⟨rfl, rfl, rfl, trivial⟩, trivial⟩ ?_
      refine oAlloc tt rfl rfl rfl rfl rfl rfl rfl rfl rfl ?_
      refine oStore tt rfl rfl rfl rfl rfl rfl rfl rfl rfl rfl rfl ⟨trivial, trivial, trivial, trivial⟩ ?_
      refine vNil ?_
      change VC _ _ _ _
      refine vSeq ?_
      refine vRegion ?_
      refine oVal tt rfl rfl rfl rfl rfl trivial ?_
      obtain ⟨v7, hc9, h⟩ := bind_inv h
      refine oCallD 11 (L_toRaiseS_w N aL_1 v7 hc9) rfl rfl rfl rfl rfl rfl rfl rfl rfl rfl rfl (fun _ h => by cases h) ⟨rfl, trivial⟩ ?_
      refine oVal tt rfl rfl rfl rfl rfl trivial ?_
      refine vNil ?_
      change VC _ _ _ _
      refine vSeq ?_
      refine vRegion ?_
      iterate 2 refine oVal tt rfl rfl rfl rfl rfl trivial ?_
      obtain ⟨v8, hc10, h⟩ := bind_inv h
      refine oCall (I_RaisedPoints_w N v6 v7 v8 hc10) rfl rfl rfl rfl rfl rfl rfl rfl ⟨⟨rfl, (.inl ⟨rfl, rfl⟩), (.inl ⟨rfl, rfl⟩), trivial⟩, (.inr (.inr ⟨11, _, by decide, rfl, rfl, rfl, rfl⟩)), trivial⟩ ?_
      refine oVal tt rfl rfl rfl rfl rfl trivial ?_
      refine vNil ?_
      change VC _ _ _ _
      iterate 2 refine vSeq ?_
      refine vRegion ?_
      iterate 2 refine oVal tt rfl rfl rfl rfl rfl trivial ?_
      obtain ⟨v9, hc11, h⟩ := bind_inv h
      refine oCall (L_eqIntS_w N v8 v5 v9 hc11) rfl rfl rfl rfl rfl rfl rfl rfl ⟨(.inl ⟨rfl, rfl⟩), (.inl ⟨rfl, rfl⟩), trivial⟩ ?_
      refine oVal tt rfl rfl rfl rfl rfl trivial ?_
      refine vNil ?_
      change VC _ _ _ _
      refine vCond rfl (fun hb12 => ?_) (fun hb12 => ?_)
      · replace h := cnd_t hb12 h
        refine vSeq ?_
        refine vRegion ?_
        refine oVal tt rfl rfl rfl rfl rfl trivial ?_
        refine vNil ?_
        change VC _ _ _ _
        refine vRet ?_
        change ∃ _, _
        cases h
        exact ⟨[], _, rfl, trivial, rfl, (.eq rfl), rfl⟩
      · replace h := cnd_f hb12 h
        refine vSkip ?_
        change VC _ _ _ _
        iterate 2 refine vSeq ?_
        refine vRegionN 3 [2] [0, 0, 2, 7, 15] (by kernel_rfl) (by kernel_rfl) (by kernel_rfl) (by kernel_rfl) (by kernel_rfl) rfl (by rfl) ?_
        iterate 2 refine nVal tt rfl (wNone rfl) rfl rfl rfl rfl rfl trivial ?_
        obtain ⟨v10, hc13, h⟩ := bind_inv h
        refine nCallR (L_toPinned_w N aP_0 v10 hc13) rfl (wNone rfl) rfl rfl rfl rfl rfl rfl (by first | rfl | kernel_rfl | (simp [nrL, nm, gdst, nmT, rowB]; done)) rfl (by first | rfl | kernel_rfl | (simp [chkE, nrL, nm, gdst, nmT, rowB, hid, ment, mentA, mentS]; done) | (simp [chkE, nrL, nm, gdst, nmT, rowB, hid, ment, mentA, mentS]; decide)) ⟨⟨rfl, rfl, rfl, trivial⟩, trivial⟩ ?_
        refine nNil ?_
        change VO _ _ _ _ _
        obtain ⟨v11, hc14, h⟩ := bind_inv h
        refine oCall (L_eqPinned_w N v6 v10 v11 hc14) rfl rfl rfl rfl rfl rfl rfl rfl ⟨⟨rfl, (.inl ⟨rfl, rfl⟩), (.inl ⟨rfl, rfl⟩), trivial⟩, ⟨rfl, (.inl ⟨rfl, rfl⟩), (.inl ⟨rfl, rfl⟩), trivial⟩, trivial⟩ ?_
        refine oVal tt rfl rfl rfl rfl rfl trivial ?_
        refine vNil ?_
        change VC _ _ _ _
        refine vCond rfl (fun hb15 => ?_) (fun hb15 => ?_)
        · replace h := cnd_t hb15 h
          refine vSeq ?_
          refine vRegion ?_
          refine oVal tt rfl rfl rfl rfl rfl trivial ?_
          refine vNil ?_
          change VC _ _ _ _
          refine vRet ?_
          change ∃ _, _
          cases h
          exact ⟨[], _, rfl, trivial, rfl, (.eq rfl), rfl⟩
        · replace h := cnd_f hb15 h
          refine vSkip ?_
          change VC _ _ _ _
          iterate 2 refine vSeq ?_
          refine vRegion ?_
          iterate 2 refine oVal tt rfl rfl rfl rfl rfl trivial ?_
          obtain ⟨v12, hc16, h⟩ := bind_inv h
          refine oCallD 12 (L_toRaiseS_w N aL_1 v12 hc16) rfl rfl rfl rfl rfl rfl rfl rfl rfl rfl rfl (fun _ h => by cases h) ⟨rfl, trivial⟩ ?_
          obtain ⟨v13, hc17, h⟩ := bind_inv h
          refine oCall (L_eqRaiseS_w N v7 v12 v13 hc17) rfl rfl rfl rfl rfl rfl rfl rfl ⟨(.inr (.inr ⟨11, _, by decide, rfl, rfl, rfl, rfl⟩)), (.inr (.inr ⟨12, _, by decide, rfl, rfl, rfl, rfl⟩)), trivial⟩ ?_
          refine oVal tt rfl rfl rfl rfl rfl trivial ?_
          refine vNil ?_
          change VC _ _ _ _
          refine vCond rfl (fun hb18 => ?_) (fun hb18 => ?_)
          · replace h := cnd_t hb18 h
            refine vSeq ?_
            refine vRegion ?_
            refine oVal tt rfl rfl rfl rfl rfl trivial ?_
            refine vNil ?_
            change VC _ _ _ _
            refine vRet ?_
            change ∃ _, _
            cases h
            exact ⟨[], _, rfl, trivial, rfl, (.eq rfl), rfl⟩
          · replace h := cnd_f hb18 h
            refine vSkip ?_
            change VC _ _ _ _
            refine vSeq ?_
            refine vRegion ?_
            refine oVal tt rfl rfl rfl rfl rfl trivial ?_
            refine vNil ?_
            change VC _ _ _ _
            refine vSeq ?_
            refine vRegion ?_
            iterate 2 refine oVal tt rfl rfl rfl rfl rfl trivial ?_
            obtain ⟨v14, hc19, h⟩ := bind_inv h
            refine oMCall (L_markPinned_w N (⟨⟨v6.g.n, v6.g.bars⟩, v6.ground⟩ : Pin) (1 : Int) v14 hc19) [1300, 1301] [] [1300, 1301] rfl rfl rfl rfl rfl rfl ⟨rfl, rfl, trivial⟩ trivial ⟨⟨⟨rfl, rfl⟩, ⟨rfl, rfl⟩, ⟨rfl, rfl⟩, trivial⟩, ⟨rfl, rfl⟩, trivial⟩ ?_
            refine oVal tt rfl rfl rfl rfl rfl trivial ?_
            refine vNil ?_
            change VC _ _ _ _
            refine vSeq ?_
            refine vRegion ?_
            iterate 2 refine oVal tt rfl rfl rfl rfl rfl trivial ?_
            obtain ⟨v15, hc20, h⟩ := bind_inv h
            refine oMCall (L_markRaiseS_wF11 N v7 v14.1 v15 hc20) [1320, 8589934603] [] [1320, 8589934603] rfl rfl rfl rfl rfl rfl ⟨rfl, rfl, trivial⟩ trivial ⟨⟨rfl, rfl⟩, ⟨rfl, rfl⟩, trivial⟩ ?_
            refine oVal tt rfl rfl rfl rfl rfl trivial ?_
            refine vNil ?_
            change VC _ _ _ _
            iterate 2 refine vSeq ?_
            refine vRegion ?_
            iterate 3 refine oVal tt rfl rfl rfl rfl rfl trivial ?_
            refine oSplit rfl rfl rfl (fun hb21 => ?_) (fun hb21 => ?_)
            · replace h := cnd_t hb21 h
              iterate 4 refine oNoF rfl rfl rfl rfl hb21 rfl rfl ?_
              refine oPick rfl rfl rfl rfl rfl hb21 rfl ?_
              refine vNil ?_
              change VC _ _ _ _
              refine vCondT rfl rfl ?_
              refine vSeq ?_
              refine vRegion ?_
              refine oVal tt rfl rfl rfl rfl rfl trivial ?_
              refine vNil ?_
              change VC _ _ _ _
              refine vRet ?_
              change ∃ _, _
              cases h
              exact ⟨[], _, rfl, trivial, rfl, (.eq rfl), rfl⟩
            · replace h := cnd_f hb21 h
              iterate 2 refine oValG tt rfl rfl rfl rfl rfl hb21 rfl rfl rfl trivial ?_
              obtain ⟨v16, hc22, h⟩ := bind_inv h
              refine oCallG (L_eqIntS_w N v8 v5 v16 hc22) rfl rfl rfl rfl hb21 rfl rfl rfl rfl rfl rfl rfl ⟨(.inl ⟨rfl, rfl⟩), (.inl ⟨rfl, rfl⟩), trivial⟩ ?_
              refine oValG tt rfl rfl rfl rfl rfl hb21 rfl rfl rfl trivial ?_
              refine oPickF rfl rfl rfl rfl rfl hb21 rfl ?_
              refine vNil ?_
              change VC _ _ _ _
              refine vCond rfl (fun hb23 => ?_) (fun hb23 => ?_)
              · replace h := cnd_t hb23 h
                refine vSeq ?_
                refine vRegion ?_
                refine oVal tt rfl rfl rfl rfl rfl trivial ?_
                refine vNil ?_
                change VC _ _ _ _
                refine vRet ?_
                change ∃ _, _
                cases h
                exact ⟨[], _, rfl, trivial, rfl, (.eq rfl), rfl⟩
              · replace h := cnd_f hb23 h
                refine vSkip ?_
                change VC _ _ _ _
                refine vSeq ?_
                refine vRegion ?_
                refine oVal tt rfl rfl rfl rfl rfl trivial ?_
                refine vNil ?_
                change VC _ _ _ _
                refine vSeq ?_
                refine vRegion ?_
                iterate 2 refine oVal tt rfl rfl rfl rfl rfl trivial ?_
                obtain ⟨v17, hc24, h⟩ := bind_inv h
                refine oMCall (L_markIntS_w N v8 (1 : Int) v17 hc24) [1350] [] [1350] rfl rfl rfl rfl rfl rfl ⟨rfl, trivial⟩ trivial ⟨⟨rfl, rfl⟩, ⟨rfl, rfl⟩, trivial⟩ ?_
                refine oVal tt rfl rfl rfl rfl rfl trivial ?_
                refine vNil ?_
                change VC _ _ _ _
                refine vSeq ?_
                refine vRegion ?_
                refine oVal tt rfl rfl rfl rfl rfl trivial ?_
                refine vNil ?_
                change VC _ _ _ _
                refine vSeq ?_
                refine vRegion ?_
                iterate 2 refine oVal tt rfl rfl rfl rfl rfl trivial ?_
                obtain ⟨hg25, h⟩ := grd_inv h
                obtain ⟨v18, hc26, h⟩ := bind_inv h
                refine oCall (L_heldIntS_w N v17.2 (1 : Int) v18 hc26) rfl rfl rfl rfl rfl rfl rfl rfl ⟨(.inl ⟨hg25, rfl⟩), rfl, trivial⟩ ?_
                refine oVal tt rfl rfl rfl rfl rfl trivial ?_
                refine vNil ?_
                change VC _ _ _ _
                iterate 2 refine vSeq ?_
                refine vRegion ?_
                iterate 2 refine oVal tt rfl rfl rfl rfl rfl trivial ?_
                refine vNil ?_
                change VC _ _ _ _
                refine vCond rfl (fun hb27 => ?_) (fun hb27 => ?_)
                · replace h := cnd_t hb27 h
                  refine vSeq ?_
                  refine vRegion ?_
                  refine oVal tt rfl rfl rfl rfl rfl trivial ?_
                  refine vNil ?_
                  change VC _ _ _ _
                  refine vRet ?_
                  change ∃ _, _
                  cases h
                  exact ⟨[], _, rfl, trivial, rfl, (.eq rfl), rfl⟩
                · replace h := cnd_f hb27 h
                  refine vSkip ?_
                  change VC _ _ _ _
                  iterate 2 refine vSeq ?_
                  refine vRegion ?_
                  iterate 3 refine oVal tt rfl rfl rfl rfl rfl trivial ?_
                  refine vNil ?_
                  change VC _ _ _ _
                  refine vCond rfl (fun hb28 => ?_) (fun hb28 => ?_)
                  · replace h := cnd_t hb28 h
                    refine vSeq ?_
                    refine vRegion ?_
                    refine oVal tt rfl rfl rfl rfl rfl trivial ?_
                    refine vNil ?_
                    change VC _ _ _ _
                    refine vRet ?_
                    change ∃ _, _
                    cases h
                    exact ⟨[], _, rfl, trivial, rfl, (.eq rfl), rfl⟩
                  · replace h := cnd_f hb28 h
                    refine vSkip ?_
                    change VC _ _ _ _
                    refine vSeq ?_
                    refine vRegion ?_
                    refine oVal tt rfl rfl rfl rfl rfl trivial ?_
                    obtain ⟨v19, hc29, h⟩ := bind_inv h
                    refine oCall (L_toPinned_w N aP_0 v19 hc29) rfl rfl rfl rfl rfl rfl rfl rfl ⟨⟨rfl, rfl, rfl, trivial⟩, trivial⟩ ?_
                    refine oVal tt rfl rfl rfl rfl rfl trivial ?_
                    obtain ⟨v20, hc30, h⟩ := bind_inv h
                    refine oCallD 13 (L_toRaiseS_w N aL_1 v20 hc30) rfl rfl rfl rfl rfl rfl rfl rfl rfl rfl rfl (fun _ h => by cases h) ⟨rfl, trivial⟩ ?_
                    obtain ⟨v21, hc31, h⟩ := bind_inv h
                    refine oCall (I_RaisedPoints_w N v19 v20 v21 hc31) rfl rfl rfl rfl rfl rfl rfl rfl ⟨⟨rfl, (.inl ⟨rfl, rfl⟩), (.inl ⟨rfl, rfl⟩), trivial⟩, (.inr (.inr ⟨13, _, by decide, rfl, rfl, rfl, rfl⟩)), trivial⟩ ?_
                    refine oVal tt rfl rfl rfl rfl rfl trivial ?_
                    refine vNil ?_
                    change VC _ _ _ _
                    iterate 2 refine vSeq ?_
                    refine vRegion ?_
                    iterate 2 refine oVal tt rfl rfl rfl rfl rfl trivial ?_
                    obtain ⟨v22, hc32, h⟩ := bind_inv h
                    refine oCall (L_eqIntS_w N v21 v5 v22 hc32) rfl rfl rfl rfl rfl rfl rfl rfl ⟨(.inl ⟨rfl, rfl⟩), (.inl ⟨rfl, rfl⟩), trivial⟩ ?_
                    refine oVal tt rfl rfl rfl rfl rfl trivial ?_
                    refine vNil ?_
                    change VC _ _ _ _
                    refine vCond rfl (fun hb33 => ?_) (fun hb33 => ?_)
                    · replace h := cnd_t hb33 h
                      refine vSeq ?_
                      refine vRegion ?_
                      refine oVal tt rfl rfl rfl rfl rfl trivial ?_
                      refine vNil ?_
                      change VC _ _ _ _
                      refine vRet ?_
                      change ∃ _, _
                      cases h
                      exact ⟨[], _, rfl, trivial, rfl, (.eq rfl), rfl⟩
                    · replace h := cnd_f hb33 h
                      refine vSkip ?_
                      change VC _ _ _ _
                      refine vSeq ?_
                      refine vRegion ?_
                      refine oVal tt rfl rfl rfl rfl rfl trivial ?_
                      refine vNil ?_
                      change VC _ _ _ _
                      refine vSeq ?_
                      refine vRegion ?_
                      iterate 2 refine oVal tt rfl rfl rfl rfl rfl trivial ?_
                      obtain ⟨v23, hc34, h⟩ := bind_inv h
                      refine oCall (L_heldIntS_w N v17.2 (1 : Int) v23 hc34) rfl rfl rfl rfl rfl rfl rfl rfl ⟨(.inl ⟨hg25, rfl⟩), rfl, trivial⟩ ?_
                      refine oVal tt rfl rfl rfl rfl rfl trivial ?_
                      refine vNil ?_
                      change VC _ _ _ _
                      iterate 2 refine vSeq ?_
                      refine vRegion ?_
                      iterate 2 refine oVal tt rfl rfl rfl rfl rfl trivial ?_
                      refine vNil ?_
                      change VC _ _ _ _
                      refine vCond rfl (fun hb35 => ?_) (fun hb35 => ?_)
                      · replace h := cnd_t hb35 h
                        refine vSeq ?_
                        refine vRegion ?_
                        refine oVal tt rfl rfl rfl rfl rfl trivial ?_
                        refine vNil ?_
                        change VC _ _ _ _
                        refine vRet ?_
                        change ∃ _, _
                        cases h
                        exact ⟨[], _, rfl, trivial, rfl, (.eq rfl), rfl⟩
                      · replace h := cnd_f hb35 h
                        refine vSkip ?_
                        change VC _ _ _ _
                        iterate 2 refine vSeq ?_
                        refine vRegion ?_
                        iterate 3 refine oVal tt rfl rfl rfl rfl rfl trivial ?_
                        refine vNil ?_
                        change VC _ _ _ _
                        refine vCond rfl (fun hb36 => ?_) (fun hb36 => ?_)
                        · replace h := cnd_t hb36 h
                          refine vSeq ?_
                          refine vRegion ?_
                          refine oVal tt rfl rfl rfl rfl rfl trivial ?_
                          refine vNil ?_
                          change VC _ _ _ _
                          refine vRet ?_
                          change ∃ _, _
                          cases h
                          exact ⟨[], _, rfl, trivial, rfl, (.eq rfl), rfl⟩
                        · replace h := cnd_f hb36 h
                          refine vSkip ?_
                          change VC _ _ _ _
                          refine vSeq ?_
                          refine vRegion ?_
                          refine oVal tt rfl rfl rfl rfl rfl trivial ?_
                          refine vNil ?_
                          change VC _ _ _ _
                          refine vRet ?_
                          change ∃ _, _
                          cases h
                          exact ⟨[], _, rfl, trivial, rfl, (.eq rfl), rfl⟩
end Go.Proofs.Ytmoamglpocjhgaa
