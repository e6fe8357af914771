/- Texts that the proof needs, put together: M11 M12 M13 M14 G64 G65 M15 G88 Qj G69 Pbr G67 G68 G30 G32 G31 G33 G34 G35 G38 G56 G71 G80 G87 Pmd Pme G89. -/
import Derived.Test.YtgindcgphnbnaaaBP3
import Derived.Test.YtgindcgphnbnaaaBP4
import Derived.Test.YtgindcgphnbnaaaBP5
set_option linter.unusedVariables false
set_option linter.unusedSimpArgs false
namespace Go.Proofs.Ytgindcgphnbnaaa
open Go.RowKit Go.Deep
structure NewD (N : Mp) (A : Bool → Nat → Prop) (w w' : World) (B F : Nat) (et te : TypeId) (q : Sq) : Prop where
 os : w'.os = w.os
 tape : w'.tape = w.tape
 output : w'.output = w.output
 size : w.heap.size ≤ w'.heap.size
 block : ∀ k, k < w.heap.size → w'.heap[k]? = w.heap[k]?
 noβ : ∀ b, N.β b = none
 outer : (N.γ B = some none ∧ q.len = 0) ∨ ∃ g cap cur, N.γ B = some (some (g, cap, q.sz)) ∧ w'.heap[g]? = some (.cells cur et (0, 0)) ∧ q.len ≤ cap ∧ cap ≤ maxLen ∧ cur.size = cap * q.sz ∧ ∀ i j d, i < q.len → ((dR F q).relem i)[j]? = some d → VR N A w' d (cur.getD (i * q.sz + j) undef)
 inner : ∀ i, i < q.len → (N.γ (inn F i) = some none ∧ (q.nn i).len = 0) ∨ ∃ g cap cur, N.γ (inn F i) = some (some (g, cap, (q.nn i).sz)) ∧ w'.heap[g]? = some (.cells cur te (0, 0)) ∧ (q.nn i).len ≤ cap ∧ cap ≤ maxLen ∧ cur.size = cap * (q.nn i).sz ∧ ∀ i' j d, i' < (q.nn i).len → ((q.nn i).relem i')[j]? = some d → VR N A w' d (cur.getD (i' * (q.nn i).sz + j) undef)
 none : ∀ x, x ≠ B → (∀ i, i < q.len → x ≠ inn F i) → N.γ x = none
 low : ∀ k, N.owned k → w.heap.size ≤ k
 inj : ∀ r r' k c z c' z', N.γ r = some (some (k, c, z)) → N.γ r' = some (some (k, c', z')) → r = r'
structure PCallD (P : Program) (f : FuncId) (ds : List D) (et te : TypeId) (q : Sq) (d : D) : Prop where
 enter : ∀ args w, (callFunc f args).run P w = .ok (.enter f args) w
 deep : q.deep = true
 run : ∀ w args, ArgsOK w ds args → Calls P f args w fun e w' => ∃ v, e = .returned v ∧ ∀ B F, B ≤ 500000 → F < 4294967296 → ∃ N, NewD N (Rs w N) w w' B F et te q ∧ VR N (Rs w N) w' (ren id (fun j => B + j) d) v
section
variable {C : Cx} {ops : Array Oper} {K : PS → Prop} {o : Oper} {rest : List Oper} {s s' : PS} {TT : List (Nat × Ty)} {tm : List (Nat × D)} {rw' : List (Nat × Option (TypeId × Sq))} {bx : List (Nat × Option (List D))}
theorem Rel.newDeep {w0 : World} {O0 : Hd} {n : Nat} {M N : Mp} {A : Bool → Nat → Prop} {a : Act} {w w' : World} {B F : Nat} {et te : TypeId} {q : Sq} (h : Rel w0 O0 n M ⟨tm, rw', bx⟩ a w) (hq : q.deep = true) (hN : NewD N A w w' B F et te q) (hF : F < 4294967296) (hB : B < 1000000)
  (hA : ∀ f k, k < w'.heap.size → A f k → (¬ N.owned k ∧ ¬ M.owned k) ∧ Fs w0 O0 f k) (hf : Fresh ⟨tm, rw', bx⟩ (fun _ => false) (fun r => Nat.beq r B || !notF r)) (hl : lone ⟨tm, rw', bx⟩ 999999 F = true) (h9 : PS.r ⟨tm, rw', bx⟩ 999999 = none) (hfn : PS.r ⟨tm, rw', bx⟩ (FK + F) = none) (hO : ∀ u, O0.fr (FK + F) ≠ some u) :
  ∃ M', Rel w0 O0 n M' ⟨tm, (B, some (et, dR F q)) :: (FK + F, some (te, dF q)) :: rw', bx⟩ a w' ∧ ∀ d v, ment (fun _ => true) (fun r => !Nat.beq r B) d = false → VR N A w' d v → VR M' (Ow (Fs w0 O0) M') w' d v := by
 have hBF := notF_lo hB
 have hBb := notF_big hBF
 have hne : FK + F ≠ B := fk_ne hF hBF
 let M' : Mp := ⟨M.β, fun x => match Nat.ble BIG x with
  | true => if unF x = F then N.γ x else M.γ x
  | false => if x = B then N.γ B else if x = FK + F then some none else M.γ x⟩
 have mB : M'.γ B = N.γ B := by simp [M', hBb]
 have mF : M'.γ (FK + F) = some none := by simp [M', fk_lo hF, hne]
 have mI : ∀ i, M'.γ (inn F i) = N.γ (inn F i) := fun i => by
  have e : ∀ x, Nat.ble BIG x = true → unF x = F → M'.γ x = N.γ x := fun x h1 h2 => by simp [M', h1, h2]
  exact e _ (inn_hi F i) (by rw [unF_inn, Nat.mod_eq_of_lt hF])
 have mG : ∀ x, Nat.ble BIG x = true → unF x ≠ F → M'.γ x = M.γ x := fun x h1 h2 => by simp [M', h1, h2]
 have mL : ∀ x, Nat.ble BIG x = false → x ≠ B → x ≠ FK + F → M'.γ x = M.γ x := fun x h1 h2 h3 => by simp [M', h1, h2, h3]
 have hfi : ∀ k, M.γ (inn F k) = none := fun k => h.rown _ (by rw [PS.r_hi _ (inn_hi F k), PS.inn_r, fk_unF hF, hfn]; rfl)
 have cases4 : ∀ x y, M'.γ x = some y → N.γ x = some y ∨ (M.γ x = some y ∧ x ≠ FK + F) ∨ (x = FK + F ∧ y = none) := fun x y hx => by
  cases hb : Nat.ble BIG x with
  | true =>
   by_cases hu : unF x = F
   ·have : M'.γ x = N.γ x := by simp [M', hb, hu]
    rw [this] at hx; exact .inl hx
   ·rw [mG x hb hu] at hx
    exact .inr (.inl ⟨hx, fun e => by rw [e, fk_lo hF] at hb; cases hb⟩)
  | false =>
   by_cases h1 : x = B
   ·rw [h1, mB] at hx; rw [h1]; exact .inl hx
   ·by_cases h2 : x = FK + F
    ·rw [h2, mF] at hx; cases hx; exact .inr (.inr ⟨h2, rfl⟩)
    ·rw [mL x hb h1 h2] at hx; exact .inr (.inl ⟨hx, h2⟩)
 have hown : ∀ k, M'.owned k → M.owned k ∨ N.owned k := by
  rintro k (⟨x, hx⟩ | ⟨r, c, z, hr⟩)
  ·exact .inl (.inl ⟨x, hx⟩)
  ·rcases cases4 r _ hr with h1 | ⟨h1, _⟩ | ⟨_, h1⟩
   ·exact .inr (.inr ⟨r, c, z, h1⟩)
   ·exact .inl (.inr ⟨r, c, z, h1⟩)
   ·cases h1
 have hA0 : ∀ f k, k < w.heap.size → Ow (Fs w0 O0) M f k → Ow (Fs w0 O0) M' f k ∧ k < w'.heap.size ∧ w'.heap[k]? = w.heap[k]? := fun f k h1 h2 =>
  ⟨⟨fun h3 => by rcases hown k h3 with h4 | h4; exact h2.1 h4; have := hN.low k h4; omega, h2.2⟩, by have := hN.size; omega, hN.block k h1⟩
 have hA1 : ∀ f k, k < w'.heap.size → A f k → Ow (Fs w0 O0) M' f k ∧ k < w'.heap.size ∧ w'.heap[k]? = w'.heap[k]? := fun f k h1 h2 =>
  ⟨⟨fun h3 => by rcases hown k h3 with h4 | h4; exact (hA f k h1 h2).1.2 h4; exact (hA f k h1 h2).1.1 h4, (hA f k h1 h2).2⟩, h1, rfl⟩
 have hγ : ∀ x y, (Nat.beq x B || !notF x) = false → M'.γ x = some y → M.γ x = some y := fun x y h1 h2 => by
  rw [Bool.or_eq_false_iff] at h1
  have hn : notF x = true := by simpa using h1.2
  rw [mL x (notF_big hn) (fun e => by rw [e, Nat.beq_refl] at h1; cases h1.1) (fun e => fk_ne hF hn e.symm)] at h2
  exact h2
 have hbf : (Nat.beq BIG B || !notF BIG) = true := by
  have : notF BIG = false := by decide
  rw [this]; simp
 have oldrow : ∀ x e p, PS.r ⟨tm, rw', bx⟩ x = some (e, p) → M'.γ x = M.γ x → RowAt (Fs w0 O0) M' w' x e p := fun x e p hx hm => by
  rcases h.row x e p hx with ⟨g1, g2⟩ | ⟨g, cap, cur, g1, g2, g3, g4, g5, g6⟩
  ·exact .inl ⟨hm.trans g1, g2⟩
  ·have hlt := (Array.getElem?_eq_some_iff.1 g2).1
   refine .inr ⟨g, cap, cur, hm.trans g1, (hN.block g hlt).trans g2, g3, g4, g5, fun i j d hi hd => (g6 i j d hi hd).relem_any2 hd hA0 fun G hG k y hy => ?_⟩
   rcases lone_ok hl hx hG with h1 | ⟨h1, h2⟩
   ·rw [h1, h9] at hx; cases hx
   ·rw [mG _ (inn_hi G k) (by rw [unF_inn, Nat.mod_eq_of_lt h2]; exact h1)] at hy; exact hy
 have hPS : ∀ x, PS.r ⟨tm, (B, some (et, dR F q)) :: (FK + F, some (te, dF q)) :: rw', bx⟩ x = match Nat.ble BIG x with | true => (if unF x = F then famr (some (some (te, dF q))) (unK x) else PS.r ⟨tm, rw', bx⟩ x) | false => if x = B then some (et, dR F q) else if x = FK + F then some (te, dF q) else PS.r ⟨tm, rw', bx⟩ x := fun x => by
  rw [PS.r_app (s := ⟨tm, rw', bx⟩) (s' := ⟨tm, (B, some (et, dR F q)) :: (FK + F, some (te, dF q)) :: rw', bx⟩) (l := [(B, some (et, dR F q)), (FK + F, some (te, dF q))]) rfl, look_two', look_two']
  cases hbx : Nat.ble BIG x with
  | true =>
   have h1 : B ≠ FK + unF x := fun e => by have := notF_fk x; rw [← e, hBF] at this; cases this
   by_cases hu : unF x = F
   ·simp [hu, Ne.symm hne]
   ·simp [hu, Ne.symm hu, h1]
  | false =>
   by_cases hx : B = x
   ·subst hx; simp
   ·by_cases hxf : FK + F = x
    ·rw [← hxf, if_neg (Ne.symm hne), if_pos rfl, if_neg hne, if_pos rfl]
    ·simp [hx, hxf, Ne.symm hx, Ne.symm hxf]
 refine ⟨M', ⟨?_, h.dfr, h.sz, fun t => ?_, fun x ds hx => ?_, fun x hx => h.boxn x hx, fun x e p hx => ?_, fun x hx => ?_, fun k hk => ?_, h.inj1, fun x y k c z c' z' h1 h2 => ?_, fun x y k c z h1 h2 => ?_, h.nle, h.fxb, fun x u u' h1 h2 => ?_⟩, fun d v hd hv => ?_⟩
 ·exact h.fr.step hN.os hN.tape hN.output hN.size fun k h1 _ => hN.block k (Nat.lt_of_lt_of_le h1 h.fr.size)
 ·exact VR.new (b := fun _ => false) (r := fun r => Nat.beq r B || !notF r) hA0 hγ (fun _ _ _ h => h) (hf.t t) (h.tmp t) (hi := fun h0 => by rw [hbf] at h0; cases h0)
 ·obtain ⟨k, cur', e', h1, h2, h3, h4⟩ := h.box x ds hx
  have hlt := (Array.getElem?_eq_some_iff.1 h2).1
  exact ⟨k, cur', e', h1, (hN.block k hlt).trans h2, h3, fun j d hd => VR.newS (b := fun _ => false) (r := fun r => Nat.beq r B || !notF r) hA0 hγ (fun _ _ _ h => h) (hf.b _ _ hx d (List.mem_of_getElem? hd)) (h4 j d hd) (hi := fun h0 => by rw [hbf] at h0; cases h0)⟩
 ·rw [hPS] at hx
  cases hbx : Nat.ble BIG x with
  | true =>
   rw [hbx] at hx
   by_cases hu : unF x = F
   ·have hxe : x = inn F (unK x) := by rw [← hu]; exact (inn_of hbx).symm
    simp only [hu, if_true] at hx
    rw [famr_dF hq] at hx
    generalize unK x = k0 at hx hxe
    split at hx
    ·rename_i hk
     cases hx
     rw [hxe]
     rcases hN.inner _ hk with ⟨g1, g2⟩ | ⟨g, cap, cur, g1, g2, g3, g4, g5, g6⟩
     ·exact .inl ⟨(mI _).trans g1, g2⟩
     ·refine .inr ⟨g, cap, cur, (mI _).trans g1, g2, g3, g4, g5, fun i j d hi hd => ?_⟩
      have hd2 := hd
      rw [Sq.relem_eq (nn_refs q _)] at hd2
      exact (g6 i j d hi hd).elem_any hd2 hA1
    ·cases hx
   ·simp only [hu, if_false] at hx
    exact oldrow x e p hx (mG x hbx hu)
  | false =>
   rw [hbx] at hx
   simp only at hx
   split at hx
   ·rename_i hxB
    cases hx
    subst hxB
    rcases hN.outer with ⟨g1, g2⟩ | ⟨g, cap, cur, g1, g2, g3, g4, g5, g6⟩
    ·exact .inl ⟨mB.trans g1, by rw [dR_len]; exact g2⟩
    ·refine .inr ⟨g, cap, cur, by rw [mB, dR_sz]; exact g1, g2, by rw [dR_len]; exact g3, g4, by rw [dR_sz]; exact g5, fun i j d hi hd => ?_⟩
     rw [dR_len] at hi
     rw [dR_sz]
     have hv := g6 i j d hi hd
     rcases dR_relem hq hi hd with ⟨rfl, _⟩ | ⟨y, rfl, _⟩
     ·exact hv.irow_mv fun y hy => by rw [mI] at hy; exact hy
     ·rw [hv.int_inv]; exact .int _
   rename_i hxB
   split at hx
   ·rename_i hxf
    cases hx
    rw [hxf]
    exact .inl ⟨mF, dF_len q⟩
   ·rename_i hxf
    exact oldrow x e p hx (mL x hbx hxB hxf)
 ·rw [hPS] at hx
  cases hbx : Nat.ble BIG x with
  | true =>
   rw [hbx] at hx
   by_cases hu : unF x = F
   ·have hxe : x = inn F (unK x) := by rw [← hu]; exact (inn_of hbx).symm
    simp only [hu, if_true] at hx
    rw [famr_dF hq] at hx
    split at hx
    ·cases hx
    ·rename_i hk
     rw [hxe, mI]
     refine hN.none _ (fun e => by have := inn_hi F (unK x); rw [e, hBb] at this; cases this) fun i hi e => hk ?_
     rw [(inn_inj e).2]; exact hi
   ·simp only [hu, if_false] at hx
    rw [mG x hbx hu]; exact h.rown x hx
  | false =>
   rw [hbx] at hx
   simp only at hx
   split at hx
   ·cases hx
   rename_i hxB
   split at hx
   ·cases hx
   rename_i hxf
   rw [mL x hbx hxB hxf]; exact h.rown x hx
 ·rcases hown k hk with h1 | h1
  ·exact h.low k h1
  ·exact .inl (Nat.le_trans h.fr.size (hN.low k h1))
 ·have hx : ∀ r r' k c z c' z', M.γ r = some (some (k, c, z)) → N.γ r' = some (some (k, c', z')) → False := fun r r' k c z c' z' a1 a2 => by
   have := h.lt _ (.inr ⟨r, c, z, a1⟩); have := hN.low _ (.inr ⟨r', c', z', a2⟩); omega
  rcases cases4 x _ h1 with g1 | ⟨g1, _⟩ | ⟨_, g1⟩
  ·rcases cases4 y _ h2 with g2 | ⟨g2, _⟩ | ⟨_, g2⟩
   ·exact hN.inj _ _ _ _ _ _ _ g1 g2
   ·exact (hx _ _ _ _ _ _ _ g2 g1).elim
   ·cases g2
  ·rcases cases4 y _ h2 with g2 | ⟨g2, _⟩ | ⟨_, g2⟩
   ·exact (hx _ _ _ _ _ _ _ g1 g2).elim
   ·exact h.inj2 _ _ _ _ _ _ _ g1 g2
   ·cases g2
  ·cases g1
 ·rcases cases4 y _ h2 with g2 | ⟨g2, _⟩ | ⟨_, g2⟩
  ·have := h.lt _ (.inl ⟨x, h1⟩); have := hN.low _ (.inr ⟨y, c, z, g2⟩); omega
  ·exact h.inj3 _ _ _ _ _ h1 g2
  ·cases g2
 ·obtain ⟨h3, h4⟩ := O0.lor x u h1
  have hb1 : Nat.ble BIG x = false := by
   cases hb : Nat.ble BIG x with
   | false => rfl
   | true => have := Nat.le_of_ble_eq_true hb; omega
  by_cases hxf : x = FK + F
  ·rw [hxf] at h1; exact absurd h1 (hO u)
  ·rw [mL x hb1 (by omega) hxf] at h2; exact h.fxr x u u' h1 h2
 ·refine VR.new (b := fun _ => true) (r := fun r => !Nat.beq r B) hA1 (fun x y h1 h2 => ?_) (fun x k hx => by simp at hx) hd hv (hi := fun h0 => ?_)
  ·have : x = B := Nat.eq_of_beq_eq_true (by simpa using h1)
   rw [this, mB] at h2; rw [this]; exact h2
  ·have : BIG = B := Nat.eq_of_beq_eq_true (by simpa using h0)
   rw [← this] at hBb
   exact absurd hBb (by decide)
theorem oCallD (F : Nat) {f : FuncId} {args : Array Operand} {ts : Array TypeId} {ds : List D} {et te : TypeId} {q : Sq} {d d' : D} (hp : PCallD C.P f ds et te q d) (hg : o.guard = none) (hop : o.op = .call { callee := .value (.func f), args := args, argTypes := ts }) {b : Nat} (hd : o.dst = some b) (hn : Nat.blt b C.n = true) (hno : (ds.all noIds) = true)
  (hm : ment (fun _ => true) (fun r => !Nat.beq r (rowB b)) (ren id (fun j => rowB b + j) d) = false) (hx : (fcD (ren id (fun j => rowB b + j) d) some) = some d') (hf : frB ⟨tm, rw', bx⟩ (fun _ => false) (fun r => Nat.beq r (rowB b) || !notF r) = true) (hl : lone ⟨tm, rw', bx⟩ 999999 F = true) (h9 : PS.r ⟨tm, rw', bx⟩ 999999 = none) (hfn : PS.r ⟨tm, rw', bx⟩ (FK + F) = none) (hO : ∀ u, C.O0.fr (FK + F) ≠ some u) (hfit : fits ⟨tm, rw', bx⟩ args.toList ds)
  (h : VO C ops K rest ⟨(b, d') :: tm, (rowB b, some (et, dR F q)) :: (FK + F, some (te, dF q)) :: rw', bx⟩) (hF : Nat.blt F 4294967296 = true := by rfl) : VO C ops K (o :: rest) ⟨tm, rw', bx⟩ := by
 refine vOp hg ⟨fun M a w Q K' hr hk => ?_⟩
 rw [Nat.blt_eq] at hF
 rw [fcD_eq] at hx
 cases hx
 have hb1000 : b < 1000 := by have := hr.nle; rw [Nat.blt_eq] at hn; omega
 have hrun : (execOp a.eval o).run C.P w = .ok (.enter f (args.map a.eval)) w := by
  have := hp.enter (args.map a.eval) w
  unfold execOp
  rw [hop]
  show ((do let d ← resolve a.eval _ o.type; invoke d.target d.args : Sem Next)).run C.P w = _
  simp only [resolve]
  show ((callFunc f ((#[] ++ args.map a.eval) ++ #[])) : Sem Next).run C.P w = _
  rw [show (#[] ++ args.map a.eval) ++ #[] = args.map a.eval by simp]
  exact this
 unfold Oper.wp
 rw [hrun]
 refine (hp.run w _ (fits_args hr hfit hno)).mono ?_
 rintro e w' ⟨v, rfl, hB⟩
 obtain ⟨N, hN, hv⟩ := hB (rowB b) F (by simp only [rowB]; omega) hF
 obtain ⟨M', h1, h2⟩ := hr.newDeep hp.deep hN hF (by simp only [rowB]; omega) (fun f k hk hA => ⟨⟨hA.2, fun ho => by have := hr.lt k ho; have := hA.1; omega⟩, .inl (Nat.le_trans hr.fr.size hA.1)⟩) (frB_ok hf) hl h9 hfn hO
 refine hk M' _ _ _ h ?_
 rw [hd]
 exact h1.put (o := some b) hn (h2 _ _ hm hv)
end
end Go.Proofs.Ytgindcgphnbnaaa
namespace Go.Proofs.Ytgindcgphnbnaaa
open Go.RowKit Go.Deep
theorem mentA_ne {b r : Nat → Bool} {d : D} (h : ∀ l, d ≠ .agg l) : mentA b r d = mentS b r d := by cases d <;> first | rfl | exact absurd rfl (h _)
theorem ment_ne {b r : Nat → Bool} {d : D} (h : ∀ l, d ≠ .tup l) : ment b r d = mentA b r d := by cases d <;> first | rfl | exact absurd rfl (h _)
theorem renA_ne {τ σ : Nat → Nat} {d : D} (h : ∀ l, d ≠ .agg l) : renA τ σ d = renS τ σ d := by cases d <;> first | rfl | exact absurd rfl (h _)
theorem ren_ne {τ σ : Nat → Nat} {d : D} (h : ∀ l, d ≠ .tup l) : ren τ σ d = renA τ σ d := by cases d <;> first | rfl | exact absurd rfl (h _)
theorem renS_agg {τ σ : Nat → Nat} (d : D) : ∀ l, renS τ σ d ≠ .agg l := by cases d <;> intro l h <;> cases h
theorem renA_tup {τ σ : Nat → Nat} (d : D) : ∀ l, renA τ σ d ≠ .tup l := by cases d <;> intro l h <;> cases h
theorem ment_one {B : Nat} : ∀ d : D, ment (fun _ => true) (fun j => !Nat.blt j 1) d = false → ment (fun _ => true) (fun r => !Nat.beq r B) (ren id (fun j => B + j) d) = false := by
 have keyS : ∀ d : D, mentS (fun _ => true) (fun j => !Nat.blt j 1) d = false → mentS (fun _ => true) (fun r => !Nat.beq r B) (renS id (fun j => B + j) d) = false := fun d hd => by
  cases d <;> simp only [mentS, renS] at hd ⊢ <;> try (first | exact hd | rfl)
  ·rename_i x _ _
   have h1 : x < 1 := by simpa using hd
   have : x = 0 := by omega
   subst this; simp [Nat.beq_refl]
  ·rename_i x _ _
   have h1 : x < 1 := by simpa using hd
   have : x = 0 := by omega
   subst this; simp [Nat.beq_refl]
  ·rename_i f bs
   simpa using hd
  ·exact absurd hd (by decide)
  ·exact absurd hd (by decide)
 have keyA : ∀ d : D, mentA (fun _ => true) (fun j => !Nat.blt j 1) d = false → mentA (fun _ => true) (fun r => !Nat.beq r B) (renA id (fun j => B + j) d) = false := fun d hd => by
  by_cases ha : ∃ l, d = .agg l
  ·obtain ⟨l, rfl⟩ := ha
   simp only [mentA, renA, List.any_eq_false, List.mem_map] at hd ⊢
   rintro x ⟨y, hy, rfl⟩
   have := keyS y (by simpa using hd y hy)
   simp [this]
  ·have hne : ∀ l, d ≠ .agg l := fun l e => ha ⟨l, e⟩
   rw [mentA_ne hne] at hd
   rw [renA_ne hne, mentA_ne (renS_agg d)]
   exact keyS d hd
 intro d hd
 by_cases ha : ∃ l, d = .tup l
 ·obtain ⟨l, rfl⟩ := ha
  simp only [ment, ren, List.any_eq_false, List.mem_map] at hd ⊢
  rintro x ⟨y, hy, rfl⟩
  have := keyA y (by simpa using hd y hy)
  simp [this]
 ·have hne : ∀ l, d ≠ .tup l := fun l e => ha ⟨l, e⟩
  rw [ment_ne hne] at hd
  rw [ren_ne hne, ment_ne (renA_tup d)]
  exact keyA d hd
def RetPD (TT : List (Nat × Ty)) (res : List ResultVar) (et te : TypeId) (q : Sq) (d : D) : Exit → PS → Prop := fun e s => match e with
 | .normal | .ret => ∃ R F d', Nat.blt F 4294967296 = true ∧ retD TT s res = some d' ∧ s.r R = some (et, dR F q) ∧ s.r (FK + F) = some (te, dF q) ∧ notF R = true ∧ Wk d' (ren id (fun _ => R) d) ∧ okD 1 d = true
 | _ => False
theorem pcallD_intro {P : Program} {f : FuncId} {fn : Func} {c : Code} {TT : List (Nat × Ty)} {ds : List D} {et te : TypeId} {q : Sq} {d : D} {n : Nat} {res : List ResultVar} (hT : TTOK P TT) (hf : P.funcs[f]? = some fn) (hb : fn.body = some c)
  (hname : (fn.name == "runtime.NumGoroutine") = false) (hn : fn.ntmps = n) (hres : fn.results.toList = res) (hds : Nat.ble ds.length n = true) (hno : (ds.all fun d => noIds d && nwD false d) = true) (hq : q.deep = true)
  (h : ∀ w0, VC ⟨P, w0, Hd.no, n⟩ c (RetPD TT res et te q d) ⟨entL 0 ds, [], []⟩) (hn1000 : Nat.ble n 1000 = true := by rfl) : PCallD P f ds et te q d := by
 subst hn hres
 refine ⟨callFunc_of hf hname (by simp [hb]), hq, fun w0 args ⟨hsz, hargs⟩ => ?_⟩
 have hle := Nat.le_of_ble_eq_true hds
 have hent : Rel w0 Hd.no fn.ntmps M0 ⟨entL 0 ds, [], []⟩ { tmps := args ++ Array.replicate (fn.ntmps - args.size) undef, defers := [] } w0 := by
  refine ⟨⟨rfl, rfl, rfl, Nat.le_refl _, fun _ _ _ => rfl⟩, rfl, by simp; omega, fun t => ?_, fun b cs hb => by simp [PS.b, look] at hb, fun _ _ => rfl, fun r e q hr => (by rw [r_ent] at hr; cases hr), fun _ _ => rfl, ?_, by simp, by simp, by simp, Nat.le_of_ble_eq_true hn1000, by simp, by simp⟩
  ·simp only [PS.t, look_entL, Nat.zero_le, if_true, Nat.sub_zero]
   cases hd : ds[t]? with
   | none => exact .dead _
   | some d0 =>
    have hlt : t < args.size := by rw [hsz]; exact (List.getElem?_eq_some_iff.1 hd).1
    have h1 := hargs t d0 hd
    have h2 : (args ++ Array.replicate (fn.ntmps - args.size) undef).getD t undef = args.getD t undef := by
     simp [Array.getElem?_append_left hlt]
    rw [h2]
    have h4 := (List.all_eq_true.1 hno) d0 (List.mem_of_getElem? hd)
    simp only [Bool.and_eq_true] at h4
    refine VR.new (b := fun _ => true) (r := fun _ => true) (A := fun f _ => True ∧ f = false) (fun f b hb hf => ⟨⟨?_, .inr hf.2⟩, hb, rfl⟩) (fun x y hx => by simp at hx) (fun x y hx => by simp at hx) ?_ (h1.flag h4.2)
    ·simpa [noIds] using h4.1
    ·rintro (⟨x, hx⟩ | ⟨x, c, z, hx⟩) <;> simp at hx
  ·rintro k (⟨x, hx⟩ | ⟨x, c, z, hx⟩) <;> simp at hx
 refine calls_of_wp hf hb (Code.wp_mono ?_ ((h w0).out M0 _ w0 hent))
 rintro e a' w' ⟨s', M', hqq, hr⟩
 have fin : ∀ (hq' : ∃ R F d', Nat.blt F 4294967296 = true ∧ retD TT s' fn.results.toList = some d' ∧ s'.r R = some (et, dR F q) ∧ s'.r (FK + F) = some (te, dF q) ∧ notF R = true ∧ Wk d' (ren id (fun _ => R) d) ∧ okD 1 d = true),
   a'.defers = [] ∧ ∃ v, (results fn a'.tmps).run P w' = .ok v w' ∧ ∃ v', Ending.returned v = .returned v' ∧ ∀ B F, B ≤ 500000 → F < 4294967296 → ∃ N, NewD N (Rs w0 N) w0 w' B F et te q ∧ VR N (Rs w0 N) w' (ren id (fun j => B + j) d) v' := by
  rintro ⟨R, F0, d', hF0, h1, hR, hf0, hFR, h4, h5⟩
  rw [Nat.blt_eq] at hF0
  obtain ⟨v, h6, h7⟩ := ret_ok hT hr h1
  replace h7 := h7.wk h4
  refine ⟨hr.dfr, v, h6, v, rfl, fun B F hB0 hF => ?_⟩
  have hB : B < 1000000 := by omega
  have hBb := notF_big (notF_lo hB)
  simp only [okD, Bool.and_eq_true, Bool.not_eq_true'] at h5
  obtain ⟨⟨k1, k2⟩, k3⟩ := h5
  let M1 : Mp := ⟨fun _ => none, fun j => if j = 0 then M'.γ R else none⟩
  let N : Mp := ⟨fun _ => none, fun y => if y = B then M'.γ R else if Nat.ble BIG y = true ∧ unF y = F ∧ unK y < q.len then M'.γ (inn F0 (unK y)) else none⟩
  have nB : N.γ B = M'.γ R := by simp [N]
  have nI : ∀ i, i < q.len → N.γ (inn F i) = M'.γ (inn F0 i) := fun i hi => by
   have e : ∀ x, x ≠ B → (Nat.ble BIG x = true ∧ unF x = F ∧ unK x < q.len) → N.γ x = M'.γ (inn F0 (unK x)) := fun x h1 h2 => by simp [N, h1, h2]
   have := e (inn F i) (fun e => by have := inn_hi F i; rw [e, hBb] at this; cases this) ⟨inn_hi F i, by rw [unF_inn, Nat.mod_eq_of_lt hF], by rw [unK_inn]; exact hi⟩
   rwa [unK_inn] at this
  have nC : ∀ y z, N.γ y = some z → (y = B ∧ M'.γ R = some z) ∨ ∃ i, i < q.len ∧ y = inn F i ∧ M'.γ (inn F0 i) = some z := fun y z hy => by
   by_cases hyB : y = B
   ·rw [hyB, nB] at hy; exact .inl ⟨hyB, hy⟩
   ·simp only [N, hyB, if_false] at hy
    split at hy
    ·rename_i hc
     exact .inr ⟨_, hc.2.2, by rw [← hc.2.1]; exact (inn_of hc.1).symm, hy⟩
    ·cases hy
  have hNo : ∀ k, N.owned k → M'.owned k := by
   rintro k (⟨b, hb⟩ | ⟨y, c, z, hy⟩)
   ·cases hb
   ·rcases nC y _ hy with ⟨_, h1⟩ | ⟨i, _, _, h1⟩
    ·exact .inr ⟨_, c, z, h1⟩
    ·exact .inr ⟨_, c, z, h1⟩
  have hlow : ∀ k, M'.owned k → w0.heap.size ≤ k := fun k hk => (hr.low k hk).resolve_right (fun h => h)
  have hA : ∀ f b, b < w'.heap.size → (Ow (Fs w0 Hd.no) M' f b ∧ f = true) → Rs w0 N f b ∧ b < w'.heap.size ∧ w'.heap[b]? = w'.heap[b]? := fun f b hb hh =>
   ⟨⟨hh.1.2.resolve_right (fun h => by rw [hh.2] at h; cases h), fun ho => hh.1.1 (hNo b ho)⟩, hb, rfl⟩
  have hdeep := deep_r hF0 hq hf0
  have hRb := notF_big hFR
  refine ⟨N, ⟨hr.fr.os, hr.fr.tape, hr.fr.output, hr.fr.size, fun k hk => hr.fr.block k hk (fun h => h), fun _ => rfl, ?_, fun i hi => ?_, fun x hx hxi => ?_, fun k hk => hlow k (hNo k hk), fun r r' k c z c' z' a1 a2 => ?_⟩, ?_⟩
  ·rcases hr.row _ _ _ hR with ⟨b1, b2⟩ | ⟨g, cap, cur, b1, b2, b3, b4, b5, b6⟩
   ·exact .inl ⟨nB.trans b1, by rw [dR_len] at b2; exact b2⟩
   ·rw [dR_len] at b3 b6
    rw [dR_sz] at b1 b5 b6
    refine .inr ⟨g, cap, cur, nB.trans b1, b2, b3, b4, b5, fun i j d0 hi hd => ?_⟩
    rcases dR_relem hq hi hd with ⟨rfl, hro⟩ | ⟨y, rfl, hro⟩
    ·have : ((dR F0 q).relem i)[j]? = some (.irow F0 i (q.nn i).len) := by
      rcases dR_elem (F := F0) hq hi (hro true) with ⟨_, h2⟩ | ⟨y, h2, _⟩
      ·exact h2
      ·cases h2
     exact (b6 i j _ hi this).irow_mv fun y hy => by rw [nI i hi] at hy; exact hy
    ·have : ((dR F0 q).relem i)[j]? = some (.int y) := by
      rcases dR_elem (F := F0) hq hi (hro true) with ⟨h2, _⟩ | ⟨y', h2, h3⟩
      ·cases h2
      ·cases h2; exact h3
     rw [(b6 i j _ hi this).int_inv]; exact .int _
  ·have hin := hdeep i
   rw [if_pos hi] at hin
   rcases hr.row _ _ _ hin with ⟨b1, b2⟩ | ⟨g, cap, cur, b1, b2, b3, b4, b5, b6⟩
   ·exact .inl ⟨(nI i hi).trans b1, b2⟩
   ·refine .inr ⟨g, cap, cur, (nI i hi).trans b1, b2, b3, b4, b5, fun i' j d0 hi' hd => ?_⟩
    have h8 := b6 i' j d0 hi' hd
    rw [Sq.relem_eq (nn_refs q i)] at hd
    have hfl : nwS true d0 = true ∧ sameD d0 d0 := elem_new true (q.nn i) i' j d0 hd
    exact (h8.flagE (M' := M') hfl.2 hfl.1).elem_any hd hA
  ·cases hx' : N.γ x with
   | none => rfl
   | some z =>
    rcases nC x z hx' with ⟨h1, _⟩ | ⟨i, h1, h2, _⟩
    ·exact absurd h1 hx
    ·exact absurd h2 (hxi i h1)
  ·rcases nC r _ a1 with ⟨e1, b1⟩ | ⟨i, i1, e1, b1⟩
   ·rcases nC r' _ a2 with ⟨e2, b2⟩ | ⟨i', i2, e2, b2⟩
    ·rw [e1, e2]
    ·have := hr.inj2 _ _ _ _ _ _ _ b1 b2
     have h9 := inn_hi F0 i'
     rw [← this, hRb] at h9; cases h9
   ·rcases nC r' _ a2 with ⟨e2, b2⟩ | ⟨i', i2, e2, b2⟩
    ·have := hr.inj2 _ _ _ _ _ _ _ b1 b2
     have h9 := inn_hi F0 i
     rw [this, hRb] at h9; cases h9
    ·have := hr.inj2 _ _ _ _ _ _ _ b1 b2
     rw [e1, e2, (inn_inj this).2]
  ·have h8 : VR M1 (Ow (Fs w0 Hd.no) M') w' d v := VR.unren (M' := M') (A' := Ow (Fs w0 Hd.no) M') (τ := id) (σ := fun _ => R) (fun r x hx => by
    simp only [M1] at hx
    split at hx
    ·exact hx
    ·cases hx) (fun b k hb => by simp [M1] at hb) (fun _ _ _ h => h) k2 h7 (hi := fun r x hr1 hx => by
    simp only [M1] at hx
    split at hx
    ·rename_i h0
     subst h0
     exact absurd hr1 (by decide)
    ·cases hx)
   have hbk : ∀ r x, BIG ≤ r → M1.γ r = some x → False := fun r x hr1 hx => by
    simp only [M1] at hx
    split at hx
    ·rename_i h0; subst h0; exact absurd hr1 (by decide)
    ·cases hx
   have hment : ment (fun _ => true) (fun j => !Nat.blt j 1) d = false := k1
   have h9 : VR N (Rs w0 N) w' (ren id (fun j => B + j) d) v := by
    let N1 : Mp := ⟨fun _ => none, fun y => if y = B then M'.γ R else none⟩
    have h10 : VR N1 (Rs w0 N) w' (ren id (fun j => B + j) d) v := VR.ren (M := M1) hA (fun r x hx => by
     simp only [N1] at hx
     split at hx
     ·rename_i h0
      have : r = 0 := by omega
      simp only [M1, this, if_true]
      exact hx
     ·cases hx) (fun b k hb => by simp [N1] at hb) (h8.flag k3) (hi := fun r x hr1 hx => by
     simp only [N1] at hx
     split at hx
     ·rename_i h0
      rw [← h0, Nat.ble_eq_true_of_le hr1] at hBb; cases hBb
     ·cases hx)
    have hm2 : ment (fun _ => true) (fun r => !Nat.beq r B) (ren id (fun j => B + j) d) = false := ment_one d hment
    refine VR.new (b := fun _ => true) (r := fun r => !Nat.beq r B) (fun f b hb ha => ⟨ha, hb, rfl⟩) (fun x y hx hy => ?_) (fun x k hx => by simp at hx) hm2 h10 (hi := fun h0 => ?_)
    ·have : x = B := Nat.eq_of_beq_eq_true (by simpa using hx)
     rw [this, nB] at hy
     simp only [N1, this, if_true]; exact hy
    ·have : BIG = B := Nat.eq_of_beq_eq_true (by simpa using h0)
     rw [← this] at hBb; exact absurd hBb (by decide)
   exact h9
 cases e with
 | normal => exact fin hqq
 | ret => exact fin hqq
 | _ => exact hqq.elim
end Go.Proofs.Ytgindcgphnbnaaa
namespace Go.Proofs.Ytgindcgphnbnaaa
open Go.RowKit Go.Deep
theorem idn_snoc {α : Type} (X : List (List α)) (c : List α) : idn (X ++ [c]) = idn X ++ [(X.length, c.length)] := by simp [idn, List.zipIdx_append]
theorem idr_snoc (X : List (Int × List Int)) (p : Int) (c : List Int) : idr (X ++ [(p, c)]) = idr X ++ [(p, X.length, c.length)] := by simp [idr, List.zipIdx_append]
theorem appP (F : Nat) (X : List (List (Int × Int))) (c : List (Int × Int)) : (dR F (.pairss X)).app (.irefs F [(X.length, c.length)]) = some (dR F (.pairss (X ++ [c]))) := by simp [dR, Sq.app, Nat.beq_refl, idn_snoc]
theorem appR (F : Nat) (X : List (Int × List Int)) (p : Int) (c : List Int) : (dR F (.raises X)).app (.rrefs F [(p, X.length, c.length)]) = some (dR F (.raises (X ++ [(p, c)]))) := by simp [dR, Sq.app, Nat.beq_refl, idr_snoc]
theorem pushP (X : List (List (Int × Int))) (c : List (Int × Int)) : (Fq.pairs (X.map some)).push (.pairs c) = some (.pairs ((X ++ [c]).map some)) := by simp [Fq.push]
theorem pushR (X : List (Int × List Int)) (p : Int) (c : List Int) : (Fq.ints (X.map fun x => some x.2)).push (.ints c) = some (.ints ((X ++ [(p, c)]).map fun x => some x.2)) := by simp [Fq.push]
theorem getD_set_eq {α : Type} (X : List α) (i j : Nat) (c z : α) (hi : i < X.length) : (X.set i c).getD j z = if j = i then c else X.getD j z := by
 by_cases h : j = i
 ·subst h; simp [hi]
 ·simp [List.getD_eq_getElem?_getD, List.getElem?_set, Ne.symm h, h]
theorem idn_set {α : Type} (X : List (List α)) (i : Nat) (c : List α) (hi : i < X.length) : idn (X.set i c) = (idn X).set i (i, c.length) := by
 apply List.ext_getElem
 ·simp [idn]
 ·intro j h1 h2
  simp only [idn, List.length_map, List.length_zipIdx, List.length_set] at h1 h2
  by_cases h : i = j
  ·subst h; simp [idn]
  ·simp [idn, List.getElem_set, h]
theorem idr_set (X : List (Int × List Int)) (i : Nat) (p : Int) (c : List Int) (hi : i < X.length) : idr (X.set i (p, c)) = (idr X).set i (p, i, c.length) := by
 apply List.ext_getElem
 ·simp [idr]
 ·intro j h1 h2
  simp only [idr, List.length_map, List.length_zipIdx, List.length_set] at h1 h2
  by_cases h : i = j
  ·subst h; simp [idr]
  ·simp [idr, List.getElem_set, h]
theorem idr_set0 (X : List (Int × List Int)) (i : Nat) (p : Int) (hi : i < X.length) : (idr X).set i (p, ((idr X).getD i (0, NIL, 0)).2) = idr (X.set i (p, (X.getD i (0, [])).2)) := by
 rw [idr_set _ _ _ _ hi, idr_get _ _ hi]
theorem map_set0 (X : List (Int × List Int)) (i : Nat) (p : Int) (hi : i < X.length) : (X.map fun x => some x.2) = ((X.set i (p, (X.getD i (0, [])).2)).map fun x => some x.2) := by
 apply List.ext_getElem
 ·simp
 ·intro j h1 h2
  by_cases h : i = j
  ·subst h; simp [hi]
  ·simp [List.getElem_set, h]
theorem inP (F : Nat) (X : List (List (Int × Int))) (k : Nat) (c : List (Int × Int)) (hk : k < X.length) (hc : c.length = (X.getD k []).length) : SetIn F (.pairss X) (.pairss (X.set k c)) k (.pairs c) := by
 refine ⟨fun j => ?_, ?_⟩
 ·rw [famOf_get rfl, famOf_get rfl]
  simp only [Sq.len, List.length_set, Sq.nn, getD_set_eq _ _ _ _ _ hk]
  by_cases h : j = k
  ·subst h; simp [hk]
  ·simp [h]
 ·simp only [dR]
  rw [idn_set _ _ _ hk, hc]
  congr 1
  apply List.ext_getElem
  ·simp
  ·intro j h1 h2
   by_cases h : k = j
   ·subst h; simp [idn, hk]
   ·simp [List.getElem_set, h]
theorem inR (F : Nat) (X : List (Int × List Int)) (k : Nat) (c : List Int) (hk : k < X.length) (hc : c.length = (X.getD k (0, [])).2.length) : SetIn F (.raises X) (.raises (X.set k ((X.getD k (0, [])).1, c))) k (.ints c) := by
 refine ⟨fun j => ?_, ?_⟩
 ·rw [famOf_get rfl, famOf_get rfl]
  simp only [Sq.len, List.length_set, Sq.nn, getD_set_eq _ _ _ _ _ hk]
  by_cases h : j = k
  ·subst h; simp [hk]
  ·simp [h]
 ·simp only [dR]
  rw [idr_set _ _ _ _ hk, hc]
  congr 1
  apply List.ext_getElem
  ·simp
  ·intro j h1 h2
   by_cases h : k = j
   ·subst h; simp [idr, hk]
   ·simp [List.getElem_set, h]
section
variable {C : Cx} {ops : Array Oper} {K : PS → Prop} {o : Oper} {rest : List Oper} {s : PS} {TT : List (Nat × Ty)} {tm : List (Nat × D)} {rw' : List (Nat × Option (TypeId × Sq))} {bx : List (Nat × Option (List D))} {cr B : List Nat} {j : Nat}
theorem sLoadD (hT : TTOK C.P TT) {t et : TypeId} {e : TypeId} {kk : Sq} {by' : Nat} {x : Operand} {R F off m : Nat} {i : Int} {q : Sq} (hop : o.op = .load t x) (hy : look TT t = some (.sl e kk by')) (hx : s.ev x = .eptr R i off) (hR : s.r R = some (et, dR F q)) (hq : q.deep = true) (hoff : Nat.beq (off + 1) q.sz = true) (hm : (q.nn i.toNat).len = m) (hi : 0 ≤ i ∧ i < (q.len : Int)) (ho : dstOk C.n o.dst = true)
  (h : K (s.put o.dst (.irow F i.toNat m))) : Step C o s K := by
 have hi' : i.toNat < q.len := by omega
 have hoff' := Nat.eq_of_beq_eq_true hoff
 have hd : ((dR F q).relem i.toNat)[off]? = some (.irow F i.toNat m) := by
  have hlt : off < q.sz := by omega
  obtain ⟨d', hd'⟩ : ∃ d', (q.elem true i.toNat)[off]? = some d' := ⟨_, List.getElem?_eq_getElem (by rw [Sq.elem_len]; exact hlt)⟩
  rcases dR_elem (F := F) hq hi' hd' with ⟨_, h2⟩ | ⟨y, h1, _⟩
  ·rw [hm] at h2; exact h2
  ·exfalso
   subst h1
   cases q <;> first | (cases hq; done) | skip
   case raises X => simp [Sq.sz] at hoff'; subst hoff'; simp [Sq.elem] at hd'
   all_goals (simp [Sq.sz] at hoff'; subst hoff'; simp [Sq.elem] at hd')
 refine sRun (d := .irow F i.toNat m) (fun M a w hr => ?_) ho h
 have hv : evalV TT s (.load t x) = some (0 ≤ i ∧ i < ((dR F q).len : Int), .irow F i.toNat m) := by
  simp only [evalV, hx, ptrCells, hR, hy]
  have : ((dR F q).relem i.toNat).drop off = .irow F i.toNat m :: ((dR F q).relem i.toNat).drop (off + 1) := by
   obtain ⟨h1, h2⟩ := List.getElem?_eq_some_iff.1 hd
   rw [List.drop_eq_getElem_cons h1, h2]
  rw [this]
 obtain ⟨v, h1, h2⟩ := load_ok (P := C.P) hT hr hv (by rw [dR_len]; exact hi)
 refine ⟨v, ?_, h2⟩
 unfold execOp
 rw [hop]
 show ((do pure (Next.value (← Instr.loadAt t (a.eval x))) : Sem Next)).run C.P w = _
 rw [Sem.run_bind, h1]; rfl
theorem oLoadD (hT : TTOK C.P TT) (hw : Wanted C ops o ⟨tm, rw', bx⟩) {t et : TypeId} {e : TypeId} {kk : Sq} {by' : Nat} {x : Operand} {R F off m b : Nat} {i : Int} (q : Sq) (hop : o.op = .load t x) (hy : look TT t = some (.sl e kk by')) (hx : (PS.ev ⟨tm, rw', bx⟩ x) = .eptr R i off) (hR : PS.r ⟨tm, rw', bx⟩ R = some (et, dR F q)) (hq : q.deep = true) (hoff : Nat.beq (off + 1) q.sz = true) (hm : (q.nn i.toNat).len = m) (hd : o.dst = some b) (hn : Nat.blt b C.n = true) (hi : 0 ≤ i ∧ i < (q.len : Int))
  (h : VO C ops K rest ⟨(b, .irow F i.toNat m) :: tm, rw', bx⟩) : VO C ops K (o :: rest) ⟨tm, rw', bx⟩ :=
 oStepW hw (sLoadD hT hop hy hx hR hq hoff hm hi (by rw [hd]; exact hn) (by rw [hd]; exact h))
theorem oAppendD (q' : Sq) (hT : TTOK C.P TT) (hg : o.guard = none) {t e : TypeId} {k q qb : Sq} {by' b R F m m' : Nat} {x y : Operand} {dy : D} {ob : Prop} (hop : o.op = .call { callee := .builtin .append, args := #[x, y], argTypes := #[t, t] }) (hd : o.dst = some b) (hy : look TT t = some (.sl e k by'))
  (hx : (PS.ev ⟨tm, rw', bx⟩ x) = .row R 0 m) (hR : PS.r ⟨tm, rw', bx⟩ R = some (e, dR F q)) (hyy : (PS.ev ⟨tm, rw', bx⟩ y) = dy) (hs : srcSq ⟨tm, rw', bx⟩ dy = some (ob, qb)) (hob : ob) (hk : Nat.beq k.sz q.sz = true) (hbb : Nat.ble by' 32 = true) (hn : Nat.blt b C.n = true) (hlo : Nat.ble R 999999 = true)
  (hm : m = q.len) (hm' : m' = q'.len) {s' : PS} (hnf : nf ⟨(b, .row R 0 m') :: (PS.kill ⟨tm, rw', bx⟩ R).tmp, (R, some (e, dR F q')) :: rw', (PS.kill ⟨tm, rw', bx⟩ R).box⟩ = some s') (happ : (dR F q).app qb = some (dR F q')) (hbd : q.len + qb.len ≤ 4294967296) (h : VO C ops K rest s') : VO C ops K (o :: rest) ⟨tm, rw', bx⟩ := by
 subst hm'
 refine vOp hg (sAppend hT hop hd hy hx hR (by rw [dR_sz]; exact hk) hyy hs happ hbb hn (by rw [dR_len]; exact hm) hob (by rw [dR_len]; exact hbd) hlo ?_)
 rw [dR_len]
 exact vNf hnf h
end
end Go.Proofs.Ytgindcgphnbnaaa
namespace Go.Proofs.Ytgindcgphnbnaaa
open Go.RowKit Go.Deep
section
variable {C : Cx} {tm : List (Nat × D)} {rw' : List (Nat × Option (TypeId × Sq))} {bx : List (Nat × Option (List D))} {s' : PS}
theorem En.adoptA (t p r R F : Nat) {n : Nat} {dl : List D} {et te : TypeId} {c q : Sq} {fq fq' : Fq} (ht : PS.t ⟨tm, rw', bx⟩ t = .agg dl) (hp0 : dl[p]? = some (.row r 0 n)) (hr : PS.r ⟨tm, rw', bx⟩ r = some (te, c)) (hn : n = c.len) (hf : PS.r ⟨tm, rw', bx⟩ (FK + F) = some (te, .fam fq)) (hR : PS.r ⟨tm, rw', bx⟩ R = some (et, dR F q))
  (hq : q.deep = true) (hlen : q.len = fq.len) (hp : fq.push c = some fq') (hl : lone ⟨tm, rw', bx⟩ R F = true) {dl' : List D} (hd' : dl' = (dl.map (klXS r)).set p (.irow F fq.len n))
  (hnf : nf ⟨(t, .agg dl') :: (PS.killX ⟨tm, rw', bx⟩ r).tmp, (r, none) :: (FK + F, some (te, .fam fq')) :: rw', (PS.killX ⟨tm, rw', bx⟩ r).box⟩ = some s') (hF : Nat.blt F 4294967296 = true := by rfl) (hr1 : Nat.blt r 1000000 = true := by rfl) (hFR : notF R = true := by rfl) (hrR : Nat.beq r R = false := by rfl) : En C ⟨tm, rw', bx⟩ s' := ⟨fun M a w h => by
 rw [nf_ok hnf]
 rw [Nat.blt_eq] at hF hr1
 subst hn hd'
 have hne : r ≠ R := fun e => by subst e; rw [Nat.beq_refl] at hrR; cases hrR
 have hget := Fq.get_push hp
 have hrn := notF_lo hr1
 let g : Nat → Nat := fun k => if k = fq.len then r else inn F k
 have hinnr : ∀ k, inn F k ≠ r := fun k e => by have := inn_hi F k; rw [e, notF_big hrn] at this; cases this
 have hown : ∀ k, (famM M r F fq' g).owned k → M.owned k := by
  rintro k (⟨b, hb⟩ | ⟨y, c, z, hy⟩)
  ·exact .inl ⟨b, hb⟩
  ·simp only [famM] at hy
   split at hy
   ·split at hy
    ·split at hy
     ·exact .inr ⟨_, c, z, hy⟩
     ·cases hy
    ·exact .inr ⟨_, c, z, hy⟩
   ·split at hy
    ·cases hy
    ·exact .inr ⟨_, c, z, hy⟩
 have hA : ∀ f b, b < w.heap.size → Ow (Fs C.w0 C.O0) M f b → Ow (Fs C.w0 C.O0) (famM M r F fq' g) f b ∧ b < w.heap.size ∧ w.heap[b]? = w.heap[b]? := fun f b h1 h2 => ⟨⟨fun h3 => h2.1 (hown b h3), h2.2⟩, h1, rfl⟩
 have hγ' : ∀ x y, x ≠ r → notF x = true → (famM M r F fq' g).γ x = some y → M.γ x = some y := fun x y h1 h2 h3 => by rw [famM_lo _ _ _ _ _ (notF_big h2) h1] at h3; exact h3
 have hgM : ∀ k, k ≠ fq.len → ∀ y, (famM M r F fq' g).γ (inn F k) = some y → M.γ (inn F k) = some y := fun k hk y hy => by
  rw [famM_inn _ _ _ _ _ hF] at hy
  split at hy
  ·simpa [g, hk] using hy
  ·cases hy
 refine ⟨_, h.refam r R F hF (fq' := fq') g (yR := some (et, dR F q)) hr1 hFR hne hf hl (fun k c' hc => ?_) (fun k k' c1 c2 h1 h2 h3 => ?_) (fun k c' hc => ?_) (fun x => ?_) (fun e p hx => ?_) (fun hx => by cases hx) (fun t' => ?_) fun b => ?_⟩
 ·rw [hget] at hc
  by_cases hk : k = fq.len
  ·rw [if_pos hk] at hc
   cases hc
   simp [g, hk, hr]
  ·rw [if_neg hk] at hc
   simp only [g, hk, if_false]
   rw [fam_r hF hf, hc]
 ·simp only [g] at h3
  split at h3 <;> split at h3
  ·omega
  ·exact absurd h3.symm (hinnr _)
  ·exact absurd h3 (hinnr _)
  ·exact (inn_inj h3).2
 ·by_cases hk : k = fq.len
  ·exact .inl (by simp [g, hk])
  ·exact .inr ⟨k, by simp [g, hk]⟩
 ·rw [PS.r_app (s := ⟨tm, rw', bx⟩) (l := [(r, none), (FK + F, some (te, .fam fq'))]) rfl, look_two', look_two']
  cases hbx : Nat.ble BIG x with
  | true =>
   have h1 : r ≠ FK + unF x := fun e => by have := notF_fk x; rw [← e, hrn] at this; cases this
   simp only [h1, if_false]
   by_cases hu : unF x = F
   ·simp [hu]
   ·simp [hu, Ne.symm hu]
  | false =>
   simp only
   by_cases hxr : r = x
   ·simp [hxr]
   ·simp only [hxr, if_false, Ne.symm hxr]
    by_cases hxf : FK + F = x
    ·simp [hxf]
    ·simp only [hxf, if_false, Ne.symm hxf]
     by_cases hxR : x = R
     ·simp [hxR, hR]
     ·simp [hxR]
 ·cases hx
  rcases h.row _ _ _ hR with ⟨g1, g2⟩ | ⟨gg, cap, cur, g1, g2, g3, g4, g5, g6⟩
  ·exact .inl ⟨by rw [famM_lo _ _ _ _ _ (notF_big hFR) (Ne.symm hne)]; exact g1, g2⟩
  ·refine .inr ⟨gg, cap, cur, by rw [famM_lo _ _ _ _ _ (notF_big hFR) (Ne.symm hne)]; exact g1, g2, g3, g4, g5, fun i j d hi hd => ?_⟩
   have hv := g6 i j d hi hd
   rw [dR_len] at hi
   rcases dR_relem hq hi hd with ⟨rfl, _⟩ | ⟨x, rfl, _⟩
   ·exact hv.irow_mv (hgM i (by omega))
   ·rw [hv.int_inv]; exact .int _
 ·have hk := PS.t_killX ⟨tm, rw', bx⟩ r t'
  by_cases htt : t = t'
  ·subst htt
   have : PS.t ⟨(t, .agg ((dl.map (klXS r)).set p (.irow F fq.len c.len))) :: (PS.killX ⟨tm, rw', bx⟩ r).tmp, (r, none) :: (FK + F, some (te, .fam fq')) :: rw', (PS.killX ⟨tm, rw', bx⟩ r).box⟩ t = .agg ((dl.map (klXS r)).set p (.irow F fq.len c.len)) := by simp [PS.t, look_cons_self]
   rw [this]
   have hv := h.tmp t
   rw [ht] at hv
   generalize a.tmps.getD t undef = v at hv ⊢
   cases hv with
   | agg _ us hl hd =>
    refine .agg _ us (by simpa using hl) fun j d hj => ?_
    rw [List.getElem?_set] at hj
    by_cases hij : p = j
    ·subst hij
     have hlt := (List.getElem?_eq_some_iff.1 hp0).1
     rw [if_pos rfl, if_pos (by simpa using hlt)] at hj
     cases hj
     refine (hd p _ hp0).irow_of fun x hx => ?_
     rw [famM_inn _ _ _ _ _ hF] at hx
     split at hx
     ·simpa [g] using hx
     ·cases hx
    ·rw [if_neg hij, List.getElem?_map] at hj
     obtain ⟨d0, hd0, rfl⟩ := Option.map_eq_some_iff.1 hj
     exact VR.klXS hA hγ' (fun _ _ h => h) (hd j d0 hd0)
  ·have : PS.t ⟨(t, .agg ((dl.map (klXS r)).set p (.irow F fq.len c.len))) :: (PS.killX ⟨tm, rw', bx⟩ r).tmp, (r, none) :: (FK + F, some (te, .fam fq')) :: rw', (PS.killX ⟨tm, rw', bx⟩ r).box⟩ t' = PS.t (PS.killX ⟨tm, rw', bx⟩ r) t' := by simp [PS.t, look_cons_ne htt]
   rw [this, hk]
   exact VR.klX hA hγ' (fun _ _ h => h) (h.tmp t')
 ·exact PS.b_killX ⟨tm, rw', bx⟩ r b⟩
end
section
variable {C : Cx} {ops : Array Oper} {K : PS → Prop} {o : Oper} {rest : List Oper} {s : PS} {TT : List (Nat × Ty)} {tm : List (Nat × D)} {rw' : List (Nat × Option (TypeId × Sq))} {bx : List (Nat × Option (List D))}
end
end Go.Proofs.Ytgindcgphnbnaaa
namespace Go.Proofs.Ytgindcgphnbnaaa
open Go.RowKit Go.Deep
section
variable {C : Cx} {ops : Array Oper} {K : PS → Prop} {o : Oper} {rest : List Oper} {TT : List (Nat × Ty)} {tm : List (Nat × D)} {rw' : List (Nat × Option (TypeId × Sq))} {bx : List (Nat × Option (List D))} {cr B : List Nat} {j : Nat}
end
end Go.Proofs.Ytgindcgphnbnaaa
namespace Go.Proofs.Ytgindcgphnbnaaa
open Go.RowKit
def L_heldRaiseS_l1 (N : Nat) (a_0 : List (Int × List Int)) (k : Int → Option (Int)) : Nat → (Int × Int) → Option (Int)
 | 0, _ => none
 | n + 1, (k9, i10) =>
  cnd (decide (i10 < (a_0.length : Int))) (
   grd (0 ≤ i10 ∧ i10 < (a_0.length : Int)) <|
   cnd (((a_0.getD ((i10).toNat) (0, [])).1) != k9) (
    some (-1 : Int)) (
    grd (Rg64 (k9 + (1 : Int))) <|
    (L_heldIntS N ((a_0.getD ((i10).toNat) (0, [])).2) (k9 + (1 : Int))).bind fun v12 =>
    cnd (decide (v12 < (0 : Int))) (
     some (-1 : Int)) (
     grd (Rg64 (i10 + (1 : Int))) <|
     L_heldRaiseS_l1 N a_0 k n (v12, (i10 + (1 : Int)))))) (
   k k9)
def L_heldRaiseS (N : Nat) (a_0 : List (Int × List Int)) (k_1 : Int) : Option (Int) :=
 L_heldRaiseS_l1 N a_0 (fun (k6 : Int) =>
    some k6) N (k_1, (0 : Int))
set_option maxRecDepth 20000 in
set_option maxHeartbeats 1600000 in
theorem L_heldRaiseS_w (N : Nat) (a_0 : List (Int × List Int)) (k_1 : Int) (r : Int) (h : L_heldRaiseS N a_0 k_1 = some r) : PCall Try.prog 39 [.ro false (.raises a_0), .int k_1] [] (.int r) := by
 unfold L_heldRaiseS at h
 refine pcall_intro (TT := TT) tt Try.func39 rfl rfl Try.ntmps39 (congrArg Array.toList Try.results39) rfl rfl fun w0 => ?_
 refine vSeq ?_
 refine vRegion ?_
 refine oVal tt rfl rfl rfl rfl rfl trivial ?_
 refine vNil ?_
 change VC _ _ _ _
 iterate 2 refine vSeq ?_
 refine vRegion ?_
 refine oVal tt rfl rfl rfl rfl rfl trivial ?_
 refine vNil ?_
 change VC _ _ _ _
 refine vJoin (F := fun k => L_heldRaiseS_l1 N a_0 k) h (α := Int) (J := fun (k6 : Int) => (⟨[(1, .int k6)], [], []⟩ : PS)) ?_ ?_
 ·rintro k6 h
  show VC _ _ _ (⟨[(1, .int k6)], [], []⟩ : PS)
  refine vSeq ?_
  refine vRegion ?_
  iterate 2 refine oVal tt rfl rfl rfl rfl rfl trivial ?_
  refine vNil ?_
  change VC _ _ _ _
  refine vRet ?_
  change ∃ _, _
  cases h
  exact ⟨[], _, rfl, trivial, rfl, (.eq rfl), rfl⟩
 ·intro k h
  refine vBlock ?_
  refine vLoopS (α := Int × Int) (fun | (k9, i10) => (⟨[(0, .ro false (.raises a_0)), (1, .int k9), (5, .int i10)], [], []⟩ : PS)) (L_heldRaiseS_l1 N a_0 k) h (En.of ⟨rfl, rfl, rfl, trivial⟩ trivial trivial) (fun _ => rfl) ?_
  rintro n ⟨k9, i10⟩ h
  rw [L_heldRaiseS_l1] at h
  show VC _ _ _ (⟨[(0, .ro false (.raises a_0)), (1, .int k9), (5, .int i10)], [], []⟩ : PS)
  iterate 2 refine vSeq ?_
  refine vRegion ?_
  iterate 4 refine oVal tt rfl rfl rfl rfl rfl trivial ?_
  refine vNil ?_
  change VC _ _ _ _
  refine vCond rfl (fun hb1 => ?_) (fun hb1 => ?_)
  ·replace h := cnd_t hb1 h
   refine vSkip ?_
   change VC _ _ _ _
   refine vSeq ?_
   refine vBlock ?_
   iterate 2 refine vSeq ?_
   refine vRegion ?_
   iterate 2 refine oVal tt rfl rfl rfl rfl rfl trivial ?_
   obtain ⟨hg2, h⟩ := grd_inv h
   refine oVal tt rfl rfl rfl rfl rfl hg2 ?_
   iterate 4 refine oVal tt rfl rfl rfl rfl rfl trivial ?_
   refine vNil ?_
   change VC _ _ _ _
   refine vCond rfl (fun hb3 => ?_) (fun hb3 => ?_)
   ·replace h := cnd_t hb3 h
    refine vSeq ?_
    refine vRegion ?_
    refine oVal tt rfl rfl rfl rfl rfl trivial ?_
    refine vNil ?_
    change VC _ _ _ _
    refine vRet ?_
    change ∃ _, _
    cases h
    exact ⟨[], _, rfl, trivial, rfl, (.eq rfl), rfl⟩
   ·replace h := cnd_f hb3 h
    refine vSkip ?_
    change VC _ _ _ _
    refine vSeq ?_
    refine vRegion ?_
    refine oVal tt rfl rfl rfl rfl rfl trivial ?_
    obtain ⟨hg4, h⟩ := grd_inv h
    refine oVal tt rfl rfl rfl rfl rfl hg4 ?_
    refine oVal tt rfl rfl rfl rfl rfl trivial ?_
    refine vNil ?_
    change VC _ _ _ _
    refine vSeq ?_
    refine vRegion ?_
    iterate 2 refine oVal tt rfl rfl rfl rfl rfl trivial ?_
    refine oVal tt rfl rfl rfl rfl rfl hg2 ?_
    iterate 3 refine oVal tt rfl rfl rfl rfl rfl trivial ?_
    obtain ⟨v12, hc5, h⟩ := bind_inv h
    refine oCall (L_heldIntS_w N ((a_0.getD ((i10).toNat) (0, [])).2) (k9 + (1 : Int)) v12 hc5) rfl rfl rfl rfl rfl rfl rfl rfl ⟨rfl, rfl, trivial⟩ ?_
    refine oVal tt rfl rfl rfl rfl rfl trivial ?_
    refine vNil ?_
    change VC _ _ _ _
    refine vSeq ?_
    refine vRegion ?_
    iterate 2 refine oVal tt rfl rfl rfl rfl rfl trivial ?_
    refine vNil ?_
    change VC _ _ _ _
    refine vCond rfl (fun hb6 => ?_) (fun hb6 => ?_)
    ·replace h := cnd_t hb6 h
     refine vSeq ?_
     refine vRegion ?_
     refine oVal tt rfl rfl rfl rfl rfl trivial ?_
     refine vNil ?_
     change VC _ _ _ _
     refine vRet ?_
     change ∃ _, _
     cases h
     exact ⟨[], _, rfl, trivial, rfl, (.eq rfl), rfl⟩
    ·replace h := cnd_f hb6 h
     refine vSkip ?_
     change VC _ _ _ _
     refine vRegion ?_
     refine oVal tt rfl rfl rfl rfl rfl trivial ?_
     obtain ⟨hg7, h⟩ := grd_inv h
     refine oVal tt rfl rfl rfl rfl rfl hg7 ?_
     refine oVal tt rfl rfl rfl rfl rfl trivial ?_
     refine vNil ?_
     change ∃ _, _
     exact ⟨(v12, (i10 + (1 : Int))), (En.of ⟨rfl, rfl, rfl, trivial⟩ trivial trivial), h⟩
  ·replace h := cnd_f hb1 h
   refine vExit ?_
   change ∃ _, _
   exact ⟨k9, (En.of ⟨rfl, trivial⟩ trivial trivial), h⟩
end Go.Proofs.Ytgindcgphnbnaaa
namespace Go.Proofs.Ytgindcgphnbnaaa
open Go.RowKit Go.Deep
def S_l9Reduced_l3 (N : Nat) (l7 : List (List Int)) (l112 : List (List Int)) (j114 : Int) (k : Int → Option ((List (List Int)) × (List Int))) : Nat → Int → Option ((List (List Int)) × (List Int))
 | 0, _ => none
 | n + 1, at146 =>
  cnd (decide (at146 < (l7.length : Int))) (
   grd (0 ≤ at146 ∧ at146 < (l7.length : Int)) <|
   grd (0 ≤ at146 ∧ at146 < (l112.length : Int)) <|
   grd (0 ≤ j114 ∧ j114 < ((l112.getD ((at146).toNat) []).length : Int)) <|
   cnd (((l112.getD ((at146).toNat) []).getD ((j114).toNat) 0) == (0 : Int)) (
    grd (Rg64 (at146 + (1 : Int))) <|
    S_l9Reduced_l3 N l7 l112 j114 k n (at146 + (1 : Int))) (
    k at146)) (
   k at146)
def S_l17Power_l1 (N : Nat) (a_0 : Int) (n_1 : Int) (k : Int → Option (Int)) : Nat → (Int × Int) → Option (Int)
 | 0, _ => none
 | n + 1, (x5, i6) =>
  cnd (decide (i6 < n_1)) (
   grd (Rg64 (x5 * a_0)) <|
   grd (Rg64 (i6 + (1 : Int))) <|
   S_l17Power_l1 N a_0 n_1 k n ((x5 * a_0), (i6 + (1 : Int)))) (
   k x5)
def S_l17Power (N : Nat) (a_0 : Int) (n_1 : Int) : Option (Int) :=
 S_l17Power_l1 N a_0 n_1 (fun (x3 : Int) =>
    some x3) N ((1 : Int), (0 : Int))
set_option maxRecDepth 20000 in
set_option maxHeartbeats 1600000 in
theorem S_l17Power_w (N : Nat) (a_0 : Int) (n_1 : Int) (r : Int) (h : S_l17Power N a_0 n_1 = some r) : PCall Try.prog 102 [.int a_0, .int n_1] [] (.int r) := by
 unfold S_l17Power at h
 refine pcall_intro (TT := TT) tt Try.func102 rfl rfl Try.ntmps102 (congrArg Array.toList Try.results102) rfl rfl fun w0 => ?_
 refine vSeq ?_
 refine vRegion ?_
 refine oVal tt rfl rfl rfl rfl rfl trivial ?_
 refine vNil ?_
 change VC _ _ _ _
 refine vSeq ?_
 refine vRegion ?_
 refine oVal tt rfl rfl rfl rfl rfl trivial ?_
 refine vNil ?_
 change VC _ _ _ _
 iterate 2 refine vSeq ?_
 refine vRegion ?_
 refine oVal tt rfl rfl rfl rfl rfl trivial ?_
 refine vNil ?_
 change VC _ _ _ _
 refine vJoin (F := fun k => S_l17Power_l1 N a_0 n_1 k) h (α := Int) (J := fun (x3 : Int) => (⟨[(5, .int x3)], [], []⟩ : PS)) ?_ ?_
 ·rintro x3 h
  show VC _ _ _ (⟨[(5, .int x3)], [], []⟩ : PS)
  refine vSeq ?_
  refine vRegion ?_
  iterate 2 refine oVal tt rfl rfl rfl rfl rfl trivial ?_
  refine vNil ?_
  change VC _ _ _ _
  refine vRet ?_
  change ∃ _, _
  cases h
  exact ⟨[], _, rfl, trivial, rfl, (.eq rfl), rfl⟩
 ·intro k h
  refine vBlock ?_
  refine vLoopS (α := Int × Int) (fun | (x5, i6) => (⟨[(0, .int a_0), (1, .int n_1), (5, .int x5), (6, .int i6)], [], []⟩ : PS)) (S_l17Power_l1 N a_0 n_1 k) h (En.of ⟨rfl, rfl, rfl, rfl, trivial⟩ trivial trivial) (fun _ => rfl) ?_
  rintro n ⟨x5, i6⟩ h
  rw [S_l17Power_l1] at h
  show VC _ _ _ (⟨[(0, .int a_0), (1, .int n_1), (5, .int x5), (6, .int i6)], [], []⟩ : PS)
  iterate 2 refine vSeq ?_
  refine vRegion ?_
  iterate 3 refine oVal tt rfl rfl rfl rfl rfl trivial ?_
  refine vNil ?_
  change VC _ _ _ _
  refine vCond rfl (fun hb1 => ?_) (fun hb1 => ?_)
  ·replace h := cnd_t hb1 h
   refine vSkip ?_
   change VC _ _ _ _
   refine vSeq ?_
   refine vBlock ?_
   refine vRegion ?_
   iterate 2 refine oVal tt rfl rfl rfl rfl rfl trivial ?_
   obtain ⟨hg2, h⟩ := grd_inv h
   refine oVal tt rfl rfl rfl rfl rfl hg2 ?_
   refine oVal tt rfl rfl rfl rfl rfl trivial ?_
   refine vNil ?_
   change VC _ _ _ _
   refine vRegion ?_
   refine oVal tt rfl rfl rfl rfl rfl trivial ?_
   obtain ⟨hg3, h⟩ := grd_inv h
   refine oVal tt rfl rfl rfl rfl rfl hg3 ?_
   refine oVal tt rfl rfl rfl rfl rfl trivial ?_
   refine vNil ?_
   change ∃ _, _
   exact ⟨((x5 * a_0), (i6 + (1 : Int))), (En.of ⟨rfl, rfl, rfl, rfl, trivial⟩ trivial trivial), h⟩
  ·replace h := cnd_f hb1 h
   refine vExit ?_
   change ∃ _, _
   exact ⟨x5, (En.of ⟨rfl, trivial⟩ trivial trivial), h⟩
def S_PosesOf_l2 (N : Nat) (l_0 : Lnk) (v1 : List Int) (k : (List (Int × Int)) → Option ((List (List (Int × Int))) × Bool)) : Nat → ((List (Int × Int)) × Int × Int) → Option ((List (List (Int × Int))) × Bool)
 | 0, _ => none
 | n + 1, (l86, k87, i88) =>
  cnd (decide (i88 ≥ (0 : Int))) (
   grd (0 ≤ i88 ∧ i88 < (v1.length : Int)) <|
   grd ((5 : Int) ≠ 0) <|
   grd ((5 : Int) ≠ 0 ∧ Rg64 (Int.tdiv k87 (5 : Int))) <|
   grd (0 ≤ (v1.getD ((i88).toNat) 0) ∧ (v1.getD ((i88).toNat) 0) < ((([] : List (Int × Int)) ++ l_0.f.places).length : Int)) <|
   grd (0 ≤ (v1.getD ((i88).toNat) 0) ∧ (v1.getD ((i88).toNat) 0) < (l86.length : Int)) <|
   grd ((25 : Int) ≠ 0 ∧ Rg64 (Int.tdiv k87 (25 : Int))) <|
   grd (Rg64 (i88 - (1 : Int))) <|
   S_PosesOf_l2 N l_0 v1 k n (((l86.set (((v1.getD ((i88).toNat) 0)).toNat) ((Int.tmod k87 (5 : Int)), (l86.getD (((v1.getD ((i88).toNat) 0)).toNat) (0, 0)).2)).set (((v1.getD ((i88).toNat) 0)).toNat) (((l86.set (((v1.getD ((i88).toNat) 0)).toNat) ((Int.tmod k87 (5 : Int)), (l86.getD (((v1.getD ((i88).toNat) 0)).toNat) (0, 0)).2)).getD (((v1.getD ((i88).toNat) 0)).toNat) (0, 0)).1, (Int.tmod (Int.tdiv k87 (5 : Int)) (5 : Int)))), (Int.tdiv k87 (25 : Int)), (i88 - (1 : Int)))) (
   k l86)
def S_PosesOf_l1 (N : Nat) (l_0 : Lnk) (v1 : List Int) (k : (List (List (Int × Int))) → Option ((List (List (Int × Int))) × Bool)) : Nat → ((List (List (Int × Int))) × Int) → Option ((List (List (Int × Int))) × Bool)
 | 0, _ => none
 | n + 1, (l67, code68) =>
  (S_l17Power N (25 : Int) (v1.length : Int)).bind fun v79 =>
  cnd (decide (code68 < v79)) (
   grd (l_0.f.places.length ≤ 4294967296) <|
   grd (Rg64 ((v1.length : Int) - (1 : Int))) <|
   S_PosesOf_l2 N l_0 v1 (fun (l83 : List (Int × Int)) =>
      grd ((([] : List (Int × Int)) ++ l_0.f.places).length = l83.length) <|
      (S_IsPose N l_0 l83).bind fun v84 =>
      cnd v84 (
       grd (l67.length + 1 ≤ 4294967296) <|
       grd (Rg64 (code68 + (1 : Int))) <|
       S_PosesOf_l1 N l_0 v1 k n ((l67 ++ ([l83] : List (List (Int × Int)))), (code68 + (1 : Int)))) (
       grd (Rg64 (code68 + (1 : Int))) <|
       S_PosesOf_l1 N l_0 v1 k n (l67, (code68 + (1 : Int))))) N ((([] : List (Int × Int)) ++ l_0.f.places), code68, ((v1.length : Int) - (1 : Int)))) (
   k l67)
def S_PosesOf (N : Nat) (l_0 : Lnk) : Option ((List (List (Int × Int))) × Bool) :=
 (S_FreeJoints N l_0).bind fun v1 =>
 (S_IsLinkage N l_0).bind fun v2 =>
 cnd (!v2) (
  some (([] : List (List (Int × Int))), false)) (
  S_PosesOf_l1 N l_0 v1 (fun (l45 : List (List (Int × Int))) =>
     some (l45, true)) N (([] : List (List (Int × Int))), (0 : Int)))
set_option maxRecDepth 20000 in
set_option maxHeartbeats 1600000 in
theorem S_PosesOf_w (N : Nat) (l_0 : Lnk) (r : (List (List (Int × Int))) × Bool) (h : S_PosesOf N l_0 = some r) : PCall Try.prog 45 [lD l_0] [(62, .pairss r.1)] (.tup [.row 0 0 r.1.length, .bool r.2]) := by
 unfold S_PosesOf at h
 refine pcall_intro (TT := TT) tt Try.func45 rfl rfl Try.ntmps45 (congrArg Array.toList Try.results45) rfl rfl fun w0 => ?_
 refine vSeq ?_
 refine vRegion ?_
 refine oBox rfl rfl rfl rfl rfl rfl rfl rfl rfl ?_
 iterate 2 refine oVal tt rfl rfl rfl rfl rfl trivial ?_
 refine vNil ?_
 change VC _ _ _ _
 refine vSeq ?_
 refine vRegion ?_
 refine oEmpty tt (wNone rfl) rfl rfl rfl rfl ?_
 refine oVal tt rfl rfl rfl rfl rfl trivial ?_
 refine vNil ?_
 change VC _ _ _ _
 refine vSeq ?_
 refine vRegion ?_
 refine oVal tt rfl rfl rfl rfl rfl trivial ?_
 obtain ⟨v1, hc1, h⟩ := bind_inv h
 refine oCall (S_FreeJoints_w N l_0 v1 hc1) rfl rfl rfl rfl rfl rfl rfl rfl ⟨⟨rfl, rfl, rfl, rfl, trivial⟩, trivial⟩ ?_
 refine oVal tt rfl rfl rfl rfl rfl trivial ?_
 refine vNil ?_
 change VC _ _ _ _
 iterate 2 refine vSeq ?_
 refine vRegion ?_
 refine oVal tt rfl rfl rfl rfl rfl trivial ?_
 obtain ⟨v2, hc2, h⟩ := bind_inv h
 refine oCall (S_IsLinkage_w N l_0 v2 hc2) rfl rfl rfl rfl rfl rfl rfl rfl ⟨⟨rfl, rfl, rfl, rfl, trivial⟩, trivial⟩ ?_
 refine oVal tt rfl rfl rfl rfl rfl trivial ?_
 refine vNil ?_
 change VC _ _ _ _
 refine vCond rfl (fun hb3 => ?_) (fun hb3 => ?_)
 ·replace h := cnd_t hb3 h
  refine vSeq ?_
  refine vRegion ?_
  iterate 3 refine oVal tt rfl rfl rfl rfl rfl trivial ?_
  refine vNil ?_
  change VC _ _ _ _
  refine vNilT 2 9001 62 (.pairss []) rfl rfl rfl rfl ?_
  refine vRet ?_
  change ∃ _, _
  cases h
  exact ⟨[9001], _, rfl, ⟨rfl, trivial⟩, rfl, (.eq rfl), rfl⟩
 ·replace h := cnd_f hb3 h
  refine vSkip ?_
  change VC _ _ _ _
  iterate 2 refine vSeq ?_
  refine vRegion ?_
  refine oVal tt rfl rfl rfl rfl rfl trivial ?_
  refine vNil ?_
  change VC _ _ _ _
  refine vJoin (F := fun k => S_PosesOf_l1 N l_0 v1 k) h (α := List (List (Int × Int))) (J := fun (l45 : List (List (Int × Int))) => (⟨[(4, .row 57 0 l45.length)], [(57, some (62, .pairss l45))], []⟩ : PS)) ?_ ?_
  ·rintro l45 h
   show VC _ _ _ (⟨[(4, .row 57 0 l45.length)], [(57, some (62, .pairss l45))], []⟩ : PS)
   refine vSeq ?_
   refine vRegion ?_
   iterate 3 refine oVal tt rfl rfl rfl rfl rfl trivial ?_
   refine vNil ?_
   change VC _ _ _ _
   refine vRet ?_
   change ∃ _, _
   cases h
   exact ⟨[57], _, rfl, ⟨rfl, trivial⟩, rfl, (.eq rfl), rfl⟩
  ·intro k h
   refine vBlock ?_
   refine vNilT 4 57 62 (.pairss []) rfl rfl rfl rfl ?_
   refine vLoopS (α := (List (List (Int × Int))) × Int) (fun | (l67, code68) => (⟨[(1, .ptr 1 0), (4, .row 57 0 l67.length), (5, .row 1120 0 v1.length), (6, .int code68)], [(57, some (62, .pairss l67)), (1120, some (3, .ints v1))], [(1, some [.int l_0.f.g.n, .ro false (.pairs l_0.f.g.bars), .ro false (.pairs l_0.f.places), .ro false (.ints l_0.ground)])]⟩ : PS)) (S_PosesOf_l1 N l_0 v1 k) h (En.of ⟨rfl, rfl, rfl, rfl, trivial⟩ ⟨rfl, rfl, trivial⟩ ⟨rfl, trivial⟩) (fun _ => rfl) ?_
   rintro n ⟨l67, code68⟩ h
   rw [S_PosesOf_l1] at h
   show VC _ _ _ (⟨[(1, .ptr 1 0), (4, .row 57 0 l67.length), (5, .row 1120 0 v1.length), (6, .int code68)], [(57, some (62, .pairss l67)), (1120, some (3, .ints v1))], [(1, some [.int l_0.f.g.n, .ro false (.pairs l_0.f.g.bars), .ro false (.pairs l_0.f.places), .ro false (.ints l_0.ground)])]⟩ : PS)
   iterate 2 refine vSeq ?_
   refine vRegion ?_
   iterate 3 refine oVal tt rfl rfl rfl rfl rfl trivial ?_
   obtain ⟨v79, hc4, h⟩ := bind_inv h
   refine oCall (S_l17Power_w N (25 : Int) (v1.length : Int) v79 hc4) rfl rfl rfl rfl rfl rfl rfl rfl ⟨rfl, rfl, trivial⟩ ?_
   refine oVal tt rfl rfl rfl rfl rfl trivial ?_
   refine vNil ?_
   change VC _ _ _ _
   refine vCond rfl (fun hb5 => ?_) (fun hb5 => ?_)
   ·replace h := cnd_t hb5 h
    refine vSkip ?_
    change VC _ _ _ _
    refine vSeq ?_
    refine vBlock ?_
    refine vSeq ?_
    refine vRegion ?_
    refine oEmpty tt (wNone rfl) rfl rfl rfl rfl ?_
    iterate 3 refine oVal tt rfl rfl rfl rfl rfl trivial ?_
    obtain ⟨hg6, h⟩ := grd_inv h
    refine oAppNil tt (wNone rfl) rfl rfl rfl rfl rfl rfl rfl (fun _ => rfl) rfl rfl rfl rfl rfl hg6 ?_
    refine oVal tt rfl rfl rfl rfl rfl trivial ?_
    refine vNil ?_
    change VC _ _ _ _
    refine vSeq ?_
    refine vRegion ?_
    iterate 2 refine oVal tt rfl rfl rfl rfl rfl trivial ?_
    refine vNil ?_
    change VC _ _ _ _
    iterate 2 refine vSeq ?_
    refine vRegion ?_
    iterate 2 refine oVal tt rfl rfl rfl rfl rfl trivial ?_
    obtain ⟨hg7, h⟩ := grd_inv h
    refine oVal tt rfl rfl rfl rfl rfl hg7 ?_
    refine oVal tt rfl rfl rfl rfl rfl trivial ?_
    refine vNil ?_
    change VC _ _ _ _
    refine vJoin (F := fun k => S_PosesOf_l2 N l_0 v1 k) h (α := List (Int × Int)) (J := fun (l83 : List (Int × Int)) => (⟨[(1, .ptr 1 0), (4, .row 57 0 l67.length), (5, .row 1120 0 v1.length), (6, .int code68), (7, .row 28 0 ((([] : List (Int × Int)) ++ l_0.f.places).length))], [(57, some (62, .pairss l67)), (1120, some (3, .ints v1)), (28, some (118, .pairs l83))], [(1, some [.int l_0.f.g.n, .ro false (.pairs l_0.f.g.bars), .ro false (.pairs l_0.f.places), .ro false (.ints l_0.ground)])]⟩ : PS)) ?_ ?_
    ·rintro l83 h
     show VC _ _ _ (⟨[(1, .ptr 1 0), (4, .row 57 0 l67.length), (5, .row 1120 0 v1.length), (6, .int code68), (7, .row 28 0 ((([] : List (Int × Int)) ++ l_0.f.places).length))], [(57, some (62, .pairss l67)), (1120, some (3, .ints v1)), (28, some (118, .pairs l83))], [(1, some [.int l_0.f.g.n, .ro false (.pairs l_0.f.g.bars), .ro false (.pairs l_0.f.places), .ro false (.ints l_0.ground)])]⟩ : PS)
     refine vSeq ?_
     refine vRegion ?_
     iterate 2 refine oVal tt rfl rfl rfl rfl rfl trivial ?_
     obtain ⟨hg8, h⟩ := grd_inv h
     obtain ⟨v84, hc9, h⟩ := bind_inv h
     refine oCall (S_IsPose_w N l_0 l83 v84 hc9) rfl rfl rfl rfl rfl rfl rfl rfl ⟨⟨rfl, rfl, rfl, rfl, trivial⟩, (.inl ⟨hg8, rfl⟩), trivial⟩ ?_
     refine vNil ?_
     change VC _ _ _ _
     refine vCond rfl (fun hb10 => ?_) (fun hb10 => ?_)
     ·replace h := cnd_t hb10 h
      refine vRegion ?_
      iterate 2 refine oVal tt rfl rfl rfl rfl rfl trivial ?_
      refine oFreeze (t := 55) rfl rfl rfl hg8 ?_
      refine oBuild tt rfl rfl rfl rfl rfl rfl rfl rfl rfl rfl rfl ?_
      obtain ⟨hg11, h⟩ := grd_inv h
      refine oAppend tt rfl rfl rfl rfl rfl rfl rfl rfl rfl rfl rfl rfl rfl rfl rfl rfl (Nat.le_of_eq (Nat.zero_add _)) hg11 ?_
      refine oVal tt rfl rfl rfl rfl rfl trivial ?_
      refine vNil ?_
      change VC _ _ _ _
      refine vRegion ?_
      refine oVal tt rfl rfl rfl rfl rfl trivial ?_
      obtain ⟨hg12, h⟩ := grd_inv h
      refine oVal tt rfl rfl rfl rfl rfl hg12 ?_
      refine oVal tt rfl rfl rfl rfl rfl trivial ?_
      refine vNil ?_
      change ∃ _, _
      exact ⟨((l67 ++ ([l83] : List (List (Int × Int)))), (code68 + (1 : Int))), (En.of ⟨rfl, rfl, rfl, rfl, trivial⟩ ⟨rfl, rfl, trivial⟩ ⟨rfl, trivial⟩), h⟩
     ·replace h := cnd_f hb10 h
      refine vSkip ?_
      change VC _ _ _ _
      refine vRegion ?_
      refine oVal tt rfl rfl rfl rfl rfl trivial ?_
      obtain ⟨hg13, h⟩ := grd_inv h
      refine oVal tt rfl rfl rfl rfl rfl hg13 ?_
      refine oVal tt rfl rfl rfl rfl rfl trivial ?_
      refine vNil ?_
      change ∃ _, _
      exact ⟨(l67, (code68 + (1 : Int))), (En.of ⟨rfl, rfl, rfl, rfl, trivial⟩ ⟨rfl, rfl, trivial⟩ ⟨rfl, trivial⟩), h⟩
    ·intro k h
     refine vBlock ?_
     refine vLoopS (α := (List (Int × Int)) × Int × Int) (fun | (l86, k87, i88) => (⟨[(1, .ptr 1 0), (4, .row 57 0 l67.length), (5, .row 1120 0 v1.length), (6, .int code68), (7, .row 28 0 ((([] : List (Int × Int)) ++ l_0.f.places).length)), (8, .int k87), (9, .int i88)], [(57, some (62, .pairss l67)), (1120, some (3, .ints v1)), (28, some (118, .pairs l86))], [(1, some [.int l_0.f.g.n, .ro false (.pairs l_0.f.g.bars), .ro false (.pairs l_0.f.places), .ro false (.ints l_0.ground)])]⟩ : PS)) (S_PosesOf_l2 N l_0 v1 k) h (En.of ⟨rfl, rfl, rfl, rfl, rfl, rfl, rfl, trivial⟩ ⟨rfl, rfl, rfl, trivial⟩ ⟨rfl, trivial⟩) (fun _ => rfl) ?_
     rintro n ⟨l86, k87, i88⟩ h
     rw [S_PosesOf_l2] at h
     show VC _ _ _ (⟨[(1, .ptr 1 0), (4, .row 57 0 l67.length), (5, .row 1120 0 v1.length), (6, .int code68), (7, .row 28 0 ((([] : List (Int × Int)) ++ l_0.f.places).length)), (8, .int k87), (9, .int i88)], [(57, some (62, .pairss l67)), (1120, some (3, .ints v1)), (28, some (118, .pairs l86))], [(1, some [.int l_0.f.g.n, .ro false (.pairs l_0.f.g.bars), .ro false (.pairs l_0.f.places), .ro false (.ints l_0.ground)])]⟩ : PS)
     iterate 2 refine vSeq ?_
     refine vRegion ?_
     iterate 2 refine oVal tt rfl rfl rfl rfl rfl trivial ?_
     refine vNil ?_
     change VC _ _ _ _
     refine vCond rfl (fun hb14 => ?_) (fun hb14 => ?_)
     ·replace h := cnd_t hb14 h
      refine vSkip ?_
      change VC _ _ _ _
      refine vSeq ?_
      refine vBlock ?_
      refine vSeq ?_
      refine vRegion ?_
      iterate 3 refine oVal tt rfl rfl rfl rfl rfl trivial ?_
      obtain ⟨hg15, h⟩ := grd_inv h
      iterate 2 refine oVal tt rfl rfl rfl rfl rfl hg15 ?_
      refine oVal tt rfl rfl rfl rfl rfl trivial ?_
      obtain ⟨hg16, h⟩ := grd_inv h
      refine oVal tt rfl rfl rfl rfl rfl hg16 ?_
      refine oVal tt rfl rfl rfl rfl rfl trivial ?_
      obtain ⟨hg17, h⟩ := grd_inv h
      refine oVal tt rfl rfl rfl rfl rfl hg17 ?_
      refine oVal tt rfl rfl rfl rfl rfl hg16 ?_
      refine oPure (wNone rfl) (pBuild bld_impl_Place rfl rfl) rfl rfl ?_
      obtain ⟨hg18, h⟩ := grd_inv h
      refine oVal tt rfl rfl rfl rfl rfl hg18 ?_
      obtain ⟨hg19, h⟩ := grd_inv h
      refine oStore tt rfl rfl rfl rfl rfl rfl rfl rfl rfl rfl ⟨_, _, rfl, hg19.1, hg19.2⟩ ⟨hg19, (by simpa [Sq.len] using hg19), trivial⟩ ?_
      refine vNil ?_
      change VC _ _ _ _
      refine vRegion ?_
      refine oVal tt rfl rfl rfl rfl rfl trivial ?_
      obtain ⟨hg20, h⟩ := grd_inv h
      refine oVal tt rfl rfl rfl rfl rfl hg20 ?_
      refine oVal tt rfl rfl rfl rfl rfl trivial ?_
      refine vNil ?_
      change VC _ _ _ _
      refine vRegion ?_
      refine oVal tt rfl rfl rfl rfl rfl trivial ?_
      obtain ⟨hg21, h⟩ := grd_inv h
      refine oVal tt rfl rfl rfl rfl rfl hg21 ?_
      refine oVal tt rfl rfl rfl rfl rfl trivial ?_
      refine vNil ?_
      change ∃ _, _
      exact ⟨(((l86.set (((v1.getD ((i88).toNat) 0)).toNat) ((Int.tmod k87 (5 : Int)), (l86.getD (((v1.getD ((i88).toNat) 0)).toNat) (0, 0)).2)).set (((v1.getD ((i88).toNat) 0)).toNat) (((l86.set (((v1.getD ((i88).toNat) 0)).toNat) ((Int.tmod k87 (5 : Int)), (l86.getD (((v1.getD ((i88).toNat) 0)).toNat) (0, 0)).2)).getD (((v1.getD ((i88).toNat) 0)).toNat) (0, 0)).1, (Int.tmod (Int.tdiv k87 (5 : Int)) (5 : Int)))), (Int.tdiv k87 (25 : Int)), (i88 - (1 : Int))), (En.of ⟨rfl, rfl, rfl, rfl, rfl, rfl, rfl, trivial⟩ ⟨rfl, rfl, rfl, trivial⟩ ⟨rfl, trivial⟩), h⟩
     ·replace h := cnd_f hb14 h
      refine vExit ?_
      change ∃ _, _
      exact ⟨l86, (En.of ⟨rfl, rfl, rfl, rfl, rfl, trivial⟩ ⟨rfl, rfl, rfl, trivial⟩ ⟨rfl, trivial⟩), h⟩
   ·replace h := cnd_f hb5 h
    refine vExit ?_
    change ∃ _, _
    exact ⟨l67, (En.of ⟨rfl, trivial⟩ ⟨rfl, trivial⟩ trivial), h⟩
def L_eqPlaceSS_l1 (N : Nat) (a_0 : List (List (Int × Int))) (b_1 : List (List (Int × Int))) (k : Unit → Option (Bool)) : Nat → Int → Option (Bool)
 | 0, _ => none
 | n + 1, i7 =>
  cnd (decide (i7 < (a_0.length : Int))) (
   grd (0 ≤ i7 ∧ i7 < (a_0.length : Int)) <|
   grd (0 ≤ i7 ∧ i7 < (b_1.length : Int)) <|
   (L_eqPlaceS N (a_0.getD ((i7).toNat) []) (b_1.getD ((i7).toNat) [])).bind fun v9 =>
   cnd (!v9) (
    some false) (
    grd (Rg64 (i7 + (1 : Int))) <|
    L_eqPlaceSS_l1 N a_0 b_1 k n (i7 + (1 : Int)))) (
   k ())
def L_eqPlaceSS (N : Nat) (a_0 : List (List (Int × Int))) (b_1 : List (List (Int × Int))) : Option (Bool) :=
 cnd ((a_0.length : Int) != (b_1.length : Int)) (
  some false) (
  L_eqPlaceSS_l1 N a_0 b_1 (fun (_ : Unit) =>
     some true) N (0 : Int))
set_option maxRecDepth 20000 in
set_option maxHeartbeats 1600000 in
theorem L_eqPlaceSS_w (N : Nat) (a_0 : List (List (Int × Int))) (b_1 : List (List (Int × Int))) (r : Bool) (h : L_eqPlaceSS N a_0 b_1 = some r) : PCall Try.prog 47 [.ro false (.pairss a_0), .ro false (.pairss b_1)] [] (.bool r) := by
 unfold L_eqPlaceSS at h
 refine pcall_intro (TT := TT) tt Try.func47 rfl rfl Try.ntmps47 (congrArg Array.toList Try.results47) rfl rfl fun w0 => ?_
 refine vSeq ?_
 refine vRegion ?_
 refine oVal tt rfl rfl rfl rfl rfl trivial ?_
 refine vNil ?_
 change VC _ _ _ _
 iterate 2 refine vSeq ?_
 refine vRegion ?_
 iterate 5 refine oVal tt rfl rfl rfl rfl rfl trivial ?_
 refine vNil ?_
 change VC _ _ _ _
 refine vCond rfl (fun hb1 => ?_) (fun hb1 => ?_)
 ·replace h := cnd_t hb1 h
  refine vSeq ?_
  refine vRegion ?_
  refine oVal tt rfl rfl rfl rfl rfl trivial ?_
  refine vNil ?_
  change VC _ _ _ _
  refine vRet ?_
  change ∃ _, _
  cases h
  exact ⟨[], _, rfl, trivial, rfl, (.eq rfl), rfl⟩
 ·replace h := cnd_f hb1 h
  refine vSkip ?_
  change VC _ _ _ _
  iterate 2 refine vSeq ?_
  refine vRegion ?_
  refine oVal tt rfl rfl rfl rfl rfl trivial ?_
  refine vNil ?_
  change VC _ _ _ _
  refine vJoin (F := fun k => L_eqPlaceSS_l1 N a_0 b_1 k) h (α := Unit) (J := fun (_ : Unit) => (⟨[], [], []⟩ : PS)) ?_ ?_
  ·rintro ⟨⟩ h
   show VC _ _ _ (⟨[], [], []⟩ : PS)
   refine vSeq ?_
   refine vRegion ?_
   refine oVal tt rfl rfl rfl rfl rfl trivial ?_
   refine vNil ?_
   change VC _ _ _ _
   refine vRet ?_
   change ∃ _, _
   cases h
   exact ⟨[], _, rfl, trivial, rfl, (.eq rfl), rfl⟩
  ·intro k h
   refine vBlock ?_
   refine vLoopS (α := Int) (fun (i7 : Int) => (⟨[(0, .ro false (.pairss a_0)), (1, .ro false (.pairss b_1)), (5, .int i7)], [], []⟩ : PS)) (L_eqPlaceSS_l1 N a_0 b_1 k) h (En.of ⟨rfl, rfl, rfl, trivial⟩ trivial trivial) (fun _ => rfl) ?_
   rintro n i7 h
   rw [L_eqPlaceSS_l1] at h
   show VC _ _ _ (⟨[(0, .ro false (.pairss a_0)), (1, .ro false (.pairss b_1)), (5, .int i7)], [], []⟩ : PS)
   iterate 2 refine vSeq ?_
   refine vRegion ?_
   iterate 4 refine oVal tt rfl rfl rfl rfl rfl trivial ?_
   refine vNil ?_
   change VC _ _ _ _
   refine vCond rfl (fun hb2 => ?_) (fun hb2 => ?_)
   ·replace h := cnd_t hb2 h
    refine vSkip ?_
    change VC _ _ _ _
    refine vSeq ?_
    refine vBlock ?_
    refine vSeq ?_
    refine vRegionD (by kernel_rfl) (by kernel_rfl) ?_
    iterate 2 refine cVal tt rfl (wNone rfl) rfl rfl rfl trivial ?_
    obtain ⟨hg3, h⟩ := grd_inv h
    refine cVal tt rfl (wNone rfl) rfl rfl rfl hg3 ?_
    iterate 3 refine cVal tt rfl (wNone rfl) rfl rfl rfl trivial ?_
    obtain ⟨hg4, h⟩ := grd_inv h
    refine cVal tt rfl (wNone rfl) rfl rfl rfl hg4 ?_
    refine cVal tt rfl (wNone rfl) rfl rfl rfl trivial ?_
    obtain ⟨v9, hc5, h⟩ := bind_inv h
    refine cCall (L_eqPlaceS_w N (a_0.getD ((i7).toNat) []) (b_1.getD ((i7).toNat) []) v9 hc5) rfl (wNone rfl) rfl rfl rfl rfl rfl rfl ⟨rfl, rfl, trivial⟩ ?_
    refine cVal tt rfl (wNone rfl) rfl rfl rfl trivial ?_
    refine cNil ?_
    change VC _ _ _ _
    refine vCond rfl (fun hb6 => ?_) (fun hb6 => ?_)
    ·replace h := cnd_t hb6 h
     refine vSeq ?_
     refine vRegion ?_
     refine oVal tt rfl rfl rfl rfl rfl trivial ?_
     refine vNil ?_
     change VC _ _ _ _
     refine vRet ?_
     change ∃ _, _
     cases h
     exact ⟨[], _, rfl, trivial, rfl, (.eq rfl), rfl⟩
    ·replace h := cnd_f hb6 h
     refine vSkip ?_
     change VC _ _ _ _
     refine vRegion ?_
     refine oVal tt rfl rfl rfl rfl rfl trivial ?_
     obtain ⟨hg7, h⟩ := grd_inv h
     refine oVal tt rfl rfl rfl rfl rfl hg7 ?_
     refine oVal tt rfl rfl rfl rfl rfl trivial ?_
     refine vNil ?_
     change ∃ _, _
     exact ⟨(i7 + (1 : Int)), (En.of ⟨rfl, rfl, rfl, trivial⟩ trivial trivial), h⟩
   ·replace h := cnd_f hb2 h
    refine vExit ?_
    change ∃ _, _
    exact ⟨(), (En.of trivial trivial trivial), h⟩
end Go.Proofs.Ytgindcgphnbnaaa
namespace Go.Proofs.Ytgindcgphnbnaaa
open Go.RowKit Go.Deep
theorem wp_only {P : Program} {o : Oper} {a : Act} {w : World} {K : Act → World → Prop} {Q Q' : Exit → Act → World → Prop} (h : ∀ e a w, e ≠ .normal → Q e a w → Q' e a w) (hh : o.wp P a w K Q) : o.wp P a w K Q' := by
 unfold Oper.wp at *
 generalize (execOp a.eval o).run P w = r at *
 cases r with
 | ok n w' =>
  cases n <;> simp only [Oper.upon] at hh ⊢ <;>
   first
    | exact hh
    | exact Calls.mono hh (fun e w'' he => by
      cases e
      ·exact he
      ·exact h _ _ _ (by simp) he
      ·obtain ⟨a', w3, h3⟩ := he
       exact ⟨a', w3, h _ _ _ (by simp) h3⟩)
 | halt x w' => cases x <;> simp only [Oper.upon] at hh ⊢ <;> first | exact hh | exact h _ _ _ (by simp) hh
structure VX (C : Cx) (ops : Array Oper) (Q : Exit → PS → Prop) (fuel : Nat) (listed : Array Bool) (s : PS) : Prop where
 out : ∀ M a w, Rel C.w0 C.O0 C.n M s a w → wpAny C.P .any ops (fun e a' w' => ∃ s' M', Q e s' ∧ Rel C.w0 C.O0 C.n M' s' a' w') fuel listed a w
section
variable {C : Cx} {ops : Array Oper} {Q : Exit → PS → Prop} {s : PS} {fuel : Nat} {listed : Array Bool}
theorem vRegionX {id : Nat} {l : List Oper} (hm : C.P.follows .mixedOrders = true) (h : VX C l.toArray Q l.length (Array.replicate l.length false) s) : VC C (.region id l.toArray true) Q s :=
 ⟨fun M a w hr => wp_region_any hm (by rw [List.size_toArray]; exact h.out M a _ hr.drew)⟩
def AllX (C : Cx) (ops : Array Oper) (Q : Exit → PS → Prop) (fuel : Nat) (listed : Array Bool) (s : PS) : List Nat → Prop
 | [] => True
 | i :: l => (∃ o, ops.toList[i]? = some o ∧ VO C ops (VX C ops Q fuel (listed.setIfInBounds i true)) [o] s) ∧ AllX C ops Q fuel listed s l
theorem allX_mem : ∀ {l : List Nat} {i : Nat}, AllX C ops Q fuel listed s l → i ∈ l → ∃ o, ops.toList[i]? = some o ∧ VO C ops (VX C ops Q fuel (listed.setIfInBounds i true)) [o] s
 | _ :: l, i, h, hi => by
  rcases List.mem_cons.1 hi with rfl | hi
  ·exact h.1
  ·exact allX_mem h.2 hi
theorem xStep (rs : List Nat) (hr : Region.ready .any ops listed = rs) (hne : rs.isEmpty = false) (h : AllX C ops Q fuel listed s rs) : VX C ops Q (fuel + 1) listed s := ⟨fun M a w hrl => by
 refine ⟨fun h0 => ?_, fun i hi => ?_⟩
 ·rw [hr] at h0; subst h0; cases hne
 ·rw [hr] at hi
  obtain ⟨o, ho, hv⟩ := allX_mem h hi
  have ho' : ops[i]? = some o := by rw [← Array.getElem?_toList]; exact ho
  let Q' : Exit → Act → World → Prop := fun e a' w' => match e with | .normal => wpAny C.P .any ops (fun e a' w' => ∃ s' M', Q e s' ∧ Rel C.w0 C.O0 C.n M' s' a' w') fuel (listed.setIfInBounds i true) a' w' | _ => False
  have hl := hv.out M a w Q' hrl fun M' s' a' w' hk hr' => hk.out M' a' w' hr'
  have hF : ∀ e a w, e ≠ .normal → Q' e a w → ∀ (X : Prop), X := fun e a w he h X => by cases e <;> first | exact absurd rfl he | exact h.elim
  unfold wpOp
  rw [ho']
  simp only [wpList] at hl
  by_cases hw : Region.wanted o (yielded ops a.tmps) = true
  ·rw [if_pos hw] at hl
   simp only [hw, if_true]
   rcases hl with hl | ⟨_, hl⟩
   ·exact .inl (wp_only (Q := Q') (fun e a w he h => hF e a w he h _) hl)
   ·obtain ⟨a', w', h'⟩ := hl; exact h'.elim
  ·rw [if_neg hw] at hl
   simp only [hw]
   exact hl⟩
theorem xDone (hr : Region.ready .any ops listed = []) (h : Q .normal s) : VX C ops Q fuel listed s := ⟨fun M a w hrl => by
 cases fuel with
 | zero => exact ⟨hr, _, _, h, hrl⟩
 | succ fuel => exact ⟨fun _ => ⟨_, _, h, hrl⟩, fun i hi => by rw [hr] at hi; cases hi⟩⟩
theorem xNil {i : Nat} {l : List Nat} {o : Oper} (ho : ops.toList[i]? = some o) (h1 : VO C ops (VX C ops Q fuel (listed.setIfInBounds i true)) [o] s) (h2 : AllX C ops Q fuel listed s l) : AllX C ops Q fuel listed s (i :: l) := ⟨⟨o, ho, h1⟩, h2⟩
theorem xJoin {c : Code} {J : PS} (h : VC C c (fun e s => match e with | .normal => En C s J | _ => False) s) (hJ : Q .normal J) : VC C c Q s := ⟨fun M a w hr => by
 refine Code.wp_mono ?_ (h.out M a w hr)
 rintro e a' w' ⟨s', M', hq, hr'⟩
 cases e with
 | normal =>
  obtain ⟨M'', hr''⟩ := hq.out M' a' w' hr'
  exact ⟨J, M'', hJ, hr''⟩
 | _ => exact hq.elim⟩
end
section
variable {C : Cx} {tm : List (Nat × D)} {rw' : List (Nat × Option (TypeId × Sq))} {bx : List (Nat × Option (List D))} {s' : PS}
end
end Go.Proofs.Ytgindcgphnbnaaa
namespace Go.Proofs.Ytgindcgphnbnaaa
open Go.RowKit Go.Deep
def I_PosesOf_1_l2 (N : Nat) (i_0 : Int) (l_2 : Lnk) (rec_99 : Int → (List Int) → Lnk → (List (Int × Int)) → (List (List (Int × Int))) → Option ((List Int) × (List (Int × Int)) × (List (List (Int × Int))))) (x87 : Int) (k : ((List Int) × (List (Int × Int)) × (List (List (Int × Int)))) → Option ((List Int) × (List (Int × Int)) × (List (List (Int × Int))))) : Nat → ((List Int) × (List (Int × Int)) × (List (List (Int × Int))) × Int) → Option ((List Int) × (List (Int × Int)) × (List (List (Int × Int))))
 | 0, _ => none
 | n + 1, (l118, l119, l120, x121) =>
  cnd (decide (x121 < (5 : Int))) (
   grd (0 ≤ i_0 ∧ i_0 < (l118.length : Int)) <|
   grd (0 ≤ (l118.getD ((i_0).toNat) 0) ∧ (l118.getD ((i_0).toNat) 0) < (l119.length : Int)) <|
   grd (Rg64 (i_0 + (1 : Int))) <|
   grd (l119.length = ((l119.set (((l118.getD ((i_0).toNat) 0)).toNat) (x121, (l119.getD (((l118.getD ((i_0).toNat) 0)).toNat) (0, 0)).2)).set (((l118.getD ((i_0).toNat) 0)).toNat) (((l119.set (((l118.getD ((i_0).toNat) 0)).toNat) (x121, (l119.getD (((l118.getD ((i_0).toNat) 0)).toNat) (0, 0)).2)).getD (((l118.getD ((i_0).toNat) 0)).toNat) (0, 0)).1, x87)).length) <|
   (rec_99 (i_0 + (1 : Int)) l118 l_2 ((l119.set (((l118.getD ((i_0).toNat) 0)).toNat) (x121, (l119.getD (((l118.getD ((i_0).toNat) 0)).toNat) (0, 0)).2)).set (((l118.getD ((i_0).toNat) 0)).toNat) (((l119.set (((l118.getD ((i_0).toNat) 0)).toNat) (x121, (l119.getD (((l118.getD ((i_0).toNat) 0)).toNat) (0, 0)).2)).getD (((l118.getD ((i_0).toNat) 0)).toNat) (0, 0)).1, x87)) l120).bind fun v123 =>
   grd (Rg64 (x121 + (1 : Int))) <|
   I_PosesOf_1_l2 N i_0 l_2 rec_99 x87 k n (v123.1, v123.2.1, v123.2.2, (x121 + (1 : Int)))) (
   k (l118, l119, l120))
def I_PosesOf_1_l1 (N : Nat) (i_0 : Int) (l_2 : Lnk) (rec_99 : Int → (List Int) → Lnk → (List (Int × Int)) → (List (List (Int × Int))) → Option ((List Int) × (List (Int × Int)) × (List (List (Int × Int))))) (k : ((List Int) × (List (Int × Int)) × (List (List (Int × Int)))) → Option ((List Int) × (List (Int × Int)) × (List (List (Int × Int))))) : Nat → ((List Int) × (List (Int × Int)) × (List (List (Int × Int))) × Int) → Option ((List Int) × (List (Int × Int)) × (List (List (Int × Int))))
 | 0, _ => none
 | n + 1, (l84, l85, l86, x87) =>
  cnd (decide (x87 < (5 : Int))) (
   I_PosesOf_1_l2 N i_0 l_2 rec_99 x87 (fun (x : (List Int) × (List (Int × Int)) × (List (List (Int × Int)))) =>
     match x with
     | (l113, l114, l115) =>
      grd (Rg64 (x87 + (1 : Int))) <|
      I_PosesOf_1_l1 N i_0 l_2 rec_99 k n (l113, l114, l115, (x87 + (1 : Int)))) N (l84, l85, l86, (0 : Int))) (
   k (l84, l85, l86))
def I_PosesOf_1_b (N : Nat) (rec_99 : Int → (List Int) → Lnk → (List (Int × Int)) → (List (List (Int × Int))) → Option ((List Int) × (List (Int × Int)) × (List (List (Int × Int))))) (i_0 : Int) (free_1 : List Int) (l_2 : Lnk) (at_3 : List (Int × Int)) (out_4 : List (List (Int × Int))) : Option ((List Int) × (List (Int × Int)) × (List (List (Int × Int)))) :=
 cnd (i_0 == (free_1.length : Int)) (
  (I_IsPose N l_2 at_3).bind fun v1 =>
  jn (fun (l2 : List (List (Int × Int))) =>
     some (free_1, at_3, l2)) fun k3 =>
   cnd v1 (
    grd (((at_3.take (0 + at_3.length)).drop 0).length ≤ 4294967296) <|
    grd (out_4.length + 1 ≤ 4294967296) <|
    k3 (out_4 ++ [(([] : List (Int × Int)) ++ ((at_3.take (0 + at_3.length)).drop 0))])) (
    k3 out_4)) (
  I_PosesOf_1_l1 N i_0 l_2 rec_99 (fun (x : (List Int) × (List (Int × Int)) × (List (List (Int × Int)))) =>
    match x with
    | (l62, l63, l64) =>
     some (l62, l63, l64)) N (free_1, at_3, out_4, (0 : Int)))
def I_PosesOf_1_r (N : Nat) : Nat → Int → (List Int) → Lnk → (List (Int × Int)) → (List (List (Int × Int))) → Option ((List Int) × (List (Int × Int)) × (List (List (Int × Int))))
 | 0, _, _, _, _, _ => none
 | d + 1, i_0, free_1, l_2, at_3, out_4 => I_PosesOf_1_b N (I_PosesOf_1_r N d) i_0 free_1 l_2 at_3 out_4
def I_PosesOf_1 (N : Nat) (i_0 : Int) (free_1 : List Int) (l_2 : Lnk) (at_3 : List (Int × Int)) (out_4 : List (List (Int × Int))) : Option ((List Int) × (List (Int × Int)) × (List (List (Int × Int)))) := I_PosesOf_1_r N N i_0 free_1 l_2 at_3 out_4
set_option maxRecDepth 20000 in
set_option maxHeartbeats 1600000 in
theorem I_PosesOf_1_bw (N : Nat) (rec_99 : Int → (List Int) → Lnk → (List (Int × Int)) → (List (List (Int × Int))) → Option ((List Int) × (List (Int × Int)) × (List (List (Int × Int))))) (hrec : ∀ (i_0 : Int) (free_1 : List Int) (l_2 : Lnk) (at_3 : List (Int × Int)) (out_4 : List (List (Int × Int))) (r : (List Int) × (List (Int × Int)) × (List (List (Int × Int)))), rec_99 i_0 free_1 l_2 at_3 out_4 = some r → MCall Try.prog 104 [.int i_0, .ptr 1000001 0, .ptr 1000002 0, .ptr 1000003 0, .ptr 1000004 0, .ptr 1000005 0] [900010, 900030, 900040, 8589934602] [1000001, 1000002, 1000003, 1000004, 1000005] [(3, .ints free_1), (118, .pairs at_3), (62, dR 10 (.pairss out_4)), (118, dF (.pairss out_4))] [(3, .ints r.1), (118, .pairs r.2.1), (62, dR 10 (.pairss r.2.2)), (118, dF (.pairss r.2.2))] [[.row 900010 0 free_1.length], [.int l_2.f.g.n, .ro false (.pairs l_2.f.g.bars), .ro false (.pairs l_2.f.places), .ro false (.ints l_2.ground)], [.row 900030 0 at_3.length], [.row 900040 0 out_4.length], [.clo 104 [1000001, 1000002, 1000003, 1000004, 1000005]]] [[.row 900010 0 r.1.length], [.int l_2.f.g.n, .ro false (.pairs l_2.f.g.bars), .ro false (.pairs l_2.f.places), .ro false (.ints l_2.ground)], [.row 900030 0 r.2.1.length], [.row 900040 0 r.2.2.length], [.clo 104 [1000001, 1000002, 1000003, 1000004, 1000005]]] (.tup [])) (i_0 : Int) (free_1 : List Int) (l_2 : Lnk) (at_3 : List (Int × Int)) (out_4 : List (List (Int × Int))) (r : (List Int) × (List (Int × Int)) × (List (List (Int × Int)))) (h : I_PosesOf_1_b N rec_99 i_0 free_1 l_2 at_3 out_4 = some r) : MCall Try.prog 104 [.int i_0, .ptr 1000001 0, .ptr 1000002 0, .ptr 1000003 0, .ptr 1000004 0, .ptr 1000005 0] [900010, 900030, 900040, 8589934602] [1000001, 1000002, 1000003, 1000004, 1000005] [(3, .ints free_1), (118, .pairs at_3), (62, dR 10 (.pairss out_4)), (118, dF (.pairss out_4))] [(3, .ints r.1), (118, .pairs r.2.1), (62, dR 10 (.pairss r.2.2)), (118, dF (.pairss r.2.2))] [[.row 900010 0 free_1.length], [.int l_2.f.g.n, .ro false (.pairs l_2.f.g.bars), .ro false (.pairs l_2.f.places), .ro false (.ints l_2.ground)], [.row 900030 0 at_3.length], [.row 900040 0 out_4.length], [.clo 104 [1000001, 1000002, 1000003, 1000004, 1000005]]] [[.row 900010 0 r.1.length], [.int l_2.f.g.n, .ro false (.pairs l_2.f.g.bars), .ro false (.pairs l_2.f.places), .ro false (.ints l_2.ground)], [.row 900030 0 r.2.1.length], [.row 900040 0 r.2.2.length], [.clo 104 [1000001, 1000002, 1000003, 1000004, 1000005]]] (.tup []) := by
 unfold I_PosesOf_1_b at h
 refine mcall_intro (TT := TT) tt Try.func104 rfl rfl Try.ntmps104 (congrArg Array.toList Try.results104) rfl rfl rfl rfl rfl fun w0 O0 => ?_
 iterate 2 refine vSeq ?_
 refine vRegion ?_
 iterate 4 refine oVal tt rfl rfl rfl rfl rfl trivial ?_
 refine vNil ?_
 change VC _ _ _ _
 refine vCond rfl (fun hb1 => ?_) (fun hb1 => ?_)
 ·replace h := cnd_t hb1 h
  iterate 2 refine vSeq ?_
  refine vRegion ?_
  iterate 2 refine oVal tt rfl rfl rfl rfl rfl trivial ?_
  obtain ⟨v1, hc2, h⟩ := bind_inv h
  refine oCall (I_IsPose_w N l_2 at_3 v1 hc2) rfl rfl rfl rfl rfl rfl rfl rfl ⟨⟨rfl, rfl, rfl, rfl, trivial⟩, (.inl ⟨rfl, rfl⟩), trivial⟩ ?_
  refine vNil ?_
  change VC _ _ _ _
  refine vJoinN h (α := List (List (Int × Int))) (J := fun (l2 : List (List (Int × Int))) => (⟨[], [(900010, some (3, .ints free_1)), (900030, some (118, .pairs at_3)), (900040, some (62, dR 10 (.pairss l2))), (8589934602, some (118, dF (.pairss l2)))], [(1000001, some [.row 900010 0 free_1.length]), (1000002, some [.int l_2.f.g.n, .ro false (.pairs l_2.f.g.bars), .ro false (.pairs l_2.f.places), .ro false (.ints l_2.ground)]), (1000003, some [.row 900030 0 at_3.length]), (1000004, some [.row 900040 0 l2.length]), (1000005, some [.clo 104 [1000001, 1000002, 1000003, 1000004, 1000005]])]⟩ : PS)) ?_ ?_
  ·rintro l2 h
   show VC _ _ _ (⟨[], [(900010, some (3, .ints free_1)), (900030, some (118, .pairs at_3)), (900040, some (62, dR 10 (.pairss l2))), (8589934602, some (118, dF (.pairss l2)))], [(1000001, some [.row 900010 0 free_1.length]), (1000002, some [.int l_2.f.g.n, .ro false (.pairs l_2.f.g.bars), .ro false (.pairs l_2.f.places), .ro false (.ints l_2.ground)]), (1000003, some [.row 900030 0 at_3.length]), (1000004, some [.row 900040 0 l2.length]), (1000005, some [.clo 104 [1000001, 1000002, 1000003, 1000004, 1000005]])]⟩ : PS)
   refine vRet ?_
   change ∃ _, _
   cases h
   exact ⟨[900010, 900030, 900040, 8589934602], rfl, ⟨rfl, rfl, rfl, rfl, trivial⟩, ⟨rfl, rfl, rfl, rfl, rfl, trivial⟩, rfl⟩
  ·intro k3 h
   refine vCond rfl (fun hb3 => ?_) (fun hb3 => ?_)
   ·replace h := cnd_t hb3 h
    obtain ⟨hg4, h⟩ := grd_inv h
    obtain ⟨hg5, h⟩ := grd_inv h
    refine xJoin (J := (⟨[], [(900010, some (3, .ints free_1)), (900030, some (118, .pairs at_3)), (900040, some (62, dR 10 (.pairss (out_4 ++ [(([] : List (Int × Int)) ++ ((at_3.take (0 + at_3.length)).drop 0))])))), (8589934602, some (118, dF (.pairss (out_4 ++ [(([] : List (Int × Int)) ++ ((at_3.take (0 + at_3.length)).drop 0))]))))], [(1000001, some [.row 900010 0 free_1.length]), (1000002, some [.int l_2.f.g.n, .ro false (.pairs l_2.f.g.bars), .ro false (.pairs l_2.f.places), .ro false (.ints l_2.ground)]), (1000003, some [.row 900030 0 at_3.length]), (1000004, some [.row 900040 0 ((out_4 ++ [(([] : List (Int × Int)) ++ ((at_3.take (0 + at_3.length)).drop 0))]).length)]), (1000005, some [.clo 104 [1000001, 1000002, 1000003, 1000004, 1000005]])]⟩ : PS)) ?_ ?_
    ·refine vRegionX (by kernel_rfl) ?_
     refine xStep [0, 1, 2] (by kernel_rfl) rfl ?_
     refine xNil rfl ?_ ?_
     ·refine oVal tt rfl rfl rfl rfl rfl trivial ?_
      refine vNil ?_
      change VX _ _ _ _ _ _
      refine xStep [1, 2] (by kernel_rfl) rfl ?_
      refine xNil rfl ?_ ?_
      ·refine oEmpty tt (wNone rfl) rfl rfl rfl rfl ?_
       refine vNil ?_
       change VX _ _ _ _ _ _
       refine xStep [2] (by kernel_rfl) rfl ?_
       refine xNil rfl ?_ ?_
       ·refine oVal tt rfl rfl rfl rfl rfl trivial ?_
        refine vNil ?_
        change VX _ _ _ _ _ _
        refine xStep [3] (by kernel_rfl) rfl ?_
        refine xNil rfl ?_ ?_
        ·refine oAppendNil tt rfl rfl rfl rfl rfl rfl rfl rfl rfl rfl rfl rfl rfl rfl rfl (Nat.le_of_eq (Nat.zero_add _)) hg4 ?_
         refine vNil ?_
         change VX _ _ _ _ _ _
         refine xStep [4] (by kernel_rfl) rfl ?_
         refine xNil rfl ?_ ?_
         ·refine vEnO (En.adopt 19 19 900040 10 (q := (.pairss out_4)) rfl rfl rfl rfl rfl rfl (by simp [Sq.len, Fq.len, famOf, Fq.hole]) (pushP _ _) rfl (d' := .irow 10 out_4.length (([] : List (Int × Int)) ++ ((at_3.take (0 + at_3.length)).drop 0)).length) (by simp [Fq.len]) rfl) ?_
          refine oBuildI tt rfl rfl rfl rfl rfl rfl rfl rfl rfl rfl ?_
          refine vNil ?_
          change VX _ _ _ _ _ _
          refine xStep [5] (by kernel_rfl) rfl ?_
          refine xNil rfl ?_ ?_
          ·refine oAppendD (.pairss (out_4 ++ [(([] : List (Int × Int)) ++ ((at_3.take (0 + at_3.length)).drop 0))])) tt (q := (.pairss out_4)) rfl rfl rfl rfl rfl rfl rfl rfl (Nat.le_of_eq (Nat.zero_add _)) rfl rfl rfl rfl rfl rfl rfl (appP 10 out_4 (([] : List (Int × Int)) ++ ((at_3.take (0 + at_3.length)).drop 0))) hg5 ?_
           refine vNil ?_
           change VX _ _ _ _ _ _
           refine xStep [6] (by kernel_rfl) rfl ?_
           refine xNil rfl ?_ ?_
           ·refine oStore tt rfl rfl rfl rfl rfl rfl rfl rfl rfl rfl rfl ⟨trivial, trivial⟩ ?_
            refine vNil ?_
            change VX _ _ _ _ _ _
            refine xDone (by kernel_rfl) ?_
            change En _ _ _
            exact (En.of trivial ⟨rfl, rfl, rfl, rfl, trivial⟩ ⟨rfl, rfl, rfl, rfl, rfl, trivial⟩)
           exact trivial
          exact trivial
         exact trivial
        exact trivial
       exact trivial
      refine xNil rfl ?_ ?_
      ·refine oVal tt rfl rfl rfl rfl rfl trivial ?_
       refine vNil ?_
       change VX _ _ _ _ _ _
       refine xStep [1] (by kernel_rfl) rfl ?_
       refine xNil rfl ?_ ?_
       ·refine oEmpty tt (wNone rfl) rfl rfl rfl rfl ?_
        refine vNil ?_
        change VX _ _ _ _ _ _
        refine xStep [3] (by kernel_rfl) rfl ?_
        refine xNil rfl ?_ ?_
        ·refine oAppendNil tt rfl rfl rfl rfl rfl rfl rfl rfl rfl rfl rfl rfl rfl rfl rfl (Nat.le_of_eq (Nat.zero_add _)) hg4 ?_
         refine vNil ?_
         change VX _ _ _ _ _ _
         refine xStep [4] (by kernel_rfl) rfl ?_
         refine xNil rfl ?_ ?_
         ·refine vEnO (En.adopt 19 19 900040 10 (q := (.pairss out_4)) rfl rfl rfl rfl rfl rfl (by simp [Sq.len, Fq.len, famOf, Fq.hole]) (pushP _ _) rfl (d' := .irow 10 out_4.length (([] : List (Int × Int)) ++ ((at_3.take (0 + at_3.length)).drop 0)).length) (by simp [Fq.len]) rfl) ?_
          refine oBuildI tt rfl rfl rfl rfl rfl rfl rfl rfl rfl rfl ?_
          refine vNil ?_
          change VX _ _ _ _ _ _
          refine xStep [5] (by kernel_rfl) rfl ?_
          refine xNil rfl ?_ ?_
          ·refine oAppendD (.pairss (out_4 ++ [(([] : List (Int × Int)) ++ ((at_3.take (0 + at_3.length)).drop 0))])) tt (q := (.pairss out_4)) rfl rfl rfl rfl rfl rfl rfl rfl (Nat.le_of_eq (Nat.zero_add _)) rfl rfl rfl rfl rfl rfl rfl (appP 10 out_4 (([] : List (Int × Int)) ++ ((at_3.take (0 + at_3.length)).drop 0))) hg5 ?_
           refine vNil ?_
           change VX _ _ _ _ _ _
           refine xStep [6] (by kernel_rfl) rfl ?_
           refine xNil rfl ?_ ?_
           ·refine oStore tt rfl rfl rfl rfl rfl rfl rfl rfl rfl rfl rfl ⟨trivial, trivial⟩ ?_
            refine vNil ?_
            change VX _ _ _ _ _ _
            refine xDone (by kernel_rfl) ?_
            change En _ _ _
            exact (En.of trivial ⟨rfl, rfl, rfl, rfl, trivial⟩ ⟨rfl, rfl, rfl, rfl, rfl, trivial⟩)
           exact trivial
          exact trivial
         exact trivial
        exact trivial
       exact trivial
      exact trivial
     refine xNil rfl ?_ ?_
     ·refine oEmpty tt (wNone rfl) rfl rfl rfl rfl ?_
      refine vNil ?_
      change VX _ _ _ _ _ _
      refine xStep [0, 2] (by kernel_rfl) rfl ?_
      refine xNil rfl ?_ ?_
      ·refine oVal tt rfl rfl rfl rfl rfl trivial ?_
       refine vNil ?_
       change VX _ _ _ _ _ _
       refine xStep [2] (by kernel_rfl) rfl ?_
       refine xNil rfl ?_ ?_
       ·refine oVal tt rfl rfl rfl rfl rfl trivial ?_
        refine vNil ?_
        change VX _ _ _ _ _ _
        refine xStep [3] (by kernel_rfl) rfl ?_
        refine xNil rfl ?_ ?_
        ·refine oAppendNil tt rfl rfl rfl rfl rfl rfl rfl rfl rfl rfl rfl rfl rfl rfl rfl (Nat.le_of_eq (Nat.zero_add _)) hg4 ?_
         refine vNil ?_
         change VX _ _ _ _ _ _
         refine xStep [4] (by kernel_rfl) rfl ?_
         refine xNil rfl ?_ ?_
         ·refine vEnO (En.adopt 19 19 900040 10 (q := (.pairss out_4)) rfl rfl rfl rfl rfl rfl (by simp [Sq.len, Fq.len, famOf, Fq.hole]) (pushP _ _) rfl (d' := .irow 10 out_4.length (([] : List (Int × Int)) ++ ((at_3.take (0 + at_3.length)).drop 0)).length) (by simp [Fq.len]) rfl) ?_
          refine oBuildI tt rfl rfl rfl rfl rfl rfl rfl rfl rfl rfl ?_
          refine vNil ?_
          change VX _ _ _ _ _ _
          refine xStep [5] (by kernel_rfl) rfl ?_
          refine xNil rfl ?_ ?_
          ·refine oAppendD (.pairss (out_4 ++ [(([] : List (Int × Int)) ++ ((at_3.take (0 + at_3.length)).drop 0))])) tt (q := (.pairss out_4)) rfl rfl rfl rfl rfl rfl rfl rfl (Nat.le_of_eq (Nat.zero_add _)) rfl rfl rfl rfl rfl rfl rfl (appP 10 out_4 (([] : List (Int × Int)) ++ ((at_3.take (0 + at_3.length)).drop 0))) hg5 ?_
           refine vNil ?_
           change VX _ _ _ _ _ _
           refine xStep [6] (by kernel_rfl) rfl ?_
           refine xNil rfl ?_ ?_
           ·refine oStore tt rfl rfl rfl rfl rfl rfl rfl rfl rfl rfl rfl ⟨trivial, trivial⟩ ?_
            refine vNil ?_
            change VX _ _ _ _ _ _
            refine xDone (by kernel_rfl) ?_
            change En _ _ _
            exact (En.of trivial ⟨rfl, rfl, rfl, rfl, trivial⟩ ⟨rfl, rfl, rfl, rfl, rfl, trivial⟩)
           exact trivial
          exact trivial
         exact trivial
        exact trivial
       exact trivial
      refine xNil rfl ?_ ?_
      ·refine oVal tt rfl rfl rfl rfl rfl trivial ?_
       refine vNil ?_
       change VX _ _ _ _ _ _
       refine xStep [0, 3] (by kernel_rfl) rfl ?_
       refine xNil rfl ?_ ?_
       ·refine oVal tt rfl rfl rfl rfl rfl trivial ?_
        refine vNil ?_
        change VX _ _ _ _ _ _
        refine xStep [3] (by kernel_rfl) rfl ?_
        refine xNil rfl ?_ ?_
        ·refine oAppendNil tt rfl rfl rfl rfl rfl rfl rfl rfl rfl rfl rfl rfl rfl rfl rfl (Nat.le_of_eq (Nat.zero_add _)) hg4 ?_
         refine vNil ?_
         change VX _ _ _ _ _ _
         refine xStep [4] (by kernel_rfl) rfl ?_
         refine xNil rfl ?_ ?_
         ·refine vEnO (En.adopt 19 19 900040 10 (q := (.pairss out_4)) rfl rfl rfl rfl rfl rfl (by simp [Sq.len, Fq.len, famOf, Fq.hole]) (pushP _ _) rfl (d' := .irow 10 out_4.length (([] : List (Int × Int)) ++ ((at_3.take (0 + at_3.length)).drop 0)).length) (by simp [Fq.len]) rfl) ?_
          refine oBuildI tt rfl rfl rfl rfl rfl rfl rfl rfl rfl rfl ?_
          refine vNil ?_
          change VX _ _ _ _ _ _
          refine xStep [5] (by kernel_rfl) rfl ?_
          refine xNil rfl ?_ ?_
          ·refine oAppendD (.pairss (out_4 ++ [(([] : List (Int × Int)) ++ ((at_3.take (0 + at_3.length)).drop 0))])) tt (q := (.pairss out_4)) rfl rfl rfl rfl rfl rfl rfl rfl (Nat.le_of_eq (Nat.zero_add _)) rfl rfl rfl rfl rfl rfl rfl (appP 10 out_4 (([] : List (Int × Int)) ++ ((at_3.take (0 + at_3.length)).drop 0))) hg5 ?_
           refine vNil ?_
           change VX _ _ _ _ _ _
           refine xStep [6] (by kernel_rfl) rfl ?_
           refine xNil rfl ?_ ?_
           ·refine oStore tt rfl rfl rfl rfl rfl rfl rfl rfl rfl rfl rfl ⟨trivial, trivial⟩ ?_
            refine vNil ?_
            change VX _ _ _ _ _ _
            refine xDone (by kernel_rfl) ?_
            change En _ _ _
            exact (En.of trivial ⟨rfl, rfl, rfl, rfl, trivial⟩ ⟨rfl, rfl, rfl, rfl, rfl, trivial⟩)
           exact trivial
          exact trivial
         exact trivial
        exact trivial
       refine xNil rfl ?_ ?_
       ·refine oAppendNil tt rfl rfl rfl rfl rfl rfl rfl rfl rfl rfl rfl rfl rfl rfl rfl (Nat.le_of_eq (Nat.zero_add _)) hg4 ?_
        refine vNil ?_
        change VX _ _ _ _ _ _
        refine xStep [0, 4] (by kernel_rfl) rfl ?_
        refine xNil rfl ?_ ?_
        ·refine oVal tt rfl rfl rfl rfl rfl trivial ?_
         refine vNil ?_
         change VX _ _ _ _ _ _
         refine xStep [4] (by kernel_rfl) rfl ?_
         refine xNil rfl ?_ ?_
         ·refine vEnO (En.adopt 19 19 900040 10 (q := (.pairss out_4)) rfl rfl rfl rfl rfl rfl (by simp [Sq.len, Fq.len, famOf, Fq.hole]) (pushP _ _) rfl (d' := .irow 10 out_4.length (([] : List (Int × Int)) ++ ((at_3.take (0 + at_3.length)).drop 0)).length) (by simp [Fq.len]) rfl) ?_
          refine oBuildI tt rfl rfl rfl rfl rfl rfl rfl rfl rfl rfl ?_
          refine vNil ?_
          change VX _ _ _ _ _ _
          refine xStep [5] (by kernel_rfl) rfl ?_
          refine xNil rfl ?_ ?_
          ·refine oAppendD (.pairss (out_4 ++ [(([] : List (Int × Int)) ++ ((at_3.take (0 + at_3.length)).drop 0))])) tt (q := (.pairss out_4)) rfl rfl rfl rfl rfl rfl rfl rfl (Nat.le_of_eq (Nat.zero_add _)) rfl rfl rfl rfl rfl rfl rfl (appP 10 out_4 (([] : List (Int × Int)) ++ ((at_3.take (0 + at_3.length)).drop 0))) hg5 ?_
           refine vNil ?_
           change VX _ _ _ _ _ _
           refine xStep [6] (by kernel_rfl) rfl ?_
           refine xNil rfl ?_ ?_
           ·refine oStore tt rfl rfl rfl rfl rfl rfl rfl rfl rfl rfl rfl ⟨trivial, trivial⟩ ?_
            refine vNil ?_
            change VX _ _ _ _ _ _
            refine xDone (by kernel_rfl) ?_
            change En _ _ _
            exact (En.of trivial ⟨rfl, rfl, rfl, rfl, trivial⟩ ⟨rfl, rfl, rfl, rfl, rfl, trivial⟩)
           exact trivial
          exact trivial
         exact trivial
        refine xNil rfl ?_ ?_
        ·refine vEnO (En.adopt 19 19 900040 10 (q := (.pairss out_4)) rfl rfl rfl rfl rfl rfl (by simp [Sq.len, Fq.len, famOf, Fq.hole]) (pushP _ _) rfl (d' := .irow 10 out_4.length (([] : List (Int × Int)) ++ ((at_3.take (0 + at_3.length)).drop 0)).length) (by simp [Fq.len]) rfl) ?_
         refine oBuildI tt rfl rfl rfl rfl rfl rfl rfl rfl rfl rfl ?_
         refine vNil ?_
         change VX _ _ _ _ _ _
         refine xStep [0] (by kernel_rfl) rfl ?_
         refine xNil rfl ?_ ?_
         ·refine oVal tt rfl rfl rfl rfl rfl trivial ?_
          refine vNil ?_
          change VX _ _ _ _ _ _
          refine xStep [5] (by kernel_rfl) rfl ?_
          refine xNil rfl ?_ ?_
          ·refine oAppendD (.pairss (out_4 ++ [(([] : List (Int × Int)) ++ ((at_3.take (0 + at_3.length)).drop 0))])) tt (q := (.pairss out_4)) rfl rfl rfl rfl rfl rfl rfl rfl (Nat.le_of_eq (Nat.zero_add _)) rfl rfl rfl rfl rfl rfl rfl (appP 10 out_4 (([] : List (Int × Int)) ++ ((at_3.take (0 + at_3.length)).drop 0))) hg5 ?_
           refine vNil ?_
           change VX _ _ _ _ _ _
           refine xStep [6] (by kernel_rfl) rfl ?_
           refine xNil rfl ?_ ?_
           ·refine oStore tt rfl rfl rfl rfl rfl rfl rfl rfl rfl rfl rfl ⟨trivial, trivial⟩ ?_
            refine vNil ?_
            change VX _ _ _ _ _ _
            refine xDone (by kernel_rfl) ?_
            change En _ _ _
            exact (En.of trivial ⟨rfl, rfl, rfl, rfl, trivial⟩ ⟨rfl, rfl, rfl, rfl, rfl, trivial⟩)
           exact trivial
          exact trivial
         exact trivial
        exact trivial
       exact trivial
      exact trivial
     refine xNil rfl ?_ ?_
     ·refine oVal tt rfl rfl rfl rfl rfl trivial ?_
      refine vNil ?_
      change VX _ _ _ _ _ _
      refine xStep [0, 1] (by kernel_rfl) rfl ?_
      refine xNil rfl ?_ ?_
      ·refine oVal tt rfl rfl rfl rfl rfl trivial ?_
       refine vNil ?_
       change VX _ _ _ _ _ _
       refine xStep [1] (by kernel_rfl) rfl ?_
       refine xNil rfl ?_ ?_
       ·refine oEmpty tt (wNone rfl) rfl rfl rfl rfl ?_
        refine vNil ?_
        change VX _ _ _ _ _ _
        refine xStep [3] (by kernel_rfl) rfl ?_
        refine xNil rfl ?_ ?_
        ·refine oAppendNil tt rfl rfl rfl rfl rfl rfl rfl rfl rfl rfl rfl rfl rfl rfl rfl (Nat.le_of_eq (Nat.zero_add _)) hg4 ?_
         refine vNil ?_
         change VX _ _ _ _ _ _
         refine xStep [4] (by kernel_rfl) rfl ?_
         refine xNil rfl ?_ ?_
         ·refine vEnO (En.adopt 19 19 900040 10 (q := (.pairss out_4)) rfl rfl rfl rfl rfl rfl (by simp [Sq.len, Fq.len, famOf, Fq.hole]) (pushP _ _) rfl (d' := .irow 10 out_4.length (([] : List (Int × Int)) ++ ((at_3.take (0 + at_3.length)).drop 0)).length) (by simp [Fq.len]) rfl) ?_
          refine oBuildI tt rfl rfl rfl rfl rfl rfl rfl rfl rfl rfl ?_
          refine vNil ?_
          change VX _ _ _ _ _ _
          refine xStep [5] (by kernel_rfl) rfl ?_
          refine xNil rfl ?_ ?_
          ·refine oAppendD (.pairss (out_4 ++ [(([] : List (Int × Int)) ++ ((at_3.take (0 + at_3.length)).drop 0))])) tt (q := (.pairss out_4)) rfl rfl rfl rfl rfl rfl rfl rfl (Nat.le_of_eq (Nat.zero_add _)) rfl rfl rfl rfl rfl rfl rfl (appP 10 out_4 (([] : List (Int × Int)) ++ ((at_3.take (0 + at_3.length)).drop 0))) hg5 ?_
           refine vNil ?_
           change VX _ _ _ _ _ _
           refine xStep [6] (by kernel_rfl) rfl ?_
           refine xNil rfl ?_ ?_
           ·refine oStore tt rfl rfl rfl rfl rfl rfl rfl rfl rfl rfl rfl ⟨trivial, trivial⟩ ?_
            refine vNil ?_
            change VX _ _ _ _ _ _
            refine xDone (by kernel_rfl) ?_
            change En _ _ _
            exact (En.of trivial ⟨rfl, rfl, rfl, rfl, trivial⟩ ⟨rfl, rfl, rfl, rfl, rfl, trivial⟩)
           exact trivial
          exact trivial
         exact trivial
        exact trivial
       exact trivial
      refine xNil rfl ?_ ?_
      ·refine oEmpty tt (wNone rfl) rfl rfl rfl rfl ?_
       refine vNil ?_
       change VX _ _ _ _ _ _
       refine xStep [0, 3] (by kernel_rfl) rfl ?_
       refine xNil rfl ?_ ?_
       ·refine oVal tt rfl rfl rfl rfl rfl trivial ?_
        refine vNil ?_
        change VX _ _ _ _ _ _
        refine xStep [3] (by kernel_rfl) rfl ?_
        refine xNil rfl ?_ ?_
        ·refine oAppendNil tt rfl rfl rfl rfl rfl rfl rfl rfl rfl rfl rfl rfl rfl rfl rfl (Nat.le_of_eq (Nat.zero_add _)) hg4 ?_
         refine vNil ?_
         change VX _ _ _ _ _ _
         refine xStep [4] (by kernel_rfl) rfl ?_
         refine xNil rfl ?_ ?_
         ·refine vEnO (En.adopt 19 19 900040 10 (q := (.pairss out_4)) rfl rfl rfl rfl rfl rfl (by simp [Sq.len, Fq.len, famOf, Fq.hole]) (pushP _ _) rfl (d' := .irow 10 out_4.length (([] : List (Int × Int)) ++ ((at_3.take (0 + at_3.length)).drop 0)).length) (by simp [Fq.len]) rfl) ?_
          refine oBuildI tt rfl rfl rfl rfl rfl rfl rfl rfl rfl rfl ?_
          refine vNil ?_
          change VX _ _ _ _ _ _
          refine xStep [5] (by kernel_rfl) rfl ?_
          refine xNil rfl ?_ ?_
          ·refine oAppendD (.pairss (out_4 ++ [(([] : List (Int × Int)) ++ ((at_3.take (0 + at_3.length)).drop 0))])) tt (q := (.pairss out_4)) rfl rfl rfl rfl rfl rfl rfl rfl (Nat.le_of_eq (Nat.zero_add _)) rfl rfl rfl rfl rfl rfl rfl (appP 10 out_4 (([] : List (Int × Int)) ++ ((at_3.take (0 + at_3.length)).drop 0))) hg5 ?_
           refine vNil ?_
           change VX _ _ _ _ _ _
           refine xStep [6] (by kernel_rfl) rfl ?_
           refine xNil rfl ?_ ?_
           ·refine oStore tt rfl rfl rfl rfl rfl rfl rfl rfl rfl rfl rfl ⟨trivial, trivial⟩ ?_
            refine vNil ?_
            change VX _ _ _ _ _ _
            refine xDone (by kernel_rfl) ?_
            change En _ _ _
            exact (En.of trivial ⟨rfl, rfl, rfl, rfl, trivial⟩ ⟨rfl, rfl, rfl, rfl, rfl, trivial⟩)
           exact trivial
          exact trivial
         exact trivial
        exact trivial
       refine xNil rfl ?_ ?_
       ·refine oAppendNil tt rfl rfl rfl rfl rfl rfl rfl rfl rfl rfl rfl rfl rfl rfl rfl (Nat.le_of_eq (Nat.zero_add _)) hg4 ?_
        refine vNil ?_
        change VX _ _ _ _ _ _
        refine xStep [0, 4] (by kernel_rfl) rfl ?_
        refine xNil rfl ?_ ?_
        ·refine oVal tt rfl rfl rfl rfl rfl trivial ?_
         refine vNil ?_
         change VX _ _ _ _ _ _
         refine xStep [4] (by kernel_rfl) rfl ?_
         refine xNil rfl ?_ ?_
         ·refine vEnO (En.adopt 19 19 900040 10 (q := (.pairss out_4)) rfl rfl rfl rfl rfl rfl (by simp [Sq.len, Fq.len, famOf, Fq.hole]) (pushP _ _) rfl (d' := .irow 10 out_4.length (([] : List (Int × Int)) ++ ((at_3.take (0 + at_3.length)).drop 0)).length) (by simp [Fq.len]) rfl) ?_
          refine oBuildI tt rfl rfl rfl rfl rfl rfl rfl rfl rfl rfl ?_
          refine vNil ?_
          change VX _ _ _ _ _ _
          refine xStep [5] (by kernel_rfl) rfl ?_
          refine xNil rfl ?_ ?_
          ·refine oAppendD (.pairss (out_4 ++ [(([] : List (Int × Int)) ++ ((at_3.take (0 + at_3.length)).drop 0))])) tt (q := (.pairss out_4)) rfl rfl rfl rfl rfl rfl rfl rfl (Nat.le_of_eq (Nat.zero_add _)) rfl rfl rfl rfl rfl rfl rfl (appP 10 out_4 (([] : List (Int × Int)) ++ ((at_3.take (0 + at_3.length)).drop 0))) hg5 ?_
           refine vNil ?_
           change VX _ _ _ _ _ _
           refine xStep [6] (by kernel_rfl) rfl ?_
           refine xNil rfl ?_ ?_
           ·refine oStore tt rfl rfl rfl rfl rfl rfl rfl rfl rfl rfl rfl ⟨trivial, trivial⟩ ?_
            refine vNil ?_
            change VX _ _ _ _ _ _
            refine xDone (by kernel_rfl) ?_
            change En _ _ _
            exact (En.of trivial ⟨rfl, rfl, rfl, rfl, trivial⟩ ⟨rfl, rfl, rfl, rfl, rfl, trivial⟩)
           exact trivial
          exact trivial
         exact trivial
        refine xNil rfl ?_ ?_
        ·refine vEnO (En.adopt 19 19 900040 10 (q := (.pairss out_4)) rfl rfl rfl rfl rfl rfl (by simp [Sq.len, Fq.len, famOf, Fq.hole]) (pushP _ _) rfl (d' := .irow 10 out_4.length (([] : List (Int × Int)) ++ ((at_3.take (0 + at_3.length)).drop 0)).length) (by simp [Fq.len]) rfl) ?_
         refine oBuildI tt rfl rfl rfl rfl rfl rfl rfl rfl rfl rfl ?_
         refine vNil ?_
         change VX _ _ _ _ _ _
         refine xStep [0] (by kernel_rfl) rfl ?_
         refine xNil rfl ?_ ?_
         ·refine oVal tt rfl rfl rfl rfl rfl trivial ?_
          refine vNil ?_
          change VX _ _ _ _ _ _
          refine xStep [5] (by kernel_rfl) rfl ?_
          refine xNil rfl ?_ ?_
          ·refine oAppendD (.pairss (out_4 ++ [(([] : List (Int × Int)) ++ ((at_3.take (0 + at_3.length)).drop 0))])) tt (q := (.pairss out_4)) rfl rfl rfl rfl rfl rfl rfl rfl (Nat.le_of_eq (Nat.zero_add _)) rfl rfl rfl rfl rfl rfl rfl (appP 10 out_4 (([] : List (Int × Int)) ++ ((at_3.take (0 + at_3.length)).drop 0))) hg5 ?_
           refine vNil ?_
           change VX _ _ _ _ _ _
           refine xStep [6] (by kernel_rfl) rfl ?_
           refine xNil rfl ?_ ?_
           ·refine oStore tt rfl rfl rfl rfl rfl rfl rfl rfl rfl rfl rfl ⟨trivial, trivial⟩ ?_
            refine vNil ?_
            change VX _ _ _ _ _ _
            refine xDone (by kernel_rfl) ?_
            change En _ _ _
            exact (En.of trivial ⟨rfl, rfl, rfl, rfl, trivial⟩ ⟨rfl, rfl, rfl, rfl, rfl, trivial⟩)
           exact trivial
          exact trivial
         exact trivial
        exact trivial
       exact trivial
      exact trivial
     exact trivial
    ·change ∃ _, _
     exact ⟨(out_4 ++ [(([] : List (Int × Int)) ++ ((at_3.take (0 + at_3.length)).drop 0))]), (En.of trivial ⟨rfl, rfl, rfl, rfl, trivial⟩ ⟨rfl, rfl, rfl, rfl, rfl, trivial⟩), h⟩
   ·replace h := cnd_f hb3 h
    refine vSkip ?_
    change ∃ _, _
    exact ⟨out_4, (En.of trivial ⟨rfl, rfl, rfl, rfl, trivial⟩ ⟨rfl, rfl, rfl, rfl, rfl, trivial⟩), h⟩
 ·replace h := cnd_f hb1 h
  refine vSkip ?_
  change VC _ _ _ _
  refine vSeq ?_
  refine vRegion ?_
  refine oVal tt rfl rfl rfl rfl rfl trivial ?_
  refine vNil ?_
  change VC _ _ _ _
  refine vJoin (F := fun k => I_PosesOf_1_l1 N i_0 l_2 rec_99 k) h (α := (List Int) × (List (Int × Int)) × (List (List (Int × Int)))) (J := fun | (l62, l63, l64) => (⟨[], [(900010, some (3, .ints l62)), (900030, some (118, .pairs l63)), (900040, some (62, dR 10 (.pairss l64))), (8589934602, some (118, dF (.pairss l64)))], [(1000001, some [.row 900010 0 l62.length]), (1000002, some [.int l_2.f.g.n, .ro false (.pairs l_2.f.g.bars), .ro false (.pairs l_2.f.places), .ro false (.ints l_2.ground)]), (1000003, some [.row 900030 0 l63.length]), (1000004, some [.row 900040 0 l64.length]), (1000005, some [.clo 104 [1000001, 1000002, 1000003, 1000004, 1000005]])]⟩ : PS)) ?_ ?_
  ·rintro ⟨l62, l63, l64⟩ h
   change ∃ _, _
   cases h
   exact ⟨[900010, 900030, 900040, 8589934602], rfl, ⟨rfl, rfl, rfl, rfl, trivial⟩, ⟨rfl, rfl, rfl, rfl, rfl, trivial⟩, rfl⟩
  ·intro k h
   refine vBlock ?_
   refine vLoopS (α := (List Int) × (List (Int × Int)) × (List (List (Int × Int))) × Int) (fun | (l84, l85, l86, x87) => (⟨[(0, .int i_0), (1, .ptr 1000001 0), (3, .ptr 1000003 0), (5, .ptr 1000005 0), (22, .int x87)], [(900010, some (3, .ints l84)), (900030, some (118, .pairs l85)), (900040, some (62, dR 10 (.pairss l86))), (8589934602, some (118, dF (.pairss l86)))], [(1000001, some [.row 900010 0 l84.length]), (1000002, some [.int l_2.f.g.n, .ro false (.pairs l_2.f.g.bars), .ro false (.pairs l_2.f.places), .ro false (.ints l_2.ground)]), (1000003, some [.row 900030 0 l85.length]), (1000004, some [.row 900040 0 l86.length]), (1000005, some [.clo 104 [1000001, 1000002, 1000003, 1000004, 1000005]])]⟩ : PS)) (I_PosesOf_1_l1 N i_0 l_2 rec_99 k) h (En.of ⟨rfl, rfl, rfl, rfl, rfl, trivial⟩ ⟨rfl, rfl, rfl, rfl, trivial⟩ ⟨rfl, rfl, rfl, rfl, rfl, trivial⟩) (fun _ => rfl) ?_
   rintro n ⟨l84, l85, l86, x87⟩ h
   rw [I_PosesOf_1_l1] at h
   show VC _ _ _ (⟨[(0, .int i_0), (1, .ptr 1000001 0), (3, .ptr 1000003 0), (5, .ptr 1000005 0), (22, .int x87)], [(900010, some (3, .ints l84)), (900030, some (118, .pairs l85)), (900040, some (62, dR 10 (.pairss l86))), (8589934602, some (118, dF (.pairss l86)))], [(1000001, some [.row 900010 0 l84.length]), (1000002, some [.int l_2.f.g.n, .ro false (.pairs l_2.f.g.bars), .ro false (.pairs l_2.f.places), .ro false (.ints l_2.ground)]), (1000003, some [.row 900030 0 l85.length]), (1000004, some [.row 900040 0 l86.length]), (1000005, some [.clo 104 [1000001, 1000002, 1000003, 1000004, 1000005]])]⟩ : PS)
   refine vSeq ?_
   refine vRegion ?_
   refine oVal tt rfl rfl rfl rfl rfl trivial ?_
   refine vNil ?_
   change VC _ _ _ _
   refine vSeq ?_
   refine vCond rfl (fun hb6 => ?_) (fun hb6 => ?_)
   ·replace h := cnd_t hb6 h
    refine vSkip ?_
    change VC _ _ _ _
    refine vSeq ?_
    refine vBlock ?_
    refine vSeq ?_
    refine vRegion ?_
    iterate 2 refine oVal tt rfl rfl rfl rfl rfl trivial ?_
    refine vNil ?_
    change VC _ _ _ _
    refine vSeq ?_
    refine vRegion ?_
    refine oVal tt rfl rfl rfl rfl rfl trivial ?_
    refine vNil ?_
    change VC _ _ _ _
    refine vJoin (F := fun k => I_PosesOf_1_l2 N i_0 l_2 rec_99 x87 k) h (α := (List Int) × (List (Int × Int)) × (List (List (Int × Int)))) (J := fun | (l113, l114, l115) => (⟨[(0, .int i_0), (1, .ptr 1000001 0), (3, .ptr 1000003 0), (5, .ptr 1000005 0), (22, .int x87)], [(900010, some (3, .ints l113)), (900030, some (118, .pairs l114)), (900040, some (62, dR 10 (.pairss l115))), (8589934602, some (118, dF (.pairss l115)))], [(1000001, some [.row 900010 0 l113.length]), (1000002, some [.int l_2.f.g.n, .ro false (.pairs l_2.f.g.bars), .ro false (.pairs l_2.f.places), .ro false (.ints l_2.ground)]), (1000003, some [.row 900030 0 l114.length]), (1000004, some [.row 900040 0 l115.length]), (1000005, some [.clo 104 [1000001, 1000002, 1000003, 1000004, 1000005]])]⟩ : PS)) ?_ ?_
    ·rintro ⟨l113, l114, l115⟩ h
     show VC _ _ _ (⟨[(0, .int i_0), (1, .ptr 1000001 0), (3, .ptr 1000003 0), (5, .ptr 1000005 0), (22, .int x87)], [(900010, some (3, .ints l113)), (900030, some (118, .pairs l114)), (900040, some (62, dR 10 (.pairss l115))), (8589934602, some (118, dF (.pairss l115)))], [(1000001, some [.row 900010 0 l113.length]), (1000002, some [.int l_2.f.g.n, .ro false (.pairs l_2.f.g.bars), .ro false (.pairs l_2.f.places), .ro false (.ints l_2.ground)]), (1000003, some [.row 900030 0 l114.length]), (1000004, some [.row 900040 0 l115.length]), (1000005, some [.clo 104 [1000001, 1000002, 1000003, 1000004, 1000005]])]⟩ : PS)
     refine vRegion ?_
     obtain ⟨hg7, h⟩ := grd_inv h
     refine oVal tt rfl rfl rfl rfl rfl hg7 ?_
     refine oVal tt rfl rfl rfl rfl rfl trivial ?_
     refine vNil ?_
     change ∃ _, _
     exact ⟨(l113, l114, l115, (x87 + (1 : Int))), (En.of ⟨rfl, rfl, rfl, rfl, rfl, trivial⟩ ⟨rfl, rfl, rfl, rfl, trivial⟩ ⟨rfl, rfl, rfl, rfl, rfl, trivial⟩), h⟩
    ·intro k h
     refine vBlock ?_
     refine vLoopS (α := (List Int) × (List (Int × Int)) × (List (List (Int × Int))) × Int) (fun | (l118, l119, l120, x121) => (⟨[(0, .int i_0), (1, .ptr 1000001 0), (3, .ptr 1000003 0), (5, .ptr 1000005 0), (7, .int x87), (22, .int x87), (25, .int x121)], [(900010, some (3, .ints l118)), (900030, some (118, .pairs l119)), (900040, some (62, dR 10 (.pairss l120))), (8589934602, some (118, dF (.pairss l120)))], [(1000001, some [.row 900010 0 l118.length]), (1000002, some [.int l_2.f.g.n, .ro false (.pairs l_2.f.g.bars), .ro false (.pairs l_2.f.places), .ro false (.ints l_2.ground)]), (1000003, some [.row 900030 0 l119.length]), (1000004, some [.row 900040 0 l120.length]), (1000005, some [.clo 104 [1000001, 1000002, 1000003, 1000004, 1000005]])]⟩ : PS)) (I_PosesOf_1_l2 N i_0 l_2 rec_99 x87 k) h (En.of ⟨rfl, rfl, rfl, rfl, rfl, rfl, rfl, trivial⟩ ⟨rfl, rfl, rfl, rfl, trivial⟩ ⟨rfl, rfl, rfl, rfl, rfl, trivial⟩) (fun _ => rfl) ?_
     rintro n ⟨l118, l119, l120, x121⟩ h
     rw [I_PosesOf_1_l2] at h
     show VC _ _ _ (⟨[(0, .int i_0), (1, .ptr 1000001 0), (3, .ptr 1000003 0), (5, .ptr 1000005 0), (7, .int x87), (22, .int x87), (25, .int x121)], [(900010, some (3, .ints l118)), (900030, some (118, .pairs l119)), (900040, some (62, dR 10 (.pairss l120))), (8589934602, some (118, dF (.pairss l120)))], [(1000001, some [.row 900010 0 l118.length]), (1000002, some [.int l_2.f.g.n, .ro false (.pairs l_2.f.g.bars), .ro false (.pairs l_2.f.places), .ro false (.ints l_2.ground)]), (1000003, some [.row 900030 0 l119.length]), (1000004, some [.row 900040 0 l120.length]), (1000005, some [.clo 104 [1000001, 1000002, 1000003, 1000004, 1000005]])]⟩ : PS)
     refine vSeq ?_
     refine vRegion ?_
     refine oVal tt rfl rfl rfl rfl rfl trivial ?_
     refine vNil ?_
     change VC _ _ _ _
     refine vSeq ?_
     refine vCond rfl (fun hb8 => ?_) (fun hb8 => ?_)
     ·replace h := cnd_t hb8 h
      refine vSkip ?_
      change VC _ _ _ _
      refine vSeq ?_
      refine vBlock ?_
      refine vSeq ?_
      refine vRegion ?_
      iterate 2 refine oVal tt rfl rfl rfl rfl rfl trivial ?_
      refine vNil ?_
      change VC _ _ _ _
      refine vSeq ?_
      refine vRegionN 8 [] [0, 0, 0, 6, 14, 0, 0, 96, 255, 511] (by kernel_rfl) (by kernel_rfl) (by kernel_rfl) (by kernel_rfl) (by kernel_rfl) rfl (by rfl) ?_
      iterate 3 refine nVal tt rfl (wNone rfl) rfl rfl rfl rfl rfl trivial ?_
      obtain ⟨hg9, h⟩ := grd_inv h
      iterate 2 refine nVal tt rfl (wNone rfl) rfl rfl rfl rfl rfl hg9 ?_
      iterate 2 refine nVal tt rfl (wNone rfl) rfl rfl rfl rfl rfl trivial ?_
      refine nPure (wNone rfl) (pBuild bld_impl_Place rfl rfl) rfl rfl rfl rfl ?_
      refine nNil ?_
      change VO _ _ _ _ _
      obtain ⟨hg10, h⟩ := grd_inv h
      refine oVal tt rfl rfl rfl rfl rfl hg10 ?_
      refine oStore tt rfl rfl rfl rfl rfl rfl rfl rfl rfl rfl ⟨_, _, rfl, hg10.1, hg10.2⟩ ⟨hg10, (by simpa [Sq.len] using hg10), trivial⟩ ?_
      refine vNil ?_
      change VC _ _ _ _
      refine vRegion ?_
      iterate 2 refine oVal tt rfl rfl rfl rfl rfl trivial ?_
      obtain ⟨hg11, h⟩ := grd_inv h
      refine oVal tt rfl rfl rfl rfl rfl hg11 ?_
      obtain ⟨hg12, h⟩ := grd_inv h
      refine oRowB 1000003 0 900030 rfl rfl hg12 rfl ?_
      obtain ⟨v123, hc13, h⟩ := bind_inv h
      refine oMCloX [1000001, 1000002, 1000003, 1000004, 1000005] [.int (i_0 + (1 : Int))] (hrec (i_0 + (1 : Int)) l118 l_2 ((l119.set (((l118.getD ((i_0).toNat) 0)).toNat) (x121, (l119.getD (((l118.getD ((i_0).toNat) 0)).toNat) (0, 0)).2)).set (((l118.getD ((i_0).toNat) 0)).toNat) (((l119.set (((l118.getD ((i_0).toNat) 0)).toNat) (x121, (l119.getD (((l118.getD ((i_0).toNat) 0)).toNat) (0, 0)).2)).getD (((l118.getD ((i_0).toNat) 0)).toNat) (0, 0)).1, x87)) l120 v123 hc13) [900010, 900030, 900040, 8589934602] [1000001, 1000002, 1000003, 1000004, 1000005] [1400, 1401, 1402, 8589934602] rfl rfl rfl rfl rfl rfl rfl rfl rfl  ⟨rfl, rfl, rfl, rfl, trivial⟩ ⟨rfl, rfl, rfl, rfl, rfl, trivial⟩ ⟨⟨rfl, rfl⟩, trivial⟩ ?_
      refine vNil ?_
      change VC _ _ _ _
      refine vRegion ?_
      obtain ⟨hg14, h⟩ := grd_inv h
      refine oVal tt rfl rfl rfl rfl rfl hg14 ?_
      refine oVal tt rfl rfl rfl rfl rfl trivial ?_
      refine vNil ?_
      change ∃ _, _
      exact ⟨(v123.1, v123.2.1, v123.2.2, (x121 + (1 : Int))), (En.ren [900010, 900030, 900040] [1400, 1401, 1402] rfl ⟨.inr rfl, .inr rfl, .inr rfl, .inr rfl, .inr rfl, .inr rfl, .inr rfl, trivial⟩ ⟨.inr rfl, .inr rfl, .inr rfl, .inr rfl, trivial⟩ ⟨.inr ⟨_, _, rfl, rfl, ⟨.inr rfl, trivial⟩⟩, .inr ⟨_, _, rfl, rfl, ⟨.inr rfl, .inr rfl, .inr rfl, .inr rfl, trivial⟩⟩, .inr ⟨_, _, rfl, rfl, ⟨.inr rfl, trivial⟩⟩, .inr ⟨_, _, rfl, rfl, ⟨.inr rfl, trivial⟩⟩, .inr ⟨_, _, rfl, rfl, ⟨.inr rfl, trivial⟩⟩, trivial⟩), h⟩
     ·replace h := cnd_f hb8 h
      refine vExit ?_
      change ∃ _, _
      exact ⟨(l118, l119, l120), (En.of ⟨rfl, rfl, rfl, rfl, rfl, trivial⟩ ⟨rfl, rfl, rfl, rfl, trivial⟩ ⟨rfl, rfl, rfl, rfl, rfl, trivial⟩), h⟩
   ·replace h := cnd_f hb6 h
    refine vExit ?_
    change ∃ _, _
    exact ⟨(l84, l85, l86), (En.of trivial ⟨rfl, rfl, rfl, rfl, trivial⟩ ⟨rfl, rfl, rfl, rfl, rfl, trivial⟩), h⟩
theorem I_PosesOf_1_rw (N : Nat) : ∀ (d : Nat) (i_0 : Int) (free_1 : List Int) (l_2 : Lnk) (at_3 : List (Int × Int)) (out_4 : List (List (Int × Int))) (r : (List Int) × (List (Int × Int)) × (List (List (Int × Int)))), I_PosesOf_1_r N d i_0 free_1 l_2 at_3 out_4 = some r → MCall Try.prog 104 [.int i_0, .ptr 1000001 0, .ptr 1000002 0, .ptr 1000003 0, .ptr 1000004 0, .ptr 1000005 0] [900010, 900030, 900040, 8589934602] [1000001, 1000002, 1000003, 1000004, 1000005] [(3, .ints free_1), (118, .pairs at_3), (62, dR 10 (.pairss out_4)), (118, dF (.pairss out_4))] [(3, .ints r.1), (118, .pairs r.2.1), (62, dR 10 (.pairss r.2.2)), (118, dF (.pairss r.2.2))] [[.row 900010 0 free_1.length], [.int l_2.f.g.n, .ro false (.pairs l_2.f.g.bars), .ro false (.pairs l_2.f.places), .ro false (.ints l_2.ground)], [.row 900030 0 at_3.length], [.row 900040 0 out_4.length], [.clo 104 [1000001, 1000002, 1000003, 1000004, 1000005]]] [[.row 900010 0 r.1.length], [.int l_2.f.g.n, .ro false (.pairs l_2.f.g.bars), .ro false (.pairs l_2.f.places), .ro false (.ints l_2.ground)], [.row 900030 0 r.2.1.length], [.row 900040 0 r.2.2.length], [.clo 104 [1000001, 1000002, 1000003, 1000004, 1000005]]] (.tup [])
 | 0, _, _, _, _, _, r, h => by cases h
 | d + 1, i_0, free_1, l_2, at_3, out_4, r, h => I_PosesOf_1_bw N _ (fun i_0 free_1 l_2 at_3 out_4 r h => I_PosesOf_1_rw N d i_0 free_1 l_2 at_3 out_4 r h) i_0 free_1 l_2 at_3 out_4 r h
theorem I_PosesOf_1_w (N : Nat) (i_0 : Int) (free_1 : List Int) (l_2 : Lnk) (at_3 : List (Int × Int)) (out_4 : List (List (Int × Int))) (r : (List Int) × (List (Int × Int)) × (List (List (Int × Int)))) (h : I_PosesOf_1 N i_0 free_1 l_2 at_3 out_4 = some r) : MCall Try.prog 104 [.int i_0, .ptr 1000001 0, .ptr 1000002 0, .ptr 1000003 0, .ptr 1000004 0, .ptr 1000005 0] [900010, 900030, 900040, 8589934602] [1000001, 1000002, 1000003, 1000004, 1000005] [(3, .ints free_1), (118, .pairs at_3), (62, dR 10 (.pairss out_4)), (118, dF (.pairss out_4))] [(3, .ints r.1), (118, .pairs r.2.1), (62, dR 10 (.pairss r.2.2)), (118, dF (.pairss r.2.2))] [[.row 900010 0 free_1.length], [.int l_2.f.g.n, .ro false (.pairs l_2.f.g.bars), .ro false (.pairs l_2.f.places), .ro false (.ints l_2.ground)], [.row 900030 0 at_3.length], [.row 900040 0 out_4.length], [.clo 104 [1000001, 1000002, 1000003, 1000004, 1000005]]] [[.row 900010 0 r.1.length], [.int l_2.f.g.n, .ro false (.pairs l_2.f.g.bars), .ro false (.pairs l_2.f.places), .ro false (.ints l_2.ground)], [.row 900030 0 r.2.1.length], [.row 900040 0 r.2.2.length], [.clo 104 [1000001, 1000002, 1000003, 1000004, 1000005]]] (.tup []) := I_PosesOf_1_rw N N i_0 free_1 l_2 at_3 out_4 r h
def I_PosesOf (N : Nat) (l_0 : Lnk) : Option ((List (List (Int × Int))) × Bool) :=
 (I_IsLinkage N l_0).bind fun v1 =>
 cnd (!v1) (
  some (([] : List (List (Int × Int))), false)) (
  (I_FreeJoints N l_0).bind fun v2 =>
  grd (l_0.f.places.length ≤ 4294967296) <|
  (I_PosesOf_1 N (0 : Int) v2 l_0 (([] : List (Int × Int)) ++ l_0.f.places) ([] : List (List (Int × Int)))).bind fun v3 =>
  some (v3.2.2, true))
set_option maxRecDepth 20000 in
set_option maxHeartbeats 1600000 in
theorem I_PosesOf_w (N : Nat) (l_0 : Lnk) (r : (List (List (Int × Int))) × Bool) (h : I_PosesOf N l_0 = some r) : PCallD Try.prog 46 [lD l_0] 62 118 (.pairss r.1) (.tup [.row 0 0 r.1.length, .bool r.2]) := by
 unfold I_PosesOf at h
 refine pcallD_intro (TT := TT) tt Try.func46 rfl rfl Try.ntmps46 (congrArg Array.toList Try.results46) rfl rfl rfl fun w0 => ?_
 refine vSeq ?_
 refine vRegion ?_
 refine oBox rfl rfl rfl rfl rfl rfl rfl rfl rfl ?_
 iterate 2 refine oVal tt rfl rfl rfl rfl rfl trivial ?_
 refine vNil ?_
 change VC _ _ _ _
 refine vSeq ?_
 refine vRegion ?_
 refine oEmpty tt (wNone rfl) rfl rfl rfl rfl ?_
 refine oAlloc tt rfl rfl rfl rfl rfl rfl rfl rfl rfl ?_
 refine oStore tt rfl rfl rfl rfl rfl rfl rfl rfl rfl rfl rfl ⟨trivial, trivial⟩ ?_
 refine vNil ?_
 change VC _ _ _ _
 iterate 2 refine vSeq ?_
 refine vRegion ?_
 refine oVal tt rfl rfl rfl rfl rfl trivial ?_
 obtain ⟨v1, hc1, h⟩ := bind_inv h
 refine oCall (I_IsLinkage_w N l_0 v1 hc1) rfl rfl rfl rfl rfl rfl rfl rfl ⟨⟨rfl, rfl, rfl, rfl, trivial⟩, trivial⟩ ?_
 refine oVal tt rfl rfl rfl rfl rfl trivial ?_
 refine vNil ?_
 change VC _ _ _ _
 refine vCond rfl (fun hb2 => ?_) (fun hb2 => ?_)
 ·replace h := cnd_t hb2 h
  refine vSeq ?_
  refine vRegion ?_
  iterate 3 refine oVal tt rfl rfl rfl rfl rfl trivial ?_
  refine vNil ?_
  change VC _ _ _ _
  refine vNilT 2 9001 62 (.pairss []) rfl rfl rfl rfl ?_
  refine vEn (En.newFam 11 118 (.pairs []) rfl rfl rfl rfl (fun _ h => by cases h) rfl) ?_
  refine vEn (En.asRefs 9001 11 (q := .pairss []) (qR := dR 11 (.pairss [])) rfl rfl rfl rfl) ?_
  refine vRet ?_
  change ∃ _, _
  cases h
  exact ⟨9001, 11, _, rfl, rfl, rfl, rfl, rfl, (.eq rfl), rfl⟩
 ·replace h := cnd_f hb2 h
  refine vSkip ?_
  change VC _ _ _ _
  refine vSeq ?_
  refine vRegion ?_
  refine oVal tt rfl rfl rfl rfl rfl trivial ?_
  obtain ⟨v2, hc3, h⟩ := bind_inv h
  refine oCall (I_FreeJoints_w N l_0 v2 hc3) rfl rfl rfl rfl rfl rfl rfl rfl ⟨⟨rfl, rfl, rfl, rfl, trivial⟩, trivial⟩ ?_
  refine oAlloc tt rfl rfl rfl rfl rfl rfl rfl rfl rfl ?_
  refine oStore tt rfl rfl rfl rfl rfl rfl rfl rfl rfl rfl rfl ⟨trivial, trivial⟩ ?_
  refine vNil ?_
  change VC _ _ _ _
  refine vSeq ?_
  refine vRegion ?_
  refine oEmpty tt (wNone rfl) rfl rfl rfl rfl ?_
  iterate 3 refine oVal tt rfl rfl rfl rfl rfl trivial ?_
  obtain ⟨hg4, h⟩ := grd_inv h
  refine oAppNil tt (wNone rfl) rfl rfl rfl rfl rfl rfl rfl (fun _ => rfl) rfl rfl rfl rfl rfl hg4 ?_
  refine oAlloc tt rfl rfl rfl rfl rfl rfl rfl rfl rfl ?_
  refine oStore tt rfl rfl rfl rfl rfl rfl rfl rfl rfl rfl rfl ⟨trivial, trivial⟩ ?_
  refine vNil ?_
  change VC _ _ _ _
  refine vSeq ?_
  refine vRegion ?_
  refine oAlloc tt rfl rfl rfl rfl rfl rfl rfl rfl rfl ?_
  refine vNil ?_
  change VC _ _ _ _
  refine vSeq ?_
  refine vRegion ?_
  refine oMakeFunc rfl [5, 1, 6, 4, 7] rfl rfl rfl rfl ?_
  refine oStore tt rfl rfl rfl rfl rfl rfl rfl rfl rfl rfl rfl ⟨trivial, trivial⟩ ?_
  refine vNil ?_
  change VC _ _ _ _
  refine vSeq ?_
  refine vRegion ?_
  refine oVal tt rfl rfl rfl rfl rfl trivial ?_
  refine vEnO (enNilB 4 0 9502 62 (.pairss []) rfl rfl rfl rfl rfl) ?_
  refine vEnO (En.newFam 10 118 (.pairs []) rfl rfl rfl rfl (fun _ h => by cases h) rfl) ?_
  refine vEnO (En.asRefs 9502 10 (q := .pairss []) (qR := dR 10 (.pairss [])) rfl rfl rfl rfl) ?_
  obtain ⟨v3, hc5, h⟩ := bind_inv h
  refine oMCloX [1000001, 1000002, 1000003, 1000004, 1000005] [.int (0 : Int)] (I_PosesOf_1_w N (0 : Int) v2 l_0 (([] : List (Int × Int)) ++ l_0.f.places) ([] : List (List (Int × Int))) v3 hc5) [1140, 19, 9502, 8589934602] [5, 1, 6, 4, 7] [1220, 1221, 1222, 8589934602] rfl rfl rfl rfl rfl rfl rfl rfl rfl  ⟨rfl, rfl, rfl, rfl, trivial⟩ ⟨rfl, rfl, rfl, rfl, rfl, trivial⟩ ⟨⟨rfl, rfl⟩, trivial⟩ ?_
  refine vNil ?_
  change VC _ _ _ _
  refine vSeq ?_
  refine vRegion ?_
  iterate 3 refine oVal tt rfl rfl rfl rfl rfl trivial ?_
  refine vNil ?_
  change VC _ _ _ _
  refine vRet ?_
  change ∃ _, _
  cases h
  exact ⟨1222, 10, _, rfl, rfl, rfl, rfl, rfl, (.eq rfl), rfl⟩
end Go.Proofs.Ytgindcgphnbnaaa
namespace Go.Proofs.Ytgindcgphnbnaaa
variable {N : Nat}
theorem outside_snoc_out {g : List Int} {n : Nat} (h : (n : Int) ∉ g) : outside g (n + 1) = outside g n ++ [(n : Int)] := by
 rw [outside_succ]
 have : g.contains (n : Int) = false := by simpa using h
 rw [this]; rfl
theorem outside_congr {g g' : List Int} : ∀ {n : Nat}, (∀ v : Nat, v < n → g.contains (v : Int) = g'.contains (v : Int)) → outside g n = outside g' n
 | 0, _ => rfl
 | n + 1, h => by
  rw [outside_succ, outside_succ, h n (by omega), outside_congr (n := n) fun v hv => h v (by omega)]
theorem outside_count : ∀ {n : Nat} {g : List Int}, g.Nodup → (∀ v ∈ g, 0 ≤ v ∧ v < n) → (outside g n).length + g.length = n
 | 0, g, _, hr => by
  cases g with
  | nil => rfl
  | cons x g => have := hr x (by simp); omega
 | n + 1, g, hn, hr => by
  by_cases hm : (n : Int) ∈ g
  ·have ih := outside_count (n := n) (hn.erase (n : Int)) fun v hv => by
    have := (hn.mem_erase_iff).1 hv
    have h2 := hr v this.2
    have := this.1
    omega
   have hc : g.contains (n : Int) = true := by simpa using hm
   rw [List.length_erase_of_mem hm, outside_congr (g' := g) fun v hv => by
    rw [Bool.eq_iff_iff]
    simp only [List.contains_eq_mem, decide_eq_true_eq]
    rw [hn.mem_erase_iff]
    exact ⟨fun h => h.2, fun h => ⟨by omega, h⟩⟩] at ih
   have hpos := List.length_pos_of_mem hm
   rw [outside_succ, hc, cnd_true]
   omega
  ·have ih := outside_count (n := n) hn fun v hv => by
    have h2 := hr v hv
    have : v ≠ (n : Int) := fun e => hm (e ▸ hv)
    omega
   rw [outside_snoc_out hm, List.length_append]
   simp; omega
theorem asc_lt3 {n : Int} {l : List Int} (h : asc n l = true) : ∀ j i : Nat, i < j → j < l.length → l.getD i 0 < l.getD j 0
 | 0, i, h1, _ => by omega
 | j + 1, i, h1, h2 => by
  have ha := asc_at h h2
  simp only [ascAt, Bool.and_eq_true, Bool.or_eq_true, decide_eq_true_eq, Nat.add_sub_cancel] at ha
  have hs : l.getD j 0 < l.getD (j + 1) 0 := ha.2.resolve_left (by omega)
  by_cases e : i = j
  ·subst e; exact hs
  ·have := asc_lt3 h j i (by omega) (by omega); omega
theorem asc_nodup {n : Int} {l : List Int} (h : asc n l = true) : l.Nodup := by
 rw [List.Nodup, List.pairwise_iff_getElem]
 intro i j hi hj hij e
 have := asc_lt3 h j i hij hj
 rw [List.getD_eq_getElem?_getD, List.getD_eq_getElem?_getD, List.getElem?_eq_getElem hi, List.getElem?_eq_getElem hj] at this
 simp at this
 omega
theorem free_facts {l : Lnk} (h : isLk l = true) : (freeJ l).length ≤ 2 ∧ (freeJ l).Nodup ∧ ∀ v ∈ freeJ l, 0 ≤ v ∧ v < (l.f.places.length : Int) := by
 obtain ⟨hf, h1, h2, h3⟩ := isLk_parts h
 obtain ⟨hg, h4, h5, h6, h7, h8⟩ := isFr_parts hf
 have hn := isGraph_nn hg
 have e : freeJ l = outside l.ground l.f.places.length := by unfold freeJ; rw [h]; rfl
 rw [e]
 refine ⟨?_, ?_, fun v hv => ?_⟩
 ·have := outside_count (n := l.f.places.length) (asc_nodup h3) fun v hv => by have := asc_in h3 hv; omega
  omega
 ·unfold outside
  exact List.Pairwise.filter _ (List.Pairwise.map _ (fun a b h e => h (Int.ofNat.inj e)) List.nodup_range)
 ·have := outside_mem l.ground l.f.places.length v
  have hc : (outside l.ground l.f.places.length).contains v = true := by simpa using hv
  rw [hc] at this
  have := (Bool.and_eq_true _ _ ▸ this.symm).1
  rw [inB_true] at this
  omega
def pAll (a : List (Int × Int)) : List Int → List (List (Int × Int))
 | [] => [a]
 | v :: fr => (List.range 5).flatMap fun (y : Nat) => (List.range 5).flatMap fun (x : Nat) => pAll (a.set v.toNat ((x : Int), (y : Int))) fr
def Agr (fr : List Int) (a b : List (Int × Int)) : Prop := a.length = b.length ∧ ∀ j : Nat, (∀ v ∈ fr, v.toNat ≠ j) → a[j]? = b[j]?
theorem Agr.refl (fr : List Int) (a : List (Int × Int)) : Agr fr a a := ⟨rfl, fun _ _ => rfl⟩
theorem Agr.trans {fr : List Int} {a b c : List (Int × Int)} (h : Agr fr a b) (h' : Agr fr b c) : Agr fr a c := ⟨h.1.trans h'.1, fun j hj => (h.2 j hj).trans (h'.2 j hj)⟩
theorem Agr.cons {fr : List Int} {v : Int} {a b : List (Int × Int)} (h : Agr fr a b) : Agr (v :: fr) a b := ⟨h.1, fun j hj => h.2 j fun u hu => hj u (by simp [hu])⟩
theorem Agr.set {fr : List Int} {v : Int} {a b : List (Int × Int)} (h : Agr (v :: fr) a b) (c : Int × Int) : Agr fr (a.set v.toNat c) (b.set v.toNat c) := by
 refine ⟨by rw [List.length_set, List.length_set, h.1], fun j hj => ?_⟩
 rw [List.getElem?_set, List.getElem?_set, h.1]
 by_cases hv : v.toNat = j
 ·rw [if_pos hv, if_pos hv]
 ·rw [if_neg hv, if_neg hv]
  exact h.2 j fun u hu => by
   rcases List.mem_cons.1 hu with rfl | hu
   ·exact hv
   ·exact hj u hu
theorem Agr.put (fr : List Int) (v : Int) (a : List (Int × Int)) (c : Int × Int) : Agr (v :: fr) (a.set v.toNat c) a := by
 refine ⟨List.length_set, fun j hj => ?_⟩
 rw [List.getElem?_set, if_neg (hj v (by simp))]
theorem flatMap_congr' {β : Type} {m : Nat} {f g : Nat → List β} (h : ∀ a, a < m → f a = g a) : (List.range m).flatMap f = (List.range m).flatMap g := by
 rw [List.flatMap_def, List.flatMap_def]
 congr 1
 exact List.map_congr_left fun a ha => h a (by simpa using ha)
theorem pAll_congr : ∀ {fr : List Int} {a b : List (Int × Int)}, Agr fr a b → pAll a fr = pAll b fr
 | [], a, b, h => by
  have : a = b := List.ext_getElem? fun j => h.2 j (fun v hv => by cases hv)
  rw [this]
 | v :: fr, a, b, h => by
  unfold pAll
  exact flatMap_congr' fun y _ => flatMap_congr' fun x _ => pAll_congr (h.set _)
theorem flat_len {β : Type} {c : Nat} {f : Nat → List β} : ∀ {m : Nat}, (∀ a, a < m → (f a).length ≤ c) → ((List.range m).flatMap f).length ≤ m * c
 | 0, _ => by simp
 | m + 1, h => by
  rw [List.range_succ, List.flatMap_append, List.length_append]
  have h1 := flat_len (m := m) fun a ha => h a (by omega)
  have h2 := h m (by omega)
  have e : (List.flatMap f [m]).length = (f m).length := by simp
  rw [e, Nat.succ_mul]; omega
theorem pAll_len : ∀ {fr : List Int} {a : List (Int × Int)}, (pAll a fr).length ≤ 25 ^ fr.length
 | [], a => by simp [pAll]
 | v :: fr, a => by
  unfold pAll
  have h := flat_len (m := 5) (c := 5 * 25 ^ fr.length) (f := fun (y : Nat) => (List.range 5).flatMap fun (x : Nat) => pAll (a.set v.toNat ((x : Int), (y : Int))) fr) fun y _ => flat_len fun x _ => pAll_len
  rw [List.length_cons, Nat.pow_succ]
  omega
theorem pAll_mem : ∀ {fr : List Int} {a p : List (Int × Int)}, p ∈ pAll a fr → p.length = a.length
 | [], a, p, h => by simp [pAll] at h; rw [h]
 | v :: fr, a, p, h => by
  unfold pAll at h
  simp only [List.mem_flatMap] at h
  obtain ⟨y, _, x, _, h⟩ := h
  rw [pAll_mem h, List.length_set]
theorem set_two {a : List (Int × Int)} {i : Nat} {x y : Int} (h : i < a.length) : (a.set i (x, (a.getD i (0, 0)).2)).set i (((a.set i (x, (a.getD i (0, 0)).2)).getD i (0, 0)).1, y) = a.set i (x, y) := set_pair a i x y h
theorem flat_snoc {β : Type} (f : Nat → List β) (m : Nat) : (List.range (m + 1)).flatMap f = (List.range m).flatMap f ++ f m := by
 rw [List.range_succ, List.flatMap_append]; simp
section
variable {l : Lnk} {F : List Int}
abbrev PR := Option (List Int × List (Int × Int) × List (List (Int × Int)))
def TryOK (l : Lnk) (F : List Int) (rec_ : Int → List Int → Lnk → List (Int × Int) → List (List (Int × Int)) → PR) (i B : Nat) : Prop :=
 ∀ (a : List (Int × Int)) (out : List (List (Int × Int))), a.length = l.f.places.length → out.length ≤ B → ∃ a', rec_ (i : Int) F l a out = some (F, a', out ++ (pAll a (F.drop i)).filter (isPs l)) ∧ Agr (F.drop i) a' a
theorem try2_s (hN : 4000000 ≤ N) (hpl : l.f.places.length ≤ 3000000) (hF : ∀ v ∈ F, 0 ≤ v ∧ v < (l.f.places.length : Int)) {rec_ : Int → List Int → Lnk → List (Int × Int) → List (List (Int × Int)) → PR} {i : Nat} (hi : i < F.length) (hF2 : F.length ≤ 2) {B : Nat} (hB : B ≤ 1000000) (hr : TryOK l F rec_ (i + 1) B) {a : List (Int × Int)} (ha : a.length = l.f.places.length) {y : Nat} (kk : List Int × List (Int × Int) × List (List (Int × Int)) → PR) (out : List (List (Int × Int))) :
  ∀ (fuel x : Nat) (A : List (Int × Int)), x ≤ 5 → 5 < fuel + x → Agr (F.drop i) A a → out.length + 5 * 625 ≤ B →
  ∃ A', I_PosesOf_1_l2 N (i : Int) l rec_ (y : Int) kk fuel (F, A, out ++ ((List.range x).flatMap fun (x : Nat) => pAll (a.set (F.getD i 0).toNat ((x : Int), (y : Int))) (F.drop (i + 1))).filter (isPs l), (x : Int)) = kk (F, A', out ++ ((List.range 5).flatMap fun (x : Nat) => pAll (a.set (F.getD i 0).toNat ((x : Int), (y : Int))) (F.drop (i + 1))).filter (isPs l)) ∧ Agr (F.drop i) A' a := by
 have hdrop : F.drop i = F.getD i 0 :: F.drop (i + 1) := by
  rw [List.drop_eq_getElem_cons hi, List.getD_eq_getElem?_getD, List.getElem?_eq_getElem hi]; rfl
 have hv := hF (F.getD i 0) (getD_mem hi)
 have hfl : ∀ x, x ≤ 5 → (((List.range x).flatMap fun (x : Nat) => pAll (a.set (F.getD i 0).toNat ((x : Int), (y : Int))) (F.drop (i + 1))).filter (isPs l)).length ≤ 5 * 625 := fun x hx => by
  refine Nat.le_trans (List.length_filter_le _ _) ?_
  have h1 := flat_len (m := x) (c := 625) (f := fun (x : Nat) => pAll (a.set (F.getD i 0).toNat ((x : Int), (y : Int))) (F.drop (i + 1))) fun x _ => by
   refine Nat.le_trans pAll_len ?_
   have h2 : (F.drop (i + 1)).length ≤ 2 := by rw [List.length_drop]; omega
   have := Nat.pow_le_pow_right (n := 25) (by omega) h2
   omega
  exact Nat.le_trans h1 (Nat.mul_le_mul_right 625 hx)
 intro fuel
 induction fuel with
 | zero => intro x A h1 h2; omega
 | succ fuel ih =>
  intro x A h1 h2 hA ho
  rw [I_PosesOf_1_l2]
  by_cases hx : x < 5
  ·have ei : ((i : Int)).toNat = i := by omega
   have hAl : A.length = l.f.places.length := hA.1.trans ha
   have hs2 := set_two (a := A) (i := (F.getD i 0).toNat) (x := (x : Int)) (y := (y : Int)) (by omega)
   have hl3 := hfl x h1
   have hA2 : Agr (F.drop (i + 1)) (A.set (F.getD i 0).toNat ((x : Int), (y : Int))) (a.set (F.getD i 0).toNat ((x : Int), (y : Int))) := by rw [hdrop] at hA; exact hA.set _
   obtain ⟨A1, e1, g1⟩ := hr (A.set (F.getD i 0).toNat ((x : Int), (y : Int))) (out ++ ((List.range x).flatMap fun (x : Nat) => pAll (a.set (F.getD i 0).toNat ((x : Int), (y : Int))) (F.drop (i + 1))).filter (isPs l)) (by rw [List.length_set]; exact hAl) (by rw [List.length_append]; omega)
   have hA1 : Agr (F.drop i) A1 a := by
    rw [hdrop] at hA ⊢
    exact (g1.cons).trans ((Agr.put _ _ _ _).trans hA)
   obtain ⟨A', e2, g2⟩ := ih (x + 1) A1 (by omega) (by omega) hA1 ho
   refine ⟨A', ?_, g2⟩
   rw [cnd_dt (by omega), grd_pos (by omega), ei, grd_pos (by omega), grd_R (by omega) (by omega), hs2, grd_pos (by rw [List.length_set])]
   have e1' := e1
   rw [← succ_cast] at e1'
   rw [e1', Option.bind_some, grd_R (by omega) (by omega), succ_cast, List.append_assoc, ← List.filter_append, pAll_congr hA2]
   rw [flat_snoc] at e2
   exact e2
  ·obtain rfl : x = 5 := by omega
   rw [cnd_df (by omega)]
   exact ⟨A, rfl, hA⟩
theorem try1_s (hN : 4000000 ≤ N) (hpl : l.f.places.length ≤ 3000000) (hF : ∀ v ∈ F, 0 ≤ v ∧ v < (l.f.places.length : Int)) {rec_ : Int → List Int → Lnk → List (Int × Int) → List (List (Int × Int)) → PR} {i : Nat} (hi : i < F.length) (hF2 : F.length ≤ 2) {B : Nat} (hB : B ≤ 1000000) (hr : TryOK l F rec_ (i + 1) B) {a : List (Int × Int)} (ha : a.length = l.f.places.length) (kk : List Int × List (Int × Int) × List (List (Int × Int)) → PR) (out : List (List (Int × Int))) (ho : out.length + 10 * 5 * 625 ≤ B) :
  ∀ (fuel y : Nat) (A : List (Int × Int)), y ≤ 5 → 5 < fuel + y → Agr (F.drop i) A a →
  ∃ A', I_PosesOf_1_l1 N (i : Int) l rec_ kk fuel (F, A, out ++ ((List.range y).flatMap fun (y : Nat) => (List.range 5).flatMap fun (x : Nat) => pAll (a.set (F.getD i 0).toNat ((x : Int), (y : Int))) (F.drop (i + 1))).filter (isPs l), (y : Int)) = kk (F, A', out ++ (pAll a (F.drop i)).filter (isPs l)) ∧ Agr (F.drop i) A' a := by
 have hdrop : F.drop i = F.getD i 0 :: F.drop (i + 1) := by
  rw [List.drop_eq_getElem_cons hi, List.getD_eq_getElem?_getD, List.getElem?_eq_getElem hi]; rfl
 have hfl : ∀ y, y ≤ 5 → (((List.range y).flatMap fun (y : Nat) => (List.range 5).flatMap fun (x : Nat) => pAll (a.set (F.getD i 0).toNat ((x : Int), (y : Int))) (F.drop (i + 1))).filter (isPs l)).length ≤ 5 * 5 * 625 := fun y hy => by
  refine Nat.le_trans (List.length_filter_le _ _) ?_
  have h1 := flat_len (m := y) (c := 5 * 625) (f := fun (y : Nat) => (List.range 5).flatMap fun (x : Nat) => pAll (a.set (F.getD i 0).toNat ((x : Int), (y : Int))) (F.drop (i + 1))) fun y _ => flat_len fun x _ => by
   refine Nat.le_trans pAll_len ?_
   have h2 : (F.drop (i + 1)).length ≤ 2 := by rw [List.length_drop]; omega
   have := Nat.pow_le_pow_right (n := 25) (by omega) h2
   omega
  exact Nat.le_trans h1 (Nat.le_trans (Nat.mul_le_mul_right (5 * 625) hy) (by decide))
 intro fuel
 induction fuel with
 | zero => intro y A h1 h2; omega
 | succ fuel ih =>
  intro y A h1 h2 hA
  rw [I_PosesOf_1_l1]
  by_cases hy : y < 5
  ·have hl3 := hfl y h1
   obtain ⟨A1, e1, g1⟩ := try2_s hN hpl hF hi hF2 hB hr ha (y := y) (fun (x : (List Int) × (List (Int × Int)) × (List (List (Int × Int)))) =>
     match x with
     | (l113, l114, l115) =>
      grd (Rg64 ((y : Int) + (1 : Int))) <|
      I_PosesOf_1_l1 N (i : Int) l rec_ kk fuel (l113, l114, l115, ((y : Int) + (1 : Int)))) (out ++ ((List.range y).flatMap fun (y : Nat) => (List.range 5).flatMap fun (x : Nat) => pAll (a.set (F.getD i 0).toNat ((x : Int), (y : Int))) (F.drop (i + 1))).filter (isPs l)) N 0 A (by omega) (by omega) hA (by rw [List.length_append]; omega)
   obtain ⟨A', e2, g2⟩ := ih (y + 1) A1 (by omega) (by omega) g1
   refine ⟨A', ?_, g2⟩
   rw [cnd_dt (by omega)]
   have e1' := e1
   simp only [List.range_zero, List.flatMap_nil, List.filter_nil, List.append_nil] at e1'
   refine e1'.trans ?_
   show grd _ _ = _
   rw [grd_R (by omega) (by omega), succ_cast, List.append_assoc, ← List.filter_append]
   rw [flat_snoc] at e2
   exact e2
  ·obtain rfl : y = 5 := by omega
   rw [cnd_df (by omega)]
   refine ⟨A, ?_, hA⟩
   rw [hdrop, pAll]
theorem try_s (hN : 4000000 ≤ N) (hpl : l.f.places.length ≤ 3000000) (hgl : l.ground.length ≤ 3000000) (hF : ∀ v ∈ F, 0 ≤ v ∧ v < (l.f.places.length : Int)) (hF2 : F.length ≤ 2) : ∀ (d i : Nat), i ≤ F.length → F.length < d + i →
  ∀ (a : List (Int × Int)) (out : List (List (Int × Int))), a.length = l.f.places.length → out.length + 40000 * (3 - i) ≤ 1000000 → ∃ a', I_PosesOf_1_r N d (i : Int) F l a out = some (F, a', out ++ (pAll a (F.drop i)).filter (isPs l)) ∧ Agr (F.drop i) a' a := by
 intro d
 induction d with
 | zero => intro i h1 h2; omega
 | succ d ih =>
  intro i h1 h2 a out ha ho
  rw [I_PosesOf_1_r]
  unfold I_PosesOf_1_b
  by_cases hi : i < F.length
  ·rw [cnd_eqf (by omega)]
   have := try1_s hN hpl hF hi hF2 (B := 1000000 - 40000 * (2 - i)) (by omega) (rec_ := I_PosesOf_1_r N d) (fun a out ha ho => by
    have := ih (i + 1) (by omega) (by omega) a out ha (by omega)
    exact this) ha (fun (x : (List Int) × (List (Int × Int)) × (List (List (Int × Int)))) =>
     match x with
     | (l62, l63, l64) => some (l62, l63, l64)) out (by omega) N 0 a (by omega) (by omega) (Agr.refl _ _)
   obtain ⟨A', e, g⟩ := this
   simp only [List.range_zero, List.flatMap_nil, List.filter_nil, List.append_nil] at e
   exact ⟨A', e, g⟩
  ·obtain rfl : i = F.length := by omega
   rw [cnd_eqt rfl, isPoseI_s N hN hpl hgl, Option.bind_some, jn_def, tk0, List.drop_length, List.nil_append]
   refine ⟨a, ?_, Agr.refl _ _⟩
   cases hp : isPs l a with
   | true =>
    rw [cnd_true, grd_pos (by omega), grd_pos (by omega)]
    simp [pAll, hp]
   | false =>
    rw [cnd_false]
    simp [pAll, hp]
end
def dig (c : Nat) : Int × Int := (((c % 5 : Nat) : Int), ((c / 5 % 5 : Nat) : Int))
def asgR : List Int → List (Int × Int) → Nat → List (Int × Int)
 | [], a, _ => a
 | v :: r, a, c => asgR r (a.set v.toNat (dig c)) (c / 25)
theorem asgR_len : ∀ {r : List Int} {a : List (Int × Int)} {c : Nat}, (asgR r a c).length = a.length
 | [], _, _ => rfl
 | v :: r, a, c => by rw [asgR, asgR_len, List.length_set]
theorem asgR_snoc : ∀ {r : List Int} {v : Int} {a : List (Int × Int)} {c : Nat}, asgR (r ++ [v]) a c = (asgR r a c).set v.toNat (dig (c / 25 ^ r.length))
 | [], v, a, c => by simp [asgR]
 | u :: r, v, a, c => by
  rw [List.cons_append, asgR, asgR_snoc, asgR, List.length_cons, Nat.div_div_eq_div_mul, Nat.pow_succ, Nat.mul_comm 25]
theorem asgR_mod : ∀ {r : List Int} {a : List (Int × Int)} {i j : Nat}, asgR r a (i * 25 ^ r.length + j) = asgR r a j
 | [], a, i, j => rfl
 | u :: r, a, i, j => by
  have e : i * 25 ^ (u :: r).length + j = 25 * (i * 25 ^ r.length) + j := by
   rw [List.length_cons, Nat.pow_succ, ← Nat.mul_assoc, Nat.mul_comm _ 25]
  rw [e]
  generalize hK : i * 25 ^ r.length = K
  have d1 : dig (25 * K + j) = dig j := by
   unfold dig
   rw [show (25 * K + j) % 5 = j % 5 by omega, show (25 * K + j) / 5 % 5 = j / 5 % 5 by omega]
  rw [asgR, asgR, d1, show (25 * K + j) / 25 = K + j / 25 by omega, ← hK, asgR_mod]
theorem asgR_set : ∀ {r : List Int} {v : Int} {a : List (Int × Int)} {x : Int × Int} {j : Nat}, (∀ u ∈ r, u.toNat ≠ v.toNat) → asgR r (a.set v.toNat x) j = (asgR r a j).set v.toNat x
 | [], v, a, x, j, _ => rfl
 | u :: r, v, a, x, j, h => by
  rw [asgR, asgR, List.set_comm _ _ (Ne.symm (h u (by simp))), asgR_set fun w hw => h w (by simp [hw])]
theorem rng_mul {β : Type} (f : Nat → β) (b : Nat) : ∀ a : Nat, (List.range (a * b)).map f = (List.range a).flatMap fun i => (List.range b).map fun j => f (i * b + j)
 | 0 => by simp
 | a + 1 => by
  rw [Nat.succ_mul, List.range_add, List.map_append, rng_mul f b a, flat_snoc, List.map_map]; rfl
theorem pAll_codes : ∀ {F : List Int} {a : List (Int × Int)}, (F.map Int.toNat).Nodup → (List.range (25 ^ F.length)).map (asgR F.reverse a) = pAll a F
 | [], a, _ => rfl
 | v :: fr, a, h => by
  rw [List.map_cons] at h
  have h2 := List.nodup_cons.1 h
  have hne : ∀ u ∈ fr.reverse, u.toNat ≠ v.toNat := fun u hu e => h2.1 (by rw [← e]; exact List.mem_map.2 ⟨u, by simpa using hu, rfl⟩)
  have ih := fun a => pAll_codes (F := fr) (a := a) h2.2
  rw [List.length_cons, Nat.pow_succ, Nat.mul_comm, rng_mul, pAll]
  have e1 : ((List.range 25).flatMap fun i => (List.range (25 ^ fr.length)).map fun j => asgR (v :: fr).reverse a (i * 25 ^ fr.length + j)) = (List.range 25).flatMap fun i => pAll (a.set v.toNat (dig i)) fr := by
   refine flatMap_congr' fun i hi => ?_
   rw [← ih]
   refine List.map_congr_left fun j hj => ?_
   have hj' : j < 25 ^ fr.length := by simpa using hj
   have hl : fr.reverse.length = fr.length := List.length_reverse
   rw [List.reverse_cons, asgR_snoc, asgR_set hne, hl, ← hl, asgR_mod, hl]
   congr 2
   rw [Nat.mul_comm, Nat.mul_add_div (by omega), Nat.div_eq_of_lt hj', Nat.add_zero]
  rw [e1]
  have e2 : (List.range 25).flatMap (fun i => pAll (a.set v.toNat (dig i)) fr) = (((List.range (5 * 5)).map fun i => pAll (a.set v.toNat (dig i)) fr).flatten) := by rw [List.flatMap_def]
  rw [e2, rng_mul, List.flatMap_def, List.flatMap_def, List.flatten_flatten, List.map_map]
  congr 1
theorem pow25_s (hN : 4000000 ≤ N) {n : Nat} (hn : n ≤ 2) : S_l17Power N 25 (n : Int) = some ((25 ^ n : Nat) : Int) := by
 have key : ∀ (fuel i : Nat), i ≤ n → n < fuel + i → S_l17Power_l1 N 25 (n : Int) (fun x => some x) fuel (((25 ^ i : Nat) : Int), (i : Int)) = some ((25 ^ n : Nat) : Int) := by
  intro fuel
  induction fuel with
  | zero => intro i h1 h2; omega
  | succ fuel ih =>
   intro i h1 h2
   rw [S_l17Power_l1]
   by_cases hi : i < n
   ·have e : ((25 ^ i : Nat) : Int) * 25 = ((25 ^ (i + 1) : Nat) : Int) := by rw [Nat.pow_succ]; rfl
    have hb : 25 ^ (i + 1) ≤ 25 ^ 2 := Nat.pow_le_pow_right (by omega) (by omega)
    have hb3 : ((25 ^ (i + 1) : Nat) : Int) ≤ 625 := Int.ofNat_le.2 hb
    have hb4 : (0 : Int) ≤ ((25 ^ (i + 1) : Nat) : Int) := Int.natCast_nonneg _
    rw [cnd_dt (by omega), e, grd_pos ⟨Int.le_trans (by decide) hb4, Int.le_trans hb3 (by decide)⟩, grd_R (by omega) (by omega), succ_cast]
    exact ih (i + 1) (by omega) (by omega)
   ·obtain rfl : i = n := by omega
    rw [cnd_df (by omega)]
 exact key N 0 (by omega) (by omega)
theorem take_snoc2 {l : List Int} {i : Nat} (h : i < l.length) : l.take (i + 1) = l.take i ++ [l.getD i 0] := by
 rw [List.take_add_one, List.getElem?_eq_getElem h, List.getD_eq_getElem?_getD, List.getElem?_eq_getElem h]; rfl
theorem codes2_s (hN : 4000000 ≤ N) {l : Lnk} {F : List Int} (hF : ∀ v ∈ F, 0 ≤ v ∧ v < (l.f.places.length : Int)) (hF2 : F.length ≤ 2) (kk : List (Int × Int) → Option (List (List (Int × Int)) × Bool)) : ∀ (fuel i c : Nat) (A : List (Int × Int)), i ≤ F.length → i < fuel → c ≤ 1000 → A.length = l.f.places.length →
  S_PosesOf_l2 N l F kk fuel (A, (c : Int), (i : Int) - 1) = kk (asgR (F.take i).reverse A c) := by
 intro fuel
 induction fuel with
 | zero => intro i c A h1 h2; omega
 | succ fuel ih =>
  intro i c A h1 h2 hc hA
  rw [S_PosesOf_l2]
  cases i with
  | zero => rw [cnd_df (by omega)]; rfl
  | succ i =>
   have e1 : (((i + 1 : Nat) : Int) - 1) = (i : Int) := by omega
   have e2 : ((i : Int)).toNat = i := by omega
   have hv := hF (F.getD i 0) (getD_mem (by omega))
   have d1 : Int.tdiv (c : Int) 5 = ((c / 5 : Nat) : Int) := rfl
   have d2 : Int.tmod (c : Int) 5 = ((c % 5 : Nat) : Int) := rfl
   have d3 : Int.tdiv (c : Int) 25 = ((c / 25 : Nat) : Int) := rfl
   have d4 : Int.tmod ((c / 5 : Nat) : Int) 5 = ((c / 5 % 5 : Nat) : Int) := rfl
   have hnil : (([] : List (Int × Int)) ++ l.f.places).length = l.f.places.length := rfl
   rw [e1, cnd_dt (by omega), grd_pos (by omega), grd_pos (by decide), d1, grd_pos ⟨by decide, by unfold Rg64; omega⟩, e2, hnil, grd_pos (by omega), grd_pos (by omega), d3, grd_pos ⟨by decide, by unfold Rg64; omega⟩, grd_R (by omega) (by omega), d2, d4, set_two (by omega)]
   rw [ih i (c / 25) _ (by omega) (by omega) (by omega) (by rw [List.length_set]; exact hA), take_snoc2 (by omega), List.reverse_append]
   rfl
def posesL (l : Lnk) : List (List (Int × Int)) := cnd (isLk l) ((pAll l.f.places (freeJ l)).filter (isPs l)) []
theorem posesL_len (l : Lnk) : (posesL l).length ≤ 625 := by
 unfold posesL
 cases h : isLk l with
 | false => simp [cnd]
 | true =>
  rw [cnd_true]
  obtain ⟨h1, _⟩ := free_facts h
  refine Nat.le_trans (List.length_filter_le _ _) (Nat.le_trans pAll_len ?_)
  exact Nat.pow_le_pow_right (n := 25) (by omega) h1
theorem posesL_mem {l : Lnk} {p : List (Int × Int)} (h : p ∈ posesL l) : p.length = l.f.places.length ∧ isPs l p = true := by
 unfold posesL at h
 cases hl : isLk l with
 | false => rw [hl] at h; cases h
 | true =>
  rw [hl, cnd_true] at h
  have := List.mem_filter.1 h
  exact ⟨pAll_mem this.1, this.2⟩
theorem posesI_s (hN : 4000000 ≤ N) {l : Lnk} (hp : l.f.places.length ≤ 3000000) (hg : l.ground.length ≤ 3000000) : I_PosesOf N l = some (posesL l, isLk l) := by
 unfold I_PosesOf posesL
 rw [isLkI_s N hN hp hg, Option.bind_some]
 cases h : isLk l with
 | false => rfl
 | true =>
  obtain ⟨h1, h2, h3⟩ := free_facts h
  rw [Bool.not_true, cnd_false, freeI_s N hN hp hg, Option.bind_some, grd_pos (by omega), cnd_true, List.nil_append]
  obtain ⟨a', e, _⟩ := try_s (N := N) hN hp hg h3 h1 N 0 (by omega) (by omega) l.f.places [] rfl (by simp)
  have e' : I_PosesOf_1 N 0 (freeJ l) l l.f.places [] = some (freeJ l, a', (pAll l.f.places (freeJ l)).filter (isPs l)) := e
  rw [e']; rfl
theorem posesS_s (hN : 4000000 ≤ N) {l : Lnk} (hp : l.f.places.length ≤ 3000000) (hg : l.ground.length ≤ 3000000) : S_PosesOf N l = some (posesL l, isLk l) := by
 unfold S_PosesOf posesL
 rw [freeS_s N hN hp hg, Option.bind_some, isLkS_s N hN hp hg, Option.bind_some]
 cases h : isLk l with
 | false => rfl
 | true =>
  obtain ⟨h1, h2, h3⟩ := free_facts h
  rw [Bool.not_true, cnd_false, cnd_true]
  have hb : 25 ^ (freeJ l).length ≤ 625 := Nat.pow_le_pow_right (n := 25) (by omega) h1
  have hnd : ((freeJ l).map Int.toNat).Nodup := by
   rw [List.Nodup, List.pairwise_map]
   refine List.Pairwise.imp_of_mem (fun {a b} ha hb hab => ?_) h2
   have := h3 a ha; have := h3 b hb; omega
  rw [← pAll_codes hnd]
  refine fold (N := N) (len := 25 ^ (freeJ l).length) (st := fun c => ((List.range c).map (asgR (freeJ l).reverse l.f.places)).filter (isPs l)) (F := fun m s => S_PosesOf_l1 N l (freeJ l) (fun (l45 : List (List (Int × Int))) => some (l45, true)) m s) (by omega) (fun m c hc => ?_) fun m => ?_
  ·show S_PosesOf_l1 N l (freeJ l) _ (m + 1) (((List.range c).map (asgR (freeJ l).reverse l.f.places)).filter (isPs l), (c : Int)) = S_PosesOf_l1 N l (freeJ l) _ m (((List.range (c + 1)).map (asgR (freeJ l).reverse l.f.places)).filter (isPs l), ((c + 1 : Nat) : Int))
   have hfl : (((List.range c).map (asgR (freeJ l).reverse l.f.places)).filter (isPs l)).length ≤ c := Nat.le_trans (List.length_filter_le _ _) (by simp)
   have hd := codes2_s (N := N) hN h3 h1 (fun (l83 : List (Int × Int)) =>
      grd ((([] : List (Int × Int)) ++ l.f.places).length = l83.length) <|
      (S_IsPose N l l83).bind fun v84 =>
      cnd v84 (
       grd ((((List.range c).map (asgR (freeJ l).reverse l.f.places)).filter (isPs l)).length + 1 ≤ 4294967296) <|
       grd (Rg64 ((c : Int) + (1 : Int))) <|
       S_PosesOf_l1 N l (freeJ l) (fun (l45 : List (List (Int × Int))) => some (l45, true)) m ((((List.range c).map (asgR (freeJ l).reverse l.f.places)).filter (isPs l) ++ ([l83] : List (List (Int × Int)))), ((c : Int) + (1 : Int)))) (
       grd (Rg64 ((c : Int) + (1 : Int))) <|
       S_PosesOf_l1 N l (freeJ l) (fun (l45 : List (List (Int × Int))) => some (l45, true)) m (((List.range c).map (asgR (freeJ l).reverse l.f.places)).filter (isPs l), ((c : Int) + (1 : Int))))) N (freeJ l).length c l.f.places (Nat.le_refl _) (by omega) (by omega) rfl
   rw [S_PosesOf_l1, pow25_s hN h1, Option.bind_some, cnd_dt (by omega), grd_pos (by omega), grd_R (by omega) (by omega)]
   refine hd.trans ?_
   show grd _ _ = _
   rw [List.take_length, grd_pos (by rw [asgR_len]; rfl), isPoseS_s N hN hp hg, Option.bind_some, grd_pos (by omega), grd_R (by omega) (by omega), grd_R (by omega) (by omega), succ_cast, List.range_succ, List.map_append, List.filter_append]
   cases hq : isPs l (asgR (freeJ l).reverse l.f.places c) with
   | true => rw [cnd_true]; simp [hq]
   | false => rw [cnd_false]; simp [hq]
  ·show S_PosesOf_l1 N l (freeJ l) _ (m + 1) (((List.range (25 ^ (freeJ l).length)).map (asgR (freeJ l).reverse l.f.places)).filter (isPs l), ((25 ^ (freeJ l).length : Nat) : Int)) = _
   rw [S_PosesOf_l1, pow25_s hN h1, Option.bind_some, cnd_df (by omega)]
end Go.Proofs.Ytgindcgphnbnaaa
namespace Go.Proofs.Ytgindcgphnbnaaa
open Go.RowKit Go.Deep
def L_toRaiseS_l1 (N : Nat) (a_0 : List (Int × List Int)) (k : (List (Int × List Int)) → Option (List (Int × List Int))) : Nat → ((List (Int × List Int)) × Int) → Option (List (Int × List Int))
 | 0, _ => none
 | n + 1, (l9, i10) =>
  cnd (decide (i10 < (a_0.length : Int))) (
   grd (0 ≤ i10 ∧ i10 < (a_0.length : Int)) <|
   (L_toRaise N (⟨(a_0.getD ((i10).toNat) (0, [])).1, (a_0.getD ((i10).toNat) (0, [])).2⟩ : Rse)).bind fun v12 =>
   grd (0 ≤ i10 ∧ i10 < ((List.replicate (((a_0.length : Int)).toNat) ((0, []) : (Int × List Int))).length : Int)) <|
   grd (0 ≤ i10 ∧ i10 < (l9.length : Int)) <|
   grd (Rg64 (i10 + (1 : Int))) <|
   L_toRaiseS_l1 N a_0 k n ((l9.set ((i10).toNat) (v12.p, v12.bars)), (i10 + (1 : Int)))) (
   k l9)
def L_toRaiseS (N : Nat) (a_0 : List (Int × List Int)) : Option (List (Int × List Int)) :=
 grd (0 ≤ (a_0.length : Int) ∧ (a_0.length : Int) ≤ 4294967296) <|
 L_toRaiseS_l1 N a_0 (fun (l6 : List (Int × List Int)) =>
    grd ((List.replicate (((a_0.length : Int)).toNat) ((0, []) : (Int × List Int))).length = l6.length) <|
    some l6) N ((List.replicate (((a_0.length : Int)).toNat) ((0, []) : (Int × List Int))), (0 : Int))
end Go.Proofs.Ytgindcgphnbnaaa
namespace Go.Proofs.Ytgindcgphnbnaaa
open Go.ChangeShapes Go.WideShapes Go.ChangeAt Go.RowKit Go.Deep
section
variable {H : Type} {enc : TypeId × Value → H} {P : Program} {w : World} {spare : Nat → Bool} {held : Bool} {fuel : Nat} {cs : List Value} {x : DataW H × List MemPlace}
end
variable (N : Nat)
def lnRaiseS (a : List (Int × List Int)) : Nat := a.length + (a.map fun x => x.2.length).sum
theorem sum_le_mem : ∀ (l : List Nat) (x : Nat), x ∈ l → x ≤ l.sum
 | y :: l, x, h => by
  rcases List.mem_cons.1 h with rfl | h
  ·simp
  ·have := sum_le_mem l x h; simp; omega
theorem lnRaiseS_in {a : List (Int × List Int)} {x : Int × List Int} (h : x ∈ a) : x.2.length ≤ lnRaiseS a := by
 have := sum_le_mem (a.map fun x => x.2.length) x.2.length (List.mem_map.2 ⟨x, h, rfl⟩)
 unfold lnRaiseS; omega
theorem toRaiseS_l (hN : 4000000 ≤ N) {a : List (Int × List Int)} (ha : lnRaiseS a ≤ 1048576) (k : List (Int × List Int) → Option (List (Int × List Int))) : ∀ n i : Nat, i ≤ a.length → a.length < n + i → L_toRaiseS_l1 N a k n (cpy a (0, []) i, (i : Int)) = k a := by
 intro n
 have hal : a.length ≤ 1048576 := by unfold lnRaiseS at ha; omega
 induction n with
 | zero => intro i h1 h2; omega
 | succ n ih =>
  intro i h1 h2
  have hl := cpy_len a (0, []) i
  rw [L_toRaiseS_l1]
  by_cases hi : i < a.length
  ·have hg : a.getD i (0, []) = a[i] := by simp [hi]
   have e : ((i : Int)).toNat = i := by omega
   have hb : (a[i]).2.length ≤ 1048576 := by have := lnRaiseS_in (List.getElem_mem hi); omega
   have gi : 0 ≤ (i : Int) ∧ (i : Int) < (a.length : Int) := by omega
   have gl : 0 ≤ (i : Int) ∧ (i : Int) < ((cpy a (0, []) i).length : Int) := by omega
   have gr : 0 ≤ (i : Int) ∧ (i : Int) < ((List.replicate (((a.length : Int)).toNat) ((0, []) : (Int × List Int))).length : Int) := by rw [List.length_replicate]; omega
   rw [cnd_dt (by omega), grd_pos gi, e, toRaise_s N hN (a := ⟨(a.getD i (0, [])).1, (a.getD i (0, [])).2⟩) (by rw [hg]; exact hb), Option.bind_some, grd_pos gr, grd_pos gl, grd_R (by omega) (by omega), succ_cast]
   show L_toRaiseS_l1 N a k n ((cpy a (0, []) i).set i ((a.getD i (0, [])).1, (a.getD i (0, [])).2), _) = _
   rw [cpy_set a (0, []) (0, []) i hi rfl]
   exact ih (i + 1) (by omega) (by omega)
  ·rw [cnd_df (by omega)]
   obtain rfl : i = a.length := by omega
   rw [cpy_full]
theorem toRaiseS_s (hN : 4000000 ≤ N) {a : List (Int × List Int)} (ha : lnRaiseS a ≤ 1048576) : L_toRaiseS N a = some a := by
 have hal : a.length ≤ 1048576 := by unfold lnRaiseS at ha; omega
 unfold L_toRaiseS
 have h := toRaiseS_l N hN ha (fun l9 => grd ((List.replicate (((a.length : Int)).toNat) ((0, []) : (Int × List Int))).length = l9.length) <| some l9) N 0 (by omega) (by omega)
 simp only [Int.toNat_natCast, cpy_zero] at h ⊢
 have g0 : 0 ≤ (a.length : Int) ∧ (a.length : Int) ≤ 4294967296 := by omega
 rw [grd_pos g0]
 refine h.trans ?_
 rw [grd_pos (by rw [cpy_len])]
theorem eqRaiseS_l (hN : 4000000 ≤ N) {a : List (Int × List Int)} (ha : lnRaiseS a ≤ 1048576) (k : Unit → Option Bool) : ∀ n i : Nat, i ≤ a.length → a.length < n + i → L_eqRaiseS_l1 N a a k n (i : Int) = k () := by
 intro n
 have hal : a.length ≤ 1048576 := by unfold lnRaiseS at ha; omega
 induction n with
 | zero => intro i h1 h2; omega
 | succ n ih =>
  intro i h1 h2
  rw [L_eqRaiseS_l1]
  by_cases hi : i < a.length
  ·have hg : a.getD i (0, []) = a[i] := by simp [hi]
   have e : ((i : Int)).toNat = i := by omega
   have hb : (a[i]).2.length ≤ 1048576 := by have := lnRaiseS_in (List.getElem_mem hi); omega
   have gi : 0 ≤ (i : Int) ∧ (i : Int) < (a.length : Int) := by omega
   rw [cnd_dt (by omega), grd_pos gi, grd_pos gi, e, eqRaise_s N hN (a := ⟨(a.getD i (0, [])).1, (a.getD i (0, [])).2⟩) (by rw [hg]; exact hb), Option.bind_some, Bool.not_true, cnd_false, grd_R (by omega) (by omega), succ_cast]
   exact ih (i + 1) (by omega) (by omega)
  ·rw [cnd_df (by omega)]
theorem eqRaiseS_s (hN : 4000000 ≤ N) {a : List (Int × List Int)} (ha : lnRaiseS a ≤ 1048576) : L_eqRaiseS N a a = some true := by
 have hal : a.length ≤ 1048576 := by unfold lnRaiseS at ha; omega
 unfold L_eqRaiseS
 rw [bne_self_eq_false, cnd_false]
 exact eqRaiseS_l N hN ha (fun _ => some true) N 0 (by omega) (by omega)
end Go.Proofs.Ytgindcgphnbnaaa
namespace Go.Proofs.Ytgindcgphnbnaaa
open Go.RowKit
end Go.Proofs.Ytgindcgphnbnaaa
namespace Go.Proofs.Ytgindcgphnbnaaa
open Go.RowKit
def L_heldIntSS_l1 (N : Nat) (a_0 : List (List Int)) (k : Int → Option (Int)) : Nat → (Int × Int) → Option (Int)
 | 0, _ => none
 | n + 1, (k9, i10) =>
  cnd (decide (i10 < (a_0.length : Int))) (
   grd (0 ≤ i10 ∧ i10 < (a_0.length : Int)) <|
   (L_heldIntS N (a_0.getD ((i10).toNat) []) k9).bind fun v12 =>
   cnd (decide (v12 < (0 : Int))) (
    some (-1 : Int)) (
    grd (Rg64 (i10 + (1 : Int))) <|
    L_heldIntSS_l1 N a_0 k n (v12, (i10 + (1 : Int))))) (
   k k9)
def L_heldIntSS (N : Nat) (a_0 : List (List Int)) (k_1 : Int) : Option (Int) :=
 L_heldIntSS_l1 N a_0 (fun (k6 : Int) =>
    some k6) N (k_1, (0 : Int))
end Go.Proofs.Ytgindcgphnbnaaa
namespace Go.Proofs.Ytgindcgphnbnaaa
open Go.RowKit
end Go.Proofs.Ytgindcgphnbnaaa
namespace Go.Proofs.Ytgindcgphnbnaaa
open Go.RowKit
end Go.Proofs.Ytgindcgphnbnaaa
namespace Go.Proofs.Ytgindcgphnbnaaa
open Go.RowKit
def S_l26Bars_l1 (N : Nat) (p_0 : Pin) (done_1 : List Int) (v_2 : Int) (k : (List Int) → Option (List Int)) : Nat → ((List Int) × Int) → Option (List Int)
 | 0, _ => none
 | n + 1, (l41, i42) =>
  cnd (decide (i42 < (p_0.g.bars.length : Int))) (
   grd (0 ≤ i42 ∧ i42 < (p_0.g.bars.length : Int)) <|
   cnd (((p_0.g.bars.getD ((i42).toNat) (0, 0)).1) == v_2) (
    (S_l4Other N (p_0.g.bars.getD ((i42).toNat) (0, 0)) v_2).bind fun v49 =>
    (S_l2Has N p_0.ground v49).bind fun v50 =>
    cnd v50 (
     grd (l41.length + 1 ≤ 4294967296) <|
     grd (Rg64 (i42 + (1 : Int))) <|
     S_l26Bars_l1 N p_0 done_1 v_2 k n ((l41 ++ ([i42] : List Int)), (i42 + (1 : Int)))) (
     (S_l2Has N done_1 v49).bind fun v51 =>
     cnd v51 (
      grd (l41.length + 1 ≤ 4294967296) <|
      grd (Rg64 (i42 + (1 : Int))) <|
      S_l26Bars_l1 N p_0 done_1 v_2 k n ((l41 ++ ([i42] : List Int)), (i42 + (1 : Int)))) (
      grd (Rg64 (i42 + (1 : Int))) <|
      S_l26Bars_l1 N p_0 done_1 v_2 k n (l41, (i42 + (1 : Int)))))) (
    cnd (((p_0.g.bars.getD ((i42).toNat) (0, 0)).2) == v_2) (
     (S_l4Other N (p_0.g.bars.getD ((i42).toNat) (0, 0)) v_2).bind fun v52 =>
     (S_l2Has N p_0.ground v52).bind fun v53 =>
     cnd v53 (
      grd (l41.length + 1 ≤ 4294967296) <|
      grd (Rg64 (i42 + (1 : Int))) <|
      S_l26Bars_l1 N p_0 done_1 v_2 k n ((l41 ++ ([i42] : List Int)), (i42 + (1 : Int)))) (
      (S_l2Has N done_1 v52).bind fun v54 =>
      cnd v54 (
       grd (l41.length + 1 ≤ 4294967296) <|
       grd (Rg64 (i42 + (1 : Int))) <|
       S_l26Bars_l1 N p_0 done_1 v_2 k n ((l41 ++ ([i42] : List Int)), (i42 + (1 : Int)))) (
       grd (Rg64 (i42 + (1 : Int))) <|
       S_l26Bars_l1 N p_0 done_1 v_2 k n (l41, (i42 + (1 : Int)))))) (
     grd (Rg64 (i42 + (1 : Int))) <|
     S_l26Bars_l1 N p_0 done_1 v_2 k n (l41, (i42 + (1 : Int)))))) (
   k l41)
def S_l26Bars (N : Nat) (p_0 : Pin) (done_1 : List Int) (v_2 : Int) : Option (List Int) :=
 S_l26Bars_l1 N p_0 done_1 v_2 (fun (l27 : List Int) =>
    some l27) N (([] : List Int), (0 : Int))
set_option maxRecDepth 20000 in
set_option maxHeartbeats 1600000 in
theorem S_l26Bars_w (N : Nat) (p_0 : Pin) (done_1 : List Int) (v_2 : Int) (r : List Int) (h : S_l26Bars N p_0 done_1 v_2 = some r) : PCall Try.prog 86 [pD p_0, .ro false (.ints done_1), .int v_2] [(3, .ints r)] (.row 0 0 r.length) := by
 unfold S_l26Bars at h
 refine pcall_intro (TT := TT) tt Try.func86 rfl rfl Try.ntmps86 (congrArg Array.toList Try.results86) rfl rfl fun w0 => ?_
 refine vSeq ?_
 refine vRegion ?_
 refine oBox rfl rfl rfl rfl rfl rfl rfl rfl rfl ?_
 refine oVal tt rfl rfl rfl rfl rfl trivial ?_
 refine vNil ?_
 change VC _ _ _ _
 refine vSeq ?_
 refine vRegion ?_
 refine oEmpty tt (wNone rfl) rfl rfl rfl rfl ?_
 refine oVal tt rfl rfl rfl rfl rfl trivial ?_
 refine vNil ?_
 change VC _ _ _ _
 iterate 2 refine vSeq ?_
 refine vRegion ?_
 refine oVal tt rfl rfl rfl rfl rfl trivial ?_
 refine vNil ?_
 change VC _ _ _ _
 refine vJoin (F := fun k => S_l26Bars_l1 N p_0 done_1 v_2 k) h (α := List Int) (J := fun (l27 : List Int) => (⟨[(7, .row 51 0 l27.length)], [(51, some (3, .ints l27))], []⟩ : PS)) ?_ ?_
 ·rintro l27 h
  show VC _ _ _ (⟨[(7, .row 51 0 l27.length)], [(51, some (3, .ints l27))], []⟩ : PS)
  refine vSeq ?_
  refine vRegion ?_
  iterate 2 refine oVal tt rfl rfl rfl rfl rfl trivial ?_
  refine vNil ?_
  change VC _ _ _ _
  refine vRet ?_
  change ∃ _, _
  cases h
  exact ⟨[51], _, rfl, ⟨rfl, trivial⟩, rfl, (.eq rfl), rfl⟩
 ·intro k h
  refine vBlock ?_
  refine vNilT 7 51 3 (.ints []) rfl rfl rfl rfl ?_
  refine vLoopS (α := (List Int) × Int) (fun | (l41, i42) => (⟨[(1, .ro false (.ints done_1)), (2, .int v_2), (3, .ptr 3 0), (7, .row 51 0 l41.length), (8, .int i42)], [(51, some (3, .ints l41))], [(3, some [.int p_0.g.n, .ro false (.pairs p_0.g.bars), .ro false (.ints p_0.ground)])]⟩ : PS)) (S_l26Bars_l1 N p_0 done_1 v_2 k) h (En.of ⟨rfl, rfl, rfl, rfl, rfl, trivial⟩ ⟨rfl, trivial⟩ ⟨rfl, trivial⟩) (fun _ => rfl) ?_
  rintro n ⟨l41, i42⟩ h
  rw [S_l26Bars_l1] at h
  show VC _ _ _ (⟨[(1, .ro false (.ints done_1)), (2, .int v_2), (3, .ptr 3 0), (7, .row 51 0 l41.length), (8, .int i42)], [(51, some (3, .ints l41))], [(3, some [.int p_0.g.n, .ro false (.pairs p_0.g.bars), .ro false (.ints p_0.ground)])]⟩ : PS)
  iterate 2 refine vSeq ?_
  refine vRegion ?_
  iterate 6 refine oVal tt rfl rfl rfl rfl rfl trivial ?_
  refine vNil ?_
  change VC _ _ _ _
  refine vCond rfl (fun hb1 => ?_) (fun hb1 => ?_)
  ·replace h := cnd_t hb1 h
   refine vSkip ?_
   change VC _ _ _ _
   refine vSeq ?_
   refine vBlock ?_
   refine vSeq ?_
   refine vRegion ?_
   iterate 4 refine oVal tt rfl rfl rfl rfl rfl trivial ?_
   obtain ⟨hg2, h⟩ := grd_inv h
   refine oVal tt rfl rfl rfl rfl rfl hg2 ?_
   refine oVal tt rfl rfl rfl rfl rfl trivial ?_
   refine oAlloc tt rfl rfl rfl rfl rfl rfl rfl rfl rfl ?_
   refine oStore tt rfl rfl rfl rfl rfl rfl rfl rfl rfl rfl rfl ⟨trivial, trivial, trivial⟩ ?_
   refine vNil ?_
   change VC _ _ _ _
   refine vSeq ?_
   refine vRegion ?_
   iterate 5 refine oVal tt rfl rfl rfl rfl rfl trivial ?_
   refine oSplit rfl rfl rfl (fun hb3 => ?_) (fun hb3 => ?_)
   ·replace h := cnd_t hb3 h
    iterate 4 refine oNoF rfl rfl rfl rfl hb3 rfl rfl ?_
    refine oPick rfl rfl rfl rfl rfl hb3 rfl ?_
    refine vNil ?_
    change VC _ _ _ _
    refine vCondT rfl rfl ?_
    refine vSeq ?_
    refine vRegion ?_
    iterate 2 refine oVal tt rfl rfl rfl rfl rfl trivial ?_
    obtain ⟨v49, hc4, h⟩ := bind_inv h
    refine oCall (S_l4Other_w N (p_0.g.bars.getD ((i42).toNat) (0, 0)) v_2 v49 hc4) rfl rfl rfl rfl rfl rfl rfl rfl ⟨⟨rfl, rfl, trivial⟩, rfl, trivial⟩ ?_
    refine oVal tt rfl rfl rfl rfl rfl trivial ?_
    refine vNil ?_
    change VC _ _ _ _
    refine vSeq ?_
    refine vRegion ?_
    iterate 3 refine oVal tt rfl rfl rfl rfl rfl trivial ?_
    obtain ⟨v50, hc5, h⟩ := bind_inv h
    refine oCall (S_l2Has_w N p_0.ground v49 v50 hc5) rfl rfl rfl rfl rfl rfl rfl rfl ⟨rfl, rfl, trivial⟩ ?_
    refine oVal tt rfl rfl rfl rfl rfl trivial ?_
    refine oSplit rfl rfl rfl (fun hb6 => ?_) (fun hb6 => ?_)
    ·replace h := cnd_t hb6 h
     iterate 3 refine oNoF rfl rfl rfl rfl hb6 rfl rfl ?_
     refine oPick rfl rfl rfl rfl rfl hb6 rfl ?_
     refine vNil ?_
     change VC _ _ _ _
     refine vCondT rfl rfl ?_
     refine vRegion ?_
     iterate 2 refine oVal tt rfl rfl rfl rfl rfl trivial ?_
     refine oBuild tt rfl rfl rfl rfl rfl rfl rfl rfl rfl rfl rfl ?_
     obtain ⟨hg7, h⟩ := grd_inv h
     refine oAppend tt rfl rfl rfl rfl rfl rfl rfl rfl rfl rfl rfl rfl rfl rfl rfl rfl (Nat.le_of_eq (Nat.zero_add _)) hg7 ?_
     refine oVal tt rfl rfl rfl rfl rfl trivial ?_
     refine vNil ?_
     change VC _ _ _ _
     refine vRegion ?_
     refine oVal tt rfl rfl rfl rfl rfl trivial ?_
     obtain ⟨hg8, h⟩ := grd_inv h
     refine oVal tt rfl rfl rfl rfl rfl hg8 ?_
     refine oVal tt rfl rfl rfl rfl rfl trivial ?_
     refine vNil ?_
     change ∃ _, _
     exact ⟨((l41 ++ ([i42] : List Int)), (i42 + (1 : Int))), (En.of ⟨rfl, rfl, rfl, rfl, rfl, trivial⟩ ⟨rfl, trivial⟩ ⟨rfl, trivial⟩), h⟩
    ·replace h := cnd_f hb6 h
     iterate 2 refine oValG tt rfl rfl rfl rfl rfl hb6 rfl rfl rfl trivial ?_
     obtain ⟨v51, hc9, h⟩ := bind_inv h
     refine oCallG (S_l2Has_w N done_1 v49 v51 hc9) rfl rfl rfl rfl hb6 rfl rfl rfl rfl rfl rfl rfl ⟨rfl, rfl, trivial⟩ ?_
     refine oPickF rfl rfl rfl rfl rfl hb6 rfl ?_
     refine vNil ?_
     change VC _ _ _ _
     refine vCond rfl (fun hb10 => ?_) (fun hb10 => ?_)
     ·replace h := cnd_t hb10 h
      refine vRegion ?_
      iterate 2 refine oVal tt rfl rfl rfl rfl rfl trivial ?_
      refine oBuild tt rfl rfl rfl rfl rfl rfl rfl rfl rfl rfl rfl ?_
      obtain ⟨hg11, h⟩ := grd_inv h
      refine oAppend tt rfl rfl rfl rfl rfl rfl rfl rfl rfl rfl rfl rfl rfl rfl rfl rfl (Nat.le_of_eq (Nat.zero_add _)) hg11 ?_
      refine oVal tt rfl rfl rfl rfl rfl trivial ?_
      refine vNil ?_
      change VC _ _ _ _
      refine vRegion ?_
      refine oVal tt rfl rfl rfl rfl rfl trivial ?_
      obtain ⟨hg12, h⟩ := grd_inv h
      refine oVal tt rfl rfl rfl rfl rfl hg12 ?_
      refine oVal tt rfl rfl rfl rfl rfl trivial ?_
      refine vNil ?_
      change ∃ _, _
      exact ⟨((l41 ++ ([i42] : List Int)), (i42 + (1 : Int))), (En.of ⟨rfl, rfl, rfl, rfl, rfl, trivial⟩ ⟨rfl, trivial⟩ ⟨rfl, trivial⟩), h⟩
     ·replace h := cnd_f hb10 h
      refine vSkip ?_
      change VC _ _ _ _
      refine vRegion ?_
      refine oVal tt rfl rfl rfl rfl rfl trivial ?_
      obtain ⟨hg13, h⟩ := grd_inv h
      refine oVal tt rfl rfl rfl rfl rfl hg13 ?_
      refine oVal tt rfl rfl rfl rfl rfl trivial ?_
      refine vNil ?_
      change ∃ _, _
      exact ⟨(l41, (i42 + (1 : Int))), (En.of ⟨rfl, rfl, rfl, rfl, rfl, trivial⟩ ⟨rfl, trivial⟩ ⟨rfl, trivial⟩), h⟩
   ·replace h := cnd_f hb3 h
    iterate 4 refine oValG tt rfl rfl rfl rfl rfl hb3 rfl rfl rfl trivial ?_
    refine oPickF rfl rfl rfl rfl rfl hb3 rfl ?_
    refine vNil ?_
    change VC _ _ _ _
    refine vCond rfl (fun hb14 => ?_) (fun hb14 => ?_)
    ·replace h := cnd_t hb14 h
     refine vSeq ?_
     refine vRegion ?_
     iterate 2 refine oVal tt rfl rfl rfl rfl rfl trivial ?_
     obtain ⟨v52, hc15, h⟩ := bind_inv h
     refine oCall (S_l4Other_w N (p_0.g.bars.getD ((i42).toNat) (0, 0)) v_2 v52 hc15) rfl rfl rfl rfl rfl rfl rfl rfl ⟨⟨rfl, rfl, trivial⟩, rfl, trivial⟩ ?_
     refine oVal tt rfl rfl rfl rfl rfl trivial ?_
     refine vNil ?_
     change VC _ _ _ _
     refine vSeq ?_
     refine vRegion ?_
     iterate 3 refine oVal tt rfl rfl rfl rfl rfl trivial ?_
     obtain ⟨v53, hc16, h⟩ := bind_inv h
     refine oCall (S_l2Has_w N p_0.ground v52 v53 hc16) rfl rfl rfl rfl rfl rfl rfl rfl ⟨rfl, rfl, trivial⟩ ?_
     refine oVal tt rfl rfl rfl rfl rfl trivial ?_
     refine oSplit rfl rfl rfl (fun hb17 => ?_) (fun hb17 => ?_)
     ·replace h := cnd_t hb17 h
      iterate 3 refine oNoF rfl rfl rfl rfl hb17 rfl rfl ?_
      refine oPick rfl rfl rfl rfl rfl hb17 rfl ?_
      refine vNil ?_
      change VC _ _ _ _
      refine vCondT rfl rfl ?_
      refine vRegion ?_
      iterate 2 refine oVal tt rfl rfl rfl rfl rfl trivial ?_
      refine oBuild tt rfl rfl rfl rfl rfl rfl rfl rfl rfl rfl rfl ?_
      obtain ⟨hg18, h⟩ := grd_inv h
      refine oAppend tt rfl rfl rfl rfl rfl rfl rfl rfl rfl rfl rfl rfl rfl rfl rfl rfl (Nat.le_of_eq (Nat.zero_add _)) hg18 ?_
      refine oVal tt rfl rfl rfl rfl rfl trivial ?_
      refine vNil ?_
      change VC _ _ _ _
      refine vRegion ?_
      refine oVal tt rfl rfl rfl rfl rfl trivial ?_
      obtain ⟨hg19, h⟩ := grd_inv h
      refine oVal tt rfl rfl rfl rfl rfl hg19 ?_
      refine oVal tt rfl rfl rfl rfl rfl trivial ?_
      refine vNil ?_
      change ∃ _, _
      exact ⟨((l41 ++ ([i42] : List Int)), (i42 + (1 : Int))), (En.of ⟨rfl, rfl, rfl, rfl, rfl, trivial⟩ ⟨rfl, trivial⟩ ⟨rfl, trivial⟩), h⟩
     ·replace h := cnd_f hb17 h
      iterate 2 refine oValG tt rfl rfl rfl rfl rfl hb17 rfl rfl rfl trivial ?_
      obtain ⟨v54, hc20, h⟩ := bind_inv h
      refine oCallG (S_l2Has_w N done_1 v52 v54 hc20) rfl rfl rfl rfl hb17 rfl rfl rfl rfl rfl rfl rfl ⟨rfl, rfl, trivial⟩ ?_
      refine oPickF rfl rfl rfl rfl rfl hb17 rfl ?_
      refine vNil ?_
      change VC _ _ _ _
      refine vCond rfl (fun hb21 => ?_) (fun hb21 => ?_)
      ·replace h := cnd_t hb21 h
       refine vRegion ?_
       iterate 2 refine oVal tt rfl rfl rfl rfl rfl trivial ?_
       refine oBuild tt rfl rfl rfl rfl rfl rfl rfl rfl rfl rfl rfl ?_
       obtain ⟨hg22, h⟩ := grd_inv h
       refine oAppend tt rfl rfl rfl rfl rfl rfl rfl rfl rfl rfl rfl rfl rfl rfl rfl rfl (Nat.le_of_eq (Nat.zero_add _)) hg22 ?_
       refine oVal tt rfl rfl rfl rfl rfl trivial ?_
       refine vNil ?_
       change VC _ _ _ _
       refine vRegion ?_
       refine oVal tt rfl rfl rfl rfl rfl trivial ?_
       obtain ⟨hg23, h⟩ := grd_inv h
       refine oVal tt rfl rfl rfl rfl rfl hg23 ?_
       refine oVal tt rfl rfl rfl rfl rfl trivial ?_
       refine vNil ?_
       change ∃ _, _
       exact ⟨((l41 ++ ([i42] : List Int)), (i42 + (1 : Int))), (En.of ⟨rfl, rfl, rfl, rfl, rfl, trivial⟩ ⟨rfl, trivial⟩ ⟨rfl, trivial⟩), h⟩
      ·replace h := cnd_f hb21 h
       refine vSkip ?_
       change VC _ _ _ _
       refine vRegion ?_
       refine oVal tt rfl rfl rfl rfl rfl trivial ?_
       obtain ⟨hg24, h⟩ := grd_inv h
       refine oVal tt rfl rfl rfl rfl rfl hg24 ?_
       refine oVal tt rfl rfl rfl rfl rfl trivial ?_
       refine vNil ?_
       change ∃ _, _
       exact ⟨(l41, (i42 + (1 : Int))), (En.of ⟨rfl, rfl, rfl, rfl, rfl, trivial⟩ ⟨rfl, trivial⟩ ⟨rfl, trivial⟩), h⟩
    ·replace h := cnd_f hb14 h
     refine vSkip ?_
     change VC _ _ _ _
     refine vRegion ?_
     refine oVal tt rfl rfl rfl rfl rfl trivial ?_
     obtain ⟨hg25, h⟩ := grd_inv h
     refine oVal tt rfl rfl rfl rfl rfl hg25 ?_
     refine oVal tt rfl rfl rfl rfl rfl trivial ?_
     refine vNil ?_
     change ∃ _, _
     exact ⟨(l41, (i42 + (1 : Int))), (En.of ⟨rfl, rfl, rfl, rfl, rfl, trivial⟩ ⟨rfl, trivial⟩ ⟨rfl, trivial⟩), h⟩
  ·replace h := cnd_f hb1 h
   refine vExit ?_
   change ∃ _, _
   exact ⟨l41, (En.of ⟨rfl, trivial⟩ ⟨rfl, trivial⟩ trivial), h⟩
end Go.Proofs.Ytgindcgphnbnaaa
namespace Go.Proofs.Ytgindcgphnbnaaa
open Go.RowKit
end Go.Proofs.Ytgindcgphnbnaaa
namespace Go.Proofs.Ytgindcgphnbnaaa
open Go.RowKit
end Go.Proofs.Ytgindcgphnbnaaa
namespace Go.Proofs.Ytgindcgphnbnaaa
open Go.RowKit
end Go.Proofs.Ytgindcgphnbnaaa
namespace Go.Proofs.Ytgindcgphnbnaaa
open Go.RowKit
end Go.Proofs.Ytgindcgphnbnaaa
namespace Go.Proofs.Ytgindcgphnbnaaa
open Go.RowKit
end Go.Proofs.Ytgindcgphnbnaaa
namespace Go.Proofs.Ytgindcgphnbnaaa
open Go.RowKit Go.Deep
def L_markRaiseS_l1 (N : Nat) (a_0 : List (Int × List Int)) (k : ((List (Int × List Int)) × Int) → Option (Int × (List (Int × List Int)))) : Nat → ((List (Int × List Int)) × Int × Int) → Option (Int × (List (Int × List Int)))
 | 0, _ => none
 | n + 1, (l11, k12, i13) =>
  cnd (decide (i13 < (a_0.length : Int))) (
   grd (0 ≤ i13 ∧ i13 < (a_0.length : Int)) <|
   grd (0 ≤ i13 ∧ i13 < (l11.length : Int)) <|
   grd (Rg64 (k12 + (1 : Int))) <|
   grd (0 ≤ i13 ∧ i13 < ((l11.set ((i13).toNat) (k12, (l11.getD ((i13).toNat) (0, [])).2)).length : Int)) <|
   (L_markIntS N (((l11.set ((i13).toNat) (k12, (l11.getD ((i13).toNat) (0, [])).2)).getD ((i13).toNat) (0, [])).2) (k12 + (1 : Int))).bind fun v15 =>
   grd (v15.2.length = (((l11.set ((i13).toNat) (k12, (l11.getD ((i13).toNat) (0, [])).2)).getD ((i13).toNat) (0, [])).2).length) <|
   grd (Rg64 (i13 + (1 : Int))) <|
   L_markRaiseS_l1 N a_0 k n (((l11.set ((i13).toNat) (k12, (l11.getD ((i13).toNat) (0, [])).2)).set ((i13).toNat) (((l11.set ((i13).toNat) (k12, (l11.getD ((i13).toNat) (0, [])).2)).getD ((i13).toNat) (0, [])).1, v15.2)), v15.1, (i13 + (1 : Int)))) (
   k (l11, k12))
def L_markRaiseS (N : Nat) (a_0 : List (Int × List Int)) (k_1 : Int) : Option (Int × (List (Int × List Int))) :=
 L_markRaiseS_l1 N a_0 (fun (x : (List (Int × List Int)) × Int) =>
   match x with
   | (l7, k8) =>
    some (k8, l7)) N (a_0, k_1, (0 : Int))
set_option maxRecDepth 20000 in
set_option maxHeartbeats 1600000 in
theorem L_markRaiseS_w (N : Nat) (a_0 : List (Int × List Int)) (k_1 : Int) (r : Int × (List (Int × List Int))) (h : L_markRaiseS N a_0 k_1 = some r) : MCall Try.prog 38 [.row 1000000 0 a_0.length, .int k_1] [1000000, 8589934602] [] [(93, dR 10 (.raises a_0)), (3, dF (.raises a_0))] [(93, dR 10 (.raises r.2)), (3, dF (.raises r.2))] [] [] (.int r.1) := by
 unfold L_markRaiseS at h
 refine mcall_intro (TT := TT) tt Try.func38 rfl rfl Try.ntmps38 (congrArg Array.toList Try.results38) rfl rfl rfl rfl rfl fun w0 O0 => ?_
 refine vSeq ?_
 refine vRegion ?_
 refine oVal tt rfl rfl rfl rfl rfl trivial ?_
 refine vNil ?_
 change VC _ _ _ _
 iterate 2 refine vSeq ?_
 refine vRegion ?_
 refine oVal tt rfl rfl rfl rfl rfl trivial ?_
 refine vNil ?_
 change VC _ _ _ _
 refine vJoin (F := fun k => L_markRaiseS_l1 N a_0 k) h (α := (List (Int × List Int)) × Int) (J := fun | (l7, k8) => (⟨[(1, .int k8)], [(1000000, some (93, dR 10 (.raises l7))), (8589934602, some (3, dF (.raises l7)))], []⟩ : PS)) ?_ ?_
 ·rintro ⟨l7, k8⟩ h
  show VC _ _ _ (⟨[(1, .int k8)], [(1000000, some (93, dR 10 (.raises l7))), (8589934602, some (3, dF (.raises l7)))], []⟩ : PS)
  refine vSeq ?_
  refine vRegion ?_
  iterate 2 refine oVal tt rfl rfl rfl rfl rfl trivial ?_
  refine vNil ?_
  change VC _ _ _ _
  refine vRet ?_
  change ∃ _, _
  cases h
  exact ⟨[1000000, 8589934602], rfl, ⟨rfl, rfl, trivial⟩, trivial, rfl⟩
 ·intro k h
  refine vBlock ?_
  refine vLoopS (α := (List (Int × List Int)) × Int × Int) (fun | (l11, k12, i13) => (⟨[(0, .row 1000000 0 a_0.length), (1, .int k12), (5, .int i13)], [(1000000, some (93, dR 10 (.raises l11))), (8589934602, some (3, dF (.raises l11)))], []⟩ : PS)) (L_markRaiseS_l1 N a_0 k) h (En.of ⟨rfl, rfl, rfl, trivial⟩ ⟨rfl, rfl, trivial⟩ trivial) (fun _ => rfl) ?_
  rintro n ⟨l11, k12, i13⟩ h
  rw [L_markRaiseS_l1] at h
  show VC _ _ _ (⟨[(0, .row 1000000 0 a_0.length), (1, .int k12), (5, .int i13)], [(1000000, some (93, dR 10 (.raises l11))), (8589934602, some (3, dF (.raises l11)))], []⟩ : PS)
  iterate 2 refine vSeq ?_
  refine vRegion ?_
  iterate 4 refine oVal tt rfl rfl rfl rfl rfl trivial ?_
  refine vNil ?_
  change VC _ _ _ _
  refine vCond rfl (fun hb1 => ?_) (fun hb1 => ?_)
  ·replace h := cnd_t hb1 h
   refine vSkip ?_
   change VC _ _ _ _
   refine vSeq ?_
   refine vBlock ?_
   refine vSeq ?_
   refine vRegion ?_
   iterate 3 refine oVal tt rfl rfl rfl rfl rfl trivial ?_
   obtain ⟨hg2, h⟩ := grd_inv h
   refine oVal tt rfl rfl rfl rfl rfl hg2 ?_
   obtain ⟨hg3, h⟩ := grd_inv h
   refine oVal tt rfl rfl rfl rfl rfl (by simpa [Sq.len, dR, idn_len, idr_len] using hg3) ?_
   refine oStore tt rfl rfl rfl rfl rfl rfl rfl rfl rfl rfl ⟨_, _, rfl, hg3.1, (by simpa [Sq.len, dR, idn_len, idr_len] using hg3.2)⟩ ⟨(by simpa [Sq.len, dR, idn_len, idr_len] using hg3), trivial⟩ ?_
   refine vEnO (En.eqR 1000000 rfl (congrArg (Sq.rrefs 10) (idr_set0 l11 ((i13).toNat) _ (by first | omega | (simp only [List.length_set, List.length_append, List.length_replicate] at *; omega))))) ?_
   refine vEnO (En.eqR 8589934602 rfl (congrArg (fun l => Sq.fam (.ints l)) (map_set0 l11 ((i13).toNat) k12 (by first | omega | (simp only [List.length_set, List.length_append, List.length_replicate] at *; omega))))) ?_
   refine vNil ?_
   change VC _ _ _ _
   refine vSeq ?_
   refine vRegion ?_
   refine oVal tt rfl rfl rfl rfl rfl trivial ?_
   obtain ⟨hg4, h⟩ := grd_inv h
   refine oVal tt rfl rfl rfl rfl rfl hg4 ?_
   refine oVal tt rfl rfl rfl rfl rfl trivial ?_
   refine vNil ?_
   change VC _ _ _ _
   refine vRegion ?_
   iterate 2 refine oVal tt rfl rfl rfl rfl rfl trivial ?_
   refine oVal tt rfl rfl rfl rfl rfl hg2 ?_
   obtain ⟨hg5, h⟩ := grd_inv h
   refine oVal tt rfl rfl rfl rfl rfl (by simpa [Sq.len, dR, idn_len, idr_len] using hg5) ?_
   refine oLoadD tt (wNone rfl) (.raises (l11.set ((i13).toNat) (k12, (l11.getD ((i13).toNat) (0, [])).2))) rfl rfl rfl rfl rfl rfl rfl rfl rfl hg5 ?_
   refine oVal tt rfl rfl rfl rfl rfl trivial ?_
   obtain ⟨v15, hc6, h⟩ := bind_inv h
   obtain ⟨hg7, h⟩ := grd_inv h
   refine oMCallI 1000000 (.raises ((l11.set ((i13).toNat) (k12, (l11.getD ((i13).toNat) (0, [])).2)).set ((i13).toNat) (((l11.set ((i13).toNat) (k12, (l11.getD ((i13).toNat) (0, [])).2)).getD ((i13).toNat) (0, [])).1, v15.2))) (L_markIntS_w N (((l11.set ((i13).toNat) (k12, (l11.getD ((i13).toNat) (0, [])).2)).getD ((i13).toNat) (0, [])).2) (k12 + (1 : Int)) v15 hc6) rfl rfl rfl rfl rfl rfl rfl rfl rfl (by simp only [Sq.len, List.length_set, List.length_append, List.length_replicate] at *; omega) (inR _ _ _ _ (by first | omega | (simp only [List.length_set, List.length_append, List.length_replicate] at *; omega)) hg7) hg7 rfl rfl ?_
   refine oVal tt rfl rfl rfl rfl rfl trivial ?_
   refine vNil ?_
   change VC _ _ _ _
   refine vRegion ?_
   refine oVal tt rfl rfl rfl rfl rfl trivial ?_
   obtain ⟨hg8, h⟩ := grd_inv h
   refine oVal tt rfl rfl rfl rfl rfl hg8 ?_
   refine oVal tt rfl rfl rfl rfl rfl trivial ?_
   refine vNil ?_
   change ∃ _, _
   exact ⟨(((l11.set ((i13).toNat) (k12, (l11.getD ((i13).toNat) (0, [])).2)).set ((i13).toNat) (((l11.set ((i13).toNat) (k12, (l11.getD ((i13).toNat) (0, [])).2)).getD ((i13).toNat) (0, [])).1, v15.2)), v15.1, (i13 + (1 : Int))), (En.of ⟨rfl, rfl, rfl, trivial⟩ ⟨rfl, rfl, trivial⟩ trivial), h⟩
  ·replace h := cnd_f hb1 h
   refine vExit ?_
   change ∃ _, _
   exact ⟨(l11, k12), (En.of ⟨rfl, trivial⟩ ⟨rfl, rfl, trivial⟩ trivial), h⟩
end Go.Proofs.Ytgindcgphnbnaaa
namespace Go.Proofs.Ytgindcgphnbnaaa
open Go.RowKit Go.Deep
end Go.Proofs.Ytgindcgphnbnaaa
namespace Go.Proofs.Ytgindcgphnbnaaa
open Go.RowKit Go.Deep
def L_markPlaceSS_l1 (N : Nat) (a_0 : List (List (Int × Int))) (k : ((List (List (Int × Int))) × Int) → Option (Int × (List (List (Int × Int))))) : Nat → ((List (List (Int × Int))) × Int × Int) → Option (Int × (List (List (Int × Int))))
 | 0, _ => none
 | n + 1, (l11, k12, i13) =>
  cnd (decide (i13 < (a_0.length : Int))) (
   grd (0 ≤ i13 ∧ i13 < (a_0.length : Int)) <|
   grd (0 ≤ i13 ∧ i13 < (l11.length : Int)) <|
   (L_markPlaceS N (l11.getD ((i13).toNat) []) k12).bind fun v15 =>
   grd (v15.2.length = (l11.getD ((i13).toNat) []).length) <|
   grd (Rg64 (i13 + (1 : Int))) <|
   L_markPlaceSS_l1 N a_0 k n ((l11.set ((i13).toNat) v15.2), v15.1, (i13 + (1 : Int)))) (
   k (l11, k12))
def L_markPlaceSS (N : Nat) (a_0 : List (List (Int × Int))) (k_1 : Int) : Option (Int × (List (List (Int × Int)))) :=
 L_markPlaceSS_l1 N a_0 (fun (x : (List (List (Int × Int))) × Int) =>
   match x with
   | (l7, k8) =>
    some (k8, l7)) N (a_0, k_1, (0 : Int))
set_option maxRecDepth 20000 in
set_option maxHeartbeats 1600000 in
theorem L_markPlaceSS_w (N : Nat) (a_0 : List (List (Int × Int))) (k_1 : Int) (r : Int × (List (List (Int × Int)))) (h : L_markPlaceSS N a_0 k_1 = some r) : MCall Try.prog 49 [.row 1000000 0 a_0.length, .int k_1] [1000000, 8589934602] [] [(62, dR 10 (.pairss a_0)), (118, dF (.pairss a_0))] [(62, dR 10 (.pairss r.2)), (118, dF (.pairss r.2))] [] [] (.int r.1) := by
 unfold L_markPlaceSS at h
 refine mcall_intro (TT := TT) tt Try.func49 rfl rfl Try.ntmps49 (congrArg Array.toList Try.results49) rfl rfl rfl rfl rfl fun w0 O0 => ?_
 refine vSeq ?_
 refine vRegion ?_
 refine oVal tt rfl rfl rfl rfl rfl trivial ?_
 refine vNil ?_
 change VC _ _ _ _
 iterate 2 refine vSeq ?_
 refine vRegion ?_
 refine oVal tt rfl rfl rfl rfl rfl trivial ?_
 refine vNil ?_
 change VC _ _ _ _
 refine vJoin (F := fun k => L_markPlaceSS_l1 N a_0 k) h (α := (List (List (Int × Int))) × Int) (J := fun | (l7, k8) => (⟨[(1, .int k8)], [(1000000, some (62, dR 10 (.pairss l7))), (8589934602, some (118, dF (.pairss l7)))], []⟩ : PS)) ?_ ?_
 ·rintro ⟨l7, k8⟩ h
  show VC _ _ _ (⟨[(1, .int k8)], [(1000000, some (62, dR 10 (.pairss l7))), (8589934602, some (118, dF (.pairss l7)))], []⟩ : PS)
  refine vSeq ?_
  refine vRegion ?_
  iterate 2 refine oVal tt rfl rfl rfl rfl rfl trivial ?_
  refine vNil ?_
  change VC _ _ _ _
  refine vRet ?_
  change ∃ _, _
  cases h
  exact ⟨[1000000, 8589934602], rfl, ⟨rfl, rfl, trivial⟩, trivial, rfl⟩
 ·intro k h
  refine vBlock ?_
  refine vLoopS (α := (List (List (Int × Int))) × Int × Int) (fun | (l11, k12, i13) => (⟨[(0, .row 1000000 0 a_0.length), (1, .int k12), (5, .int i13)], [(1000000, some (62, dR 10 (.pairss l11))), (8589934602, some (118, dF (.pairss l11)))], []⟩ : PS)) (L_markPlaceSS_l1 N a_0 k) h (En.of ⟨rfl, rfl, rfl, trivial⟩ ⟨rfl, rfl, trivial⟩ trivial) (fun _ => rfl) ?_
  rintro n ⟨l11, k12, i13⟩ h
  rw [L_markPlaceSS_l1] at h
  show VC _ _ _ (⟨[(0, .row 1000000 0 a_0.length), (1, .int k12), (5, .int i13)], [(1000000, some (62, dR 10 (.pairss l11))), (8589934602, some (118, dF (.pairss l11)))], []⟩ : PS)
  iterate 2 refine vSeq ?_
  refine vRegion ?_
  iterate 4 refine oVal tt rfl rfl rfl rfl rfl trivial ?_
  refine vNil ?_
  change VC _ _ _ _
  refine vCond rfl (fun hb1 => ?_) (fun hb1 => ?_)
  ·replace h := cnd_t hb1 h
   refine vSkip ?_
   change VC _ _ _ _
   refine vSeq ?_
   refine vBlock ?_
   refine vRegion ?_
   iterate 2 refine oVal tt rfl rfl rfl rfl rfl trivial ?_
   obtain ⟨hg2, h⟩ := grd_inv h
   refine oVal tt rfl rfl rfl rfl rfl hg2 ?_
   obtain ⟨hg3, h⟩ := grd_inv h
   refine oLoadD tt (wNone rfl) (.pairss l11) rfl rfl rfl rfl rfl rfl rfl rfl rfl hg3 ?_
   refine oVal tt rfl rfl rfl rfl rfl trivial ?_
   obtain ⟨v15, hc4, h⟩ := bind_inv h
   obtain ⟨hg5, h⟩ := grd_inv h
   refine oMCallI 1000000 (.pairss (l11.set ((i13).toNat) v15.2)) (L_markPlaceS_w N (l11.getD ((i13).toNat) []) k12 v15 hc4) rfl rfl rfl rfl rfl rfl rfl rfl rfl (by simp only [Sq.len, List.length_set, List.length_append, List.length_replicate] at *; omega) (inP _ _ _ _ (by first | omega | (simp only [List.length_set, List.length_append, List.length_replicate] at *; omega)) hg5) hg5 rfl rfl ?_
   refine oVal tt rfl rfl rfl rfl rfl trivial ?_
   refine vNil ?_
   change VC _ _ _ _
   refine vRegion ?_
   refine oVal tt rfl rfl rfl rfl rfl trivial ?_
   obtain ⟨hg6, h⟩ := grd_inv h
   refine oVal tt rfl rfl rfl rfl rfl hg6 ?_
   refine oVal tt rfl rfl rfl rfl rfl trivial ?_
   refine vNil ?_
   change ∃ _, _
   exact ⟨((l11.set ((i13).toNat) v15.2), v15.1, (i13 + (1 : Int))), (En.of ⟨rfl, rfl, rfl, trivial⟩ ⟨rfl, rfl, trivial⟩ trivial), h⟩
  ·replace h := cnd_f hb1 h
   refine vExit ?_
   change ∃ _, _
   exact ⟨(l11, k12), (En.of ⟨rfl, trivial⟩ ⟨rfl, rfl, trivial⟩ trivial), h⟩
end Go.Proofs.Ytgindcgphnbnaaa
namespace Go.Proofs.Ytgindcgphnbnaaa
variable {N : Nat}
def mkR (k : Int) : List Nat → List (Int × List Int)
 | [] => []
 | m :: l => (k, mkI (k + 1) m) :: mkR (k + 1 + (m : Int)) l
def mkII (k : Int) : List Nat → List (List Int)
 | [] => []
 | m :: l => mkI k m :: mkII (k + (m : Int)) l
def mkPP (k : Int) : List Nat → List (List (Int × Int))
 | [] => []
 | m :: l => mkP k m :: mkPP (k + 2 * (m : Int)) l
theorem mkR_len (k : Int) (l : List Nat) : (mkR k l).length = l.length := by
 induction l generalizing k with
 | nil => rfl
 | cons m l ih => simp [mkR, ih]
theorem mkII_len (k : Int) (l : List Nat) : (mkII k l).length = l.length := by
 induction l generalizing k with
 | nil => rfl
 | cons m l ih => simp [mkII, ih]
theorem mkPP_len (k : Int) (l : List Nat) : (mkPP k l).length = l.length := by
 induction l generalizing k with
 | nil => rfl
 | cons m l ih => simp [mkPP, ih]
theorem getD_at {α : Type} {a : List α} {x d : α} {b : List α} {i : Nat} (h : a.length = i) : (a ++ x :: b).getD i d = x := by subst h; simp
theorem set_at {α : Type} {a : List α} {x y : α} {b : List α} {i : Nat} (h : a.length = i) : (a ++ x :: b).set i y = a ++ y :: b := by subst h; simp
theorem app_shift {α : Type} (a b : List α) (x : α) : a ++ x :: b = (a ++ [x]) ++ b := by simp
theorem markRaiseS_l (hN : 4000000 ≤ N) {a : List (Int × List Int)} (ha : a.length ≤ 1048576) (kk : List (Int × List Int) × Int → Option (Int × List (Int × List Int))) : ∀ (rest : List (Int × List Int)) (pre : List (Int × List Int)) (k : Int) (n : Nat), pre.length + rest.length = a.length → rest.length < n → 0 ≤ k → k + (lnRaiseS rest : Int) ≤ 100000000 → lnRaiseS rest ≤ 1048576 →
  L_markRaiseS_l1 N a kk n (pre ++ rest, k, (pre.length : Int)) = kk (pre ++ mkR k (rest.map fun x => x.2.length), k + (lnRaiseS rest : Int)) := by
 intro rest
 induction rest with
 | nil =>
  intro pre k n h1 h2 h3 h4 h5
  cases n with
  | zero => simp at h2
  | succ n =>
   simp at h1
   rw [L_markRaiseS_l1, cnd_df (by omega)]
   simp [lnRaiseS, mkR]
 | cons r rest ih =>
  intro pre k n h1 h2 h3 h4 h5
  cases n with
  | zero => simp at h2
  | succ n =>
   simp at h1 h2
   have e0 : lnRaiseS (r :: rest) = 1 + r.2.length + lnRaiseS rest := by simp [lnRaiseS]; omega
   have hll : rest.length ≤ lnRaiseS rest := by unfold lnRaiseS; omega
   have e : ((pre.length : Int)).toNat = pre.length := by omega
   have g1 : 0 ≤ (pre.length : Int) ∧ (pre.length : Int) < (a.length : Int) := by omega
   have g2 : 0 ≤ (pre.length : Int) ∧ (pre.length : Int) < ((pre ++ r :: rest).length : Int) := by simp; omega
   have g3 : 0 ≤ (pre.length : Int) ∧ (pre.length : Int) < ((pre ++ (k, r.2) :: rest).length : Int) := by simp; omega
   have hr : r.2.length ≤ 1048576 := by omega
   rw [L_markRaiseS_l1, cnd_dt (by omega), grd_pos g1, grd_pos g2, grd_R (by omega) (by omega), e, getD_at rfl, set_at rfl, grd_pos g3, getD_at rfl]
   simp only
   rw [markIntS_s hN (by omega) hr, Option.bind_some]
   simp only
   rw [grd_pos (mkI_len _ _), grd_R (by omega) (by omega), set_at rfl, succ_cast, app_shift]
   have h6 : ((pre.length + 1 : Nat) : Int) = ((pre ++ [(k, mkI (k + 1) r.2.length)]).length : Int) := by simp
   rw [h6, ih _ _ _ (by simp; omega) (by omega) (by omega) (by omega) (by omega)]
   rw [List.map_cons, mkR, e0, ← app_shift]
   congr 2
   omega
theorem markRaiseS_s (hN : 4000000 ≤ N) {a : List (Int × List Int)} {k0 : Int} (hk : 0 ≤ k0 ∧ k0 ≤ 50000000) (ha : lnRaiseS a ≤ 1048576) : L_markRaiseS N a k0 = some (k0 + (lnRaiseS a : Int), mkR k0 (a.map fun x => x.2.length)) := by
 have hal : a.length ≤ 1048576 := by unfold lnRaiseS at ha; omega
 unfold L_markRaiseS
 exact markRaiseS_l hN hal _ a [] k0 N (by simp) (by omega) (by omega) (by omega) ha
theorem heldRaiseS_l (hN : 4000000 ≤ N) (kk : Int → Option Int) (a : List (Int × List Int)) : ∀ (ls : List Nat) (pre : List (Int × List Int)) (k : Int) (n : Nat), a = pre ++ mkR k ls → a.length ≤ 1048576 → ls.length < n → 0 ≤ k → k + ((ls.sum + ls.length : Nat) : Int) ≤ 100000000 → ls.sum ≤ 1048576 →
  L_heldRaiseS_l1 N a kk n (k, (pre.length : Int)) = kk (k + ((ls.sum + ls.length : Nat) : Int)) := by
 intro ls
 induction ls with
 | nil =>
  intro pre k n h1 h2 h3 h4 h5 h6
  cases n with
  | zero => simp at h3
  | succ n =>
   have : a.length = pre.length := by rw [h1]; simp [mkR]
   rw [L_heldRaiseS_l1, cnd_df (by omega)]
   simp
 | cons m ls ih =>
  intro pre k n h1 h2 h3 h4 h5 h6
  cases n with
  | zero => simp at h3
  | succ n =>
   simp at h3 h5 h6
   have hl : a.length = pre.length + (1 + ls.length) := by rw [h1]; simp [mkR, mkR_len]; omega
   have e : ((pre.length : Int)).toNat = pre.length := by omega
   have g1 : 0 ≤ (pre.length : Int) ∧ (pre.length : Int) < (a.length : Int) := by omega
   have hg : a.getD pre.length (0, []) = (k, mkI (k + 1) m) := by rw [h1, mkR, getD_at rfl]
   rw [L_heldRaiseS_l1, cnd_dt (by omega), grd_pos g1, e, hg]
   simp only [bne_self_eq_false, cnd_false]
   rw [grd_R (by omega) (by omega), heldIntS_s hN (by omega) (by omega), Option.bind_some, cnd_df (by omega), grd_R (by omega) (by omega), succ_cast]
   have h7 : ((pre.length + 1 : Nat) : Int) = ((pre ++ [(k, mkI (k + 1) m)]).length : Int) := by simp
   rw [h7, ih _ _ n (by rw [h1, mkR, app_shift]) h2 (by omega) (by omega) (by omega) (by omega)]
   congr 1
   simp
   omega
theorem heldRaiseS_s (hN : 4000000 ≤ N) {ls : List Nat} {k0 : Int} (hk : 0 ≤ k0 ∧ k0 ≤ 50000000) (h1 : ls.length ≤ 1048576) (h2 : ls.sum ≤ 1048576) : L_heldRaiseS N (mkR k0 ls) k0 = some (k0 + ((ls.sum + ls.length : Nat) : Int)) := by
 unfold L_heldRaiseS
 exact heldRaiseS_l hN _ (mkR k0 ls) ls [] k0 N rfl (by rw [mkR_len]; exact h1) (by omega) (by omega) (by omega) h2
end Go.Proofs.Ytgindcgphnbnaaa
namespace Go.Proofs.Ytgindcgphnbnaaa
variable {N : Nat}
def lnSS {α : Type} (a : List (List α)) : Nat := (a.map List.length).sum
theorem lnSS_bd {α : Type} {m : Nat} : ∀ {a : List (List α)}, (∀ x ∈ a, x.length ≤ m) → lnSS a ≤ a.length * m
 | [], _ => by simp [lnSS]
 | x :: a, h => by
  have h1 := h x (by simp)
  have h2 := lnSS_bd (a := a) fun y hy => h y (by simp [hy])
  have e : lnSS (x :: a) = x.length + lnSS a := by simp [lnSS]
  rw [e, List.length_cons, Nat.succ_mul]; omega
theorem heldIntSS_l (hN : 4000000 ≤ N) (kk : Int → Option Int) (a : List (List Int)) : ∀ (ls : List Nat) (pre : List (List Int)) (k : Int) (n : Nat), a = pre ++ mkII k ls → a.length ≤ 1048576 → ls.length < n → 0 ≤ k → k + ((ls.sum : Nat) : Int) ≤ 100000000 → ls.sum ≤ 1048576 →
  L_heldIntSS_l1 N a kk n (k, (pre.length : Int)) = kk (k + ((ls.sum : Nat) : Int)) := by
 intro ls
 induction ls with
 | nil =>
  intro pre k n h1 h2 h3 h4 h5 h6
  cases n with
  | zero => simp at h3
  | succ n =>
   have : a.length = pre.length := by rw [h1]; simp [mkII]
   rw [L_heldIntSS_l1, cnd_df (by omega)]
   simp
 | cons m ls ih =>
  intro pre k n h1 h2 h3 h4 h5 h6
  cases n with
  | zero => simp at h3
  | succ n =>
   simp at h3 h5 h6
   have hl : a.length = pre.length + (1 + ls.length) := by rw [h1]; simp [mkII, mkII_len]; omega
   have e : ((pre.length : Int)).toNat = pre.length := by omega
   have g1 : 0 ≤ (pre.length : Int) ∧ (pre.length : Int) < (a.length : Int) := by omega
   have hg : a.getD pre.length [] = mkI k m := by rw [h1, mkII, getD_at rfl]
   rw [L_heldIntSS_l1, cnd_dt (by omega), grd_pos g1, e, hg, heldIntS_s hN (by omega) (by omega), Option.bind_some, cnd_df (by omega), grd_R (by omega) (by omega), succ_cast]
   have h7 : ((pre.length + 1 : Nat) : Int) = ((pre ++ [mkI k m]).length : Int) := by simp
   rw [h7, ih _ _ n (by rw [h1, mkII, app_shift]) h2 (by omega) (by omega) (by omega) (by omega)]
   congr 1
   simp
   omega
theorem heldIntSS_s (hN : 4000000 ≤ N) {ls : List Nat} {k0 : Int} (hk : 0 ≤ k0 ∧ k0 ≤ 50000000) (h1 : ls.length ≤ 1048576) (h2 : ls.sum ≤ 1048576) : L_heldIntSS N (mkII k0 ls) k0 = some (k0 + ((ls.sum : Nat) : Int)) := by
 unfold L_heldIntSS
 exact heldIntSS_l hN _ (mkII k0 ls) ls [] k0 N rfl (by rw [mkII_len]; exact h1) (by omega) (by omega) (by omega) h2
theorem markPlaceSS_l (hN : 4000000 ≤ N) {a : List (List (Int × Int))} (ha : a.length ≤ 1048576) (kk : List (List (Int × Int)) × Int → Option (Int × List (List (Int × Int)))) : ∀ (rest : List (List (Int × Int))) (pre : List (List (Int × Int))) (k : Int) (n : Nat), pre.length + rest.length = a.length → rest.length < n → 0 ≤ k → k + 2 * (lnSS rest : Int) ≤ 100000000 → lnSS rest ≤ 1048576 →
  L_markPlaceSS_l1 N a kk n (pre ++ rest, k, (pre.length : Int)) = kk (pre ++ mkPP k (rest.map List.length), k + 2 * (lnSS rest : Int)) := by
 intro rest
 induction rest with
 | nil =>
  intro pre k n h1 h2 h3 h4 h5
  cases n with
  | zero => simp at h2
  | succ n =>
   simp at h1
   rw [L_markPlaceSS_l1, cnd_df (by omega)]
   simp [lnSS, mkPP]
 | cons r rest ih =>
  intro pre k n h1 h2 h3 h4 h5
  cases n with
  | zero => simp at h2
  | succ n =>
   simp at h1 h2
   have e0 : lnSS (r :: rest) = r.length + lnSS rest := by simp [lnSS]
   have e : ((pre.length : Int)).toNat = pre.length := by omega
   have g1 : 0 ≤ (pre.length : Int) ∧ (pre.length : Int) < (a.length : Int) := by omega
   have g2 : 0 ≤ (pre.length : Int) ∧ (pre.length : Int) < ((pre ++ r :: rest).length : Int) := by simp; omega
   have hr : r.length ≤ 1048576 := by omega
   rw [L_markPlaceSS_l1, cnd_dt (by omega), grd_pos g1, grd_pos g2, e, getD_at rfl, markPlaceS_s hN (by omega) hr, Option.bind_some]
   simp only
   rw [grd_pos (mkP_len _ _), grd_R (by omega) (by omega), set_at rfl, succ_cast, app_shift]
   have h6 : ((pre.length + 1 : Nat) : Int) = ((pre ++ [mkP k r.length]).length : Int) := by simp
   rw [h6, ih _ _ _ (by simp; omega) (by omega) (by omega) (by omega) (by omega)]
   rw [List.map_cons, mkPP, e0, ← app_shift]
   congr 2
   omega
theorem markPlaceSS_s (hN : 4000000 ≤ N) {a : List (List (Int × Int))} {k0 : Int} (hk : 0 ≤ k0 ∧ k0 ≤ 50000000) (hl : a.length ≤ 1048576) (ha : lnSS a ≤ 1048576) : L_markPlaceSS N a k0 = some (k0 + 2 * (lnSS a : Int), mkPP k0 (a.map List.length)) := by
 unfold L_markPlaceSS
 exact markPlaceSS_l hN hl _ a [] k0 N (by simp) (by omega) (by omega) (by omega) ha
theorem heldPlaceSS_l (hN : 4000000 ≤ N) (kk : Int → Option Int) (a : List (List (Int × Int))) : ∀ (ls : List Nat) (pre : List (List (Int × Int))) (k : Int) (n : Nat), a = pre ++ mkPP k ls → a.length ≤ 1048576 → ls.length < n → 0 ≤ k → k + 2 * ((ls.sum : Nat) : Int) ≤ 100000000 → ls.sum ≤ 1048576 →
  L_heldPlaceSS_l1 N a kk n (k, (pre.length : Int)) = kk (k + 2 * ((ls.sum : Nat) : Int)) := by
 intro ls
 induction ls with
 | nil =>
  intro pre k n h1 h2 h3 h4 h5 h6
  cases n with
  | zero => simp at h3
  | succ n =>
   have : a.length = pre.length := by rw [h1]; simp [mkPP]
   rw [L_heldPlaceSS_l1, cnd_df (by omega)]
   simp
 | cons m ls ih =>
  intro pre k n h1 h2 h3 h4 h5 h6
  cases n with
  | zero => simp at h3
  | succ n =>
   simp at h3 h5 h6
   have hl : a.length = pre.length + (1 + ls.length) := by rw [h1]; simp [mkPP, mkPP_len]; omega
   have e : ((pre.length : Int)).toNat = pre.length := by omega
   have g1 : 0 ≤ (pre.length : Int) ∧ (pre.length : Int) < (a.length : Int) := by omega
   have hg : a.getD pre.length [] = mkP k m := by rw [h1, mkPP, getD_at rfl]
   rw [L_heldPlaceSS_l1, cnd_dt (by omega), grd_pos g1, e, hg, heldPlaceS_s hN (by omega) (by omega), Option.bind_some, cnd_df (by omega), grd_R (by omega) (by omega), succ_cast]
   have h7 : ((pre.length + 1 : Nat) : Int) = ((pre ++ [mkP k m]).length : Int) := by simp
   rw [h7, ih _ _ n (by rw [h1, mkPP, app_shift]) h2 (by omega) (by omega) (by omega) (by omega)]
   congr 1
   simp
   omega
theorem heldPlaceSS_s (hN : 4000000 ≤ N) {ls : List Nat} {k0 : Int} (hk : 0 ≤ k0 ∧ k0 ≤ 50000000) (h1 : ls.length ≤ 1048576) (h2 : ls.sum ≤ 1048576) : L_heldPlaceSS N (mkPP k0 ls) k0 = some (k0 + 2 * ((ls.sum : Nat) : Int)) := by
 unfold L_heldPlaceSS
 exact heldPlaceSS_l hN _ (mkPP k0 ls) ls [] k0 N rfl (by rw [mkPP_len]; exact h1) (by omega) (by omega) (by omega) h2
theorem eqPlaceSS_l (hN : 4000000 ≤ N) {a : List (List (Int × Int))} (ha : a.length ≤ 1048576) (hi : ∀ x ∈ a, x.length ≤ 1048576) (k : Unit → Option Bool) : ∀ n i : Nat, i ≤ a.length → a.length < n + i → L_eqPlaceSS_l1 N a a k n (i : Int) = k () := by
 intro n
 induction n with
 | zero => intro i h1 h2; omega
 | succ n ih =>
  intro i h1 h2
  rw [L_eqPlaceSS_l1]
  by_cases hl : i < a.length
  ·have hg : a.getD i [] = a[i] := by simp [hl]
   have e : ((i : Int)).toNat = i := by omega
   rw [cnd_dt (by omega), grd_pos (by omega), grd_pos (by omega), e, hg, eqPlaceS_s N hN (hi _ (List.getElem_mem hl)), Option.bind_some, Bool.not_true, cnd_false, grd_R (by omega) (by omega), succ_cast]
   exact ih (i + 1) (by omega) (by omega)
  ·rw [cnd_df (by omega)]
theorem eqPlaceSS_s (hN : 4000000 ≤ N) {a : List (List (Int × Int))} (ha : a.length ≤ 1048576) (hi : ∀ x ∈ a, x.length ≤ 1048576) : L_eqPlaceSS N a a = some true := by
 unfold L_eqPlaceSS
 rw [bne_self_eq_false, cnd_false]
 exact eqPlaceSS_l hN ha hi _ N 0 (by omega) (by omega)
end Go.Proofs.Ytgindcgphnbnaaa
namespace Go.Proofs.Ytgindcgphnbnaaa
open Go.RowKit
def L_FnExactPosesOf (N : Nat) (aL_0 : Lnk) : Option (Bool) :=
 (L_szLinkage N aL_0 (1048576 : Int)).bind fun v1 =>
 cnd (decide (v1 < (0 : Int))) (
  some true) (
  (L_toLinkage N aL_0).bind fun v2 =>
  (S_PosesOf N v2).bind fun v3 =>
  (L_toLinkage N aL_0).bind fun v4 =>
  (I_PosesOf N v4).bind fun v5 =>
  (L_eqPlaceSS N v5.1 v3.1).bind fun v6 =>
  cnd (!v6) (
   some false) (
   cnd (v5.2 != v3.2) (
    some false) (
    (L_toLinkage N aL_0).bind fun v7 =>
    (L_eqLinkage N v4 v7).bind fun v8 =>
    cnd (!v8) (
     some false) (
     (L_markLinkage N (⟨⟨⟨v4.f.g.n, v4.f.g.bars⟩, v4.f.places⟩, v4.ground⟩ : Lnk) (1 : Int)).bind fun v9 =>
     cnd (decide (v9.1 < (0 : Int))) (
      some false) (
      (L_eqPlaceSS N v5.1 v3.1).bind fun v10 =>
      cnd (!v10) (
       some false) (
       (L_markPlaceSS N v5.1 (1 : Int)).bind fun v11 =>
       grd (v5.1.length = v11.2.length) <|
       (L_heldPlaceSS N v11.2 (1 : Int)).bind fun v12 =>
       cnd (decide (v12 < (0 : Int))) (
        some false) (
        cnd (v12 != v11.1) (
         some false) (
         (L_toLinkage N aL_0).bind fun v13 =>
         (I_PosesOf N v13).bind fun v14 =>
         (L_eqPlaceSS N v14.1 v3.1).bind fun v15 =>
         cnd (!v15) (
          some false) (
          cnd (v14.2 != v3.2) (
           some false) (
           (L_heldPlaceSS N v11.2 (1 : Int)).bind fun v16 =>
           cnd (decide (v16 < (0 : Int))) (
            some false) (
            cnd (v16 != v11.1) (
             some false) (
             some true))))))))))))
set_option maxRecDepth 20000 in
set_option maxHeartbeats 1600000 in
theorem L_FnExactPosesOf_w (N : Nat) (aL_0 : Lnk) (r : Bool) (h : L_FnExactPosesOf N aL_0 = some r) : PCall Try.prog 10 [lD aL_0] [] (.bool r) := by
 unfold L_FnExactPosesOf at h
 refine pcall_intro (TT := TT) tt Try.func10 rfl rfl Try.ntmps10 (congrArg Array.toList Try.results10) rfl rfl fun w0 => ?_
 refine vSeq ?_
 refine vRegion ?_
 refine oBox rfl rfl rfl rfl rfl rfl rfl rfl rfl ?_
 refine oVal tt rfl rfl rfl rfl rfl trivial ?_
 refine vNil ?_
 change VC _ _ _ _
 refine vSeq ?_
 refine vRegion ?_
 refine oVal tt rfl rfl rfl rfl rfl trivial ?_
 refine vNil ?_
 change VC _ _ _ _
 refine vSeq ?_
 refine vRegion ?_
 iterate 2 refine oVal tt rfl rfl rfl rfl rfl trivial ?_
 obtain ⟨v1, hc1, h⟩ := bind_inv h
 refine oCall (L_szLinkage_w N aL_0 (1048576 : Int) v1 hc1) rfl rfl rfl rfl rfl rfl rfl rfl ⟨⟨rfl, rfl, rfl, rfl, trivial⟩, rfl, trivial⟩ ?_
 refine oVal tt rfl rfl rfl rfl rfl trivial ?_
 refine vNil ?_
 change VC _ _ _ _
 iterate 2 refine vSeq ?_
 refine vRegion ?_
 iterate 2 refine oVal tt rfl rfl rfl rfl rfl trivial ?_
 refine vNil ?_
 change VC _ _ _ _
 refine vCond rfl (fun hb2 => ?_) (fun hb2 => ?_)
 ·replace h := cnd_t hb2 h
  refine vSeq ?_
  refine vRegion ?_
  refine oVal tt rfl rfl rfl rfl rfl trivial ?_
  refine vNil ?_
  change VC _ _ _ _
  refine vRet ?_
  change ∃ _, _
  cases h
  exact ⟨[], _, rfl, trivial, rfl, (.eq rfl), rfl⟩
 ·replace h := cnd_f hb2 h
  refine vSkip ?_
  change VC _ _ _ _
  refine vSeq ?_
  refine vRegion ?_
  refine oVal tt rfl rfl rfl rfl rfl trivial ?_
  obtain ⟨v2, hc3, h⟩ := bind_inv h
  refine oCall (L_toLinkage_w N aL_0 v2 hc3) rfl rfl rfl rfl rfl rfl rfl rfl ⟨⟨rfl, rfl, rfl, rfl, trivial⟩, trivial⟩ ?_
  obtain ⟨v3, hc4, h⟩ := bind_inv h
  refine oCall (S_PosesOf_w N v2 v3 hc4) rfl rfl rfl rfl rfl rfl rfl rfl ⟨⟨rfl, (.inl ⟨rfl, rfl⟩), (.inl ⟨rfl, rfl⟩), (.inl ⟨rfl, rfl⟩), trivial⟩, trivial⟩ ?_
  iterate 5 refine oVal tt rfl rfl rfl rfl rfl trivial ?_
  refine vNil ?_
  change VC _ _ _ _
  refine vSeq ?_
  refine vRegion ?_
  refine oVal tt rfl rfl rfl rfl rfl trivial ?_
  obtain ⟨v4, hc5, h⟩ := bind_inv h
  refine oCall (L_toLinkage_w N aL_0 v4 hc5) rfl rfl rfl rfl rfl rfl rfl rfl ⟨⟨rfl, rfl, rfl, rfl, trivial⟩, trivial⟩ ?_
  refine oAlloc tt rfl rfl rfl rfl rfl rfl rfl rfl rfl ?_
  refine oStore tt rfl rfl rfl rfl rfl rfl rfl rfl rfl rfl rfl ⟨trivial, trivial, trivial, trivial, trivial⟩ ?_
  refine vNil ?_
  change VC _ _ _ _
  refine vSeq ?_
  refine vRegion ?_
  refine oVal tt rfl rfl rfl rfl rfl trivial ?_
  obtain ⟨v5, hc6, h⟩ := bind_inv h
  refine oCallD 10 (I_PosesOf_w N v4 v5 hc6) rfl rfl rfl rfl rfl rfl rfl rfl rfl rfl rfl (fun _ h => by cases h) ⟨⟨rfl, (.inl ⟨rfl, rfl⟩), (.inl ⟨rfl, rfl⟩), (.inl ⟨rfl, rfl⟩), trivial⟩, trivial⟩ ?_
  iterate 5 refine oVal tt rfl rfl rfl rfl rfl trivial ?_
  refine vNil ?_
  change VC _ _ _ _
  iterate 2 refine vSeq ?_
  refine vRegion ?_
  iterate 2 refine oVal tt rfl rfl rfl rfl rfl trivial ?_
  obtain ⟨v6, hc7, h⟩ := bind_inv h
  refine oCall (L_eqPlaceSS_w N v5.1 v3.1 v6 hc7) rfl rfl rfl rfl rfl rfl rfl rfl ⟨(.inr (.inr ⟨10, _, by decide, rfl, rfl, rfl, rfl⟩)), (.inl ⟨rfl, rfl⟩), trivial⟩ ?_
  iterate 2 refine oVal tt rfl rfl rfl rfl rfl trivial ?_
  refine oSplit rfl rfl rfl (fun hb8 => ?_) (fun hb8 => ?_)
  ·replace h := cnd_t hb8 h
   iterate 3 refine oNoF rfl rfl rfl rfl hb8 rfl rfl ?_
   refine oPick rfl rfl rfl rfl rfl hb8 rfl ?_
   refine vNil ?_
   change VC _ _ _ _
   refine vCondT rfl rfl ?_
   refine vSeq ?_
   refine vRegion ?_
   refine oVal tt rfl rfl rfl rfl rfl trivial ?_
   refine vNil ?_
   change VC _ _ _ _
   refine vRet ?_
   change ∃ _, _
   cases h
   exact ⟨[], _, rfl, trivial, rfl, (.eq rfl), rfl⟩
  ·replace h := cnd_f hb8 h
   iterate 2 refine oValG tt rfl rfl rfl rfl rfl hb8 rfl rfl rfl trivial ?_
   refine oPure (wSome rfl rfl rfl rfl hb8) (pNeB Try.underlying4 rfl rfl rfl) rfl rfl ?_
   refine oPickF rfl rfl rfl rfl rfl hb8 rfl ?_
   refine vNil ?_
   change VC _ _ _ _
   refine vCond rfl (fun hb9 => ?_) (fun hb9 => ?_)
   ·replace h := cnd_t hb9 h
    refine vSeq ?_
    refine vRegion ?_
    refine oVal tt rfl rfl rfl rfl rfl trivial ?_
    refine vNil ?_
    change VC _ _ _ _
    refine vRet ?_
    change ∃ _, _
    cases h
    exact ⟨[], _, rfl, trivial, rfl, (.eq rfl), rfl⟩
   ·replace h := cnd_f hb9 h
    refine vSkip ?_
    change VC _ _ _ _
    iterate 2 refine vSeq ?_
    refine vRegionN 3 [2] [0, 0, 2, 7, 15] (by kernel_rfl) (by kernel_rfl) (by kernel_rfl) (by kernel_rfl) (by kernel_rfl) rfl (by rfl) ?_
    iterate 2 refine nVal tt rfl (wNone rfl) rfl rfl rfl rfl rfl trivial ?_
    obtain ⟨v7, hc10, h⟩ := bind_inv h
    refine nCallR (L_toLinkage_w N aL_0 v7 hc10) rfl (wNone rfl) rfl rfl rfl rfl rfl rfl (by first | rfl | kernel_rfl | (simp [nrL, nm, gdst, nmT, rowB]; done)) rfl (by first | rfl | kernel_rfl | (simp [chkE, nrL, nm, gdst, nmT, rowB, hid, ment, mentA, mentS]; done) | (simp [chkE, nrL, nm, gdst, nmT, rowB, hid, ment, mentA, mentS]; decide)) ⟨⟨rfl, rfl, rfl, rfl, trivial⟩, trivial⟩ ?_
    refine nNil ?_
    change VO _ _ _ _ _
    obtain ⟨v8, hc11, h⟩ := bind_inv h
    refine oCall (L_eqLinkage_w N v4 v7 v8 hc11) rfl rfl rfl rfl rfl rfl rfl rfl ⟨⟨rfl, (.inl ⟨rfl, rfl⟩), (.inl ⟨rfl, rfl⟩), (.inl ⟨rfl, rfl⟩), trivial⟩, ⟨rfl, (.inl ⟨rfl, rfl⟩), (.inl ⟨rfl, rfl⟩), (.inl ⟨rfl, rfl⟩), trivial⟩, trivial⟩ ?_
    refine oVal tt rfl rfl rfl rfl rfl trivial ?_
    refine vNil ?_
    change VC _ _ _ _
    refine vCond rfl (fun hb12 => ?_) (fun hb12 => ?_)
    ·replace h := cnd_t hb12 h
     refine vSeq ?_
     refine vRegion ?_
     refine oVal tt rfl rfl rfl rfl rfl trivial ?_
     refine vNil ?_
     change VC _ _ _ _
     refine vRet ?_
     change ∃ _, _
     cases h
     exact ⟨[], _, rfl, trivial, rfl, (.eq rfl), rfl⟩
    ·replace h := cnd_f hb12 h
     refine vSkip ?_
     change VC _ _ _ _
     refine vSeq ?_
     refine vRegion ?_
     refine oVal tt rfl rfl rfl rfl rfl trivial ?_
     refine vNil ?_
     change VC _ _ _ _
     refine vSeq ?_
     refine vRegion ?_
     iterate 2 refine oVal tt rfl rfl rfl rfl rfl trivial ?_
     obtain ⟨v9, hc13, h⟩ := bind_inv h
     refine oMCall (L_markLinkage_w N (⟨⟨⟨v4.f.g.n, v4.f.g.bars⟩, v4.f.places⟩, v4.ground⟩ : Lnk) (1 : Int) v9 hc13) [1260, 1261, 1262] [] [1260, 1261, 1262] rfl rfl rfl rfl rfl rfl ⟨rfl, rfl, rfl, trivial⟩ trivial ⟨⟨⟨rfl, rfl⟩, ⟨rfl, rfl⟩, ⟨rfl, rfl⟩, ⟨rfl, rfl⟩, trivial⟩, ⟨rfl, rfl⟩, trivial⟩ ?_
     refine oVal tt rfl rfl rfl rfl rfl trivial ?_
     refine vNil ?_
     change VC _ _ _ _
     iterate 2 refine vSeq ?_
     refine vRegion ?_
     iterate 3 refine oVal tt rfl rfl rfl rfl rfl trivial ?_
     refine oSplit rfl rfl rfl (fun hb14 => ?_) (fun hb14 => ?_)
     ·replace h := cnd_t hb14 h
      iterate 4 refine oNoF rfl rfl rfl rfl hb14 rfl rfl ?_
      refine oPick rfl rfl rfl rfl rfl hb14 rfl ?_
      refine oVal tt rfl rfl rfl rfl rfl trivial ?_
      iterate 3 refine oNoF rfl rfl rfl rfl rfl rfl rfl ?_
      refine oPick rfl rfl rfl rfl rfl rfl rfl ?_
      refine vNil ?_
      change VC _ _ _ _
      refine vCondT rfl rfl ?_
      refine vSeq ?_
      refine vRegion ?_
      refine oVal tt rfl rfl rfl rfl rfl trivial ?_
      refine vNil ?_
      change VC _ _ _ _
      refine vRet ?_
      change ∃ _, _
      cases h
      exact ⟨[], _, rfl, trivial, rfl, (.eq rfl), rfl⟩
     ·replace h := cnd_f hb14 h
      iterate 2 refine oValG tt rfl rfl rfl rfl rfl hb14 rfl rfl rfl trivial ?_
      obtain ⟨v10, hc15, h⟩ := bind_inv h
      refine oCallG (L_eqPlaceSS_w N v5.1 v3.1 v10 hc15) rfl rfl rfl rfl hb14 rfl rfl rfl rfl rfl rfl rfl ⟨(.inr (.inr ⟨10, _, by decide, rfl, rfl, rfl, rfl⟩)), (.inl ⟨rfl, rfl⟩), trivial⟩ ?_
      refine oValG tt rfl rfl rfl rfl rfl hb14 rfl rfl rfl trivial ?_
      refine oPickF rfl rfl rfl rfl rfl hb14 rfl ?_
      refine oVal tt rfl rfl rfl rfl rfl trivial ?_
      refine oSplit rfl rfl rfl (fun hb16 => ?_) (fun hb16 => ?_)
      ·replace h := cnd_t hb16 h
       iterate 3 refine oNoF rfl rfl rfl rfl hb16 rfl rfl ?_
       refine oPick rfl rfl rfl rfl rfl hb16 rfl ?_
       refine vNil ?_
       change VC _ _ _ _
       refine vCondT rfl rfl ?_
       refine vSeq ?_
       refine vRegion ?_
       refine oVal tt rfl rfl rfl rfl rfl trivial ?_
       refine vNil ?_
       change VC _ _ _ _
       refine vRet ?_
       change ∃ _, _
       cases h
       exact ⟨[], _, rfl, trivial, rfl, (.eq rfl), rfl⟩
      ·replace h := cnd_f hb16 h
       iterate 2 refine oValG tt rfl rfl rfl rfl rfl hb16 rfl rfl rfl trivial ?_
       refine oPure (wSome rfl rfl rfl rfl hb16) (pNeB Try.underlying4 rfl rfl rfl) rfl rfl ?_
       refine oPickF rfl rfl rfl rfl rfl hb16 rfl ?_
       refine vNil ?_
       change VC _ _ _ _
       refine vCondF rfl hb9 ?_
       refine vSkip ?_
       change VC _ _ _ _
       refine vSeq ?_
       refine vRegion ?_
       refine oVal tt rfl rfl rfl rfl rfl trivial ?_
       refine vNil ?_
       change VC _ _ _ _
       refine vSeq ?_
       refine vRegion ?_
       iterate 2 refine oVal tt rfl rfl rfl rfl rfl trivial ?_
       obtain ⟨v11, hc17, h⟩ := bind_inv h
       refine oMCall (L_markPlaceSS_w N v5.1 (1 : Int) v11 hc17) [1290, 8589934602] [] [1290, 8589934602] rfl rfl rfl rfl rfl rfl ⟨rfl, rfl, trivial⟩ trivial ⟨⟨rfl, rfl⟩, ⟨rfl, rfl⟩, trivial⟩ ?_
       refine oVal tt rfl rfl rfl rfl rfl trivial ?_
       refine vNil ?_
       change VC _ _ _ _
       refine vSeq ?_
       refine vRegion ?_
       refine oVal tt rfl rfl rfl rfl rfl trivial ?_
       refine vNil ?_
       change VC _ _ _ _
       refine vSeq ?_
       refine vRegion ?_
       iterate 2 refine oVal tt rfl rfl rfl rfl rfl trivial ?_
       obtain ⟨hg18, h⟩ := grd_inv h
       obtain ⟨v12, hc19, h⟩ := bind_inv h
       refine oCall (L_heldPlaceSS_w N v11.2 (1 : Int) v12 hc19) rfl rfl rfl rfl rfl rfl rfl rfl ⟨(.inr (.inr ⟨10, _, by decide, rfl, rfl, rfl, hg18⟩)), rfl, trivial⟩ ?_
       refine oVal tt rfl rfl rfl rfl rfl trivial ?_
       refine vNil ?_
       change VC _ _ _ _
       iterate 2 refine vSeq ?_
       refine vRegion ?_
       iterate 2 refine oVal tt rfl rfl rfl rfl rfl trivial ?_
       refine vNil ?_
       change VC _ _ _ _
       refine vCond rfl (fun hb20 => ?_) (fun hb20 => ?_)
       ·replace h := cnd_t hb20 h
        refine vSeq ?_
        refine vRegion ?_
        refine oVal tt rfl rfl rfl rfl rfl trivial ?_
        refine vNil ?_
        change VC _ _ _ _
        refine vRet ?_
        change ∃ _, _
        cases h
        exact ⟨[], _, rfl, trivial, rfl, (.eq rfl), rfl⟩
       ·replace h := cnd_f hb20 h
        refine vSkip ?_
        change VC _ _ _ _
        iterate 2 refine vSeq ?_
        refine vRegion ?_
        iterate 3 refine oVal tt rfl rfl rfl rfl rfl trivial ?_
        refine vNil ?_
        change VC _ _ _ _
        refine vCond rfl (fun hb21 => ?_) (fun hb21 => ?_)
        ·replace h := cnd_t hb21 h
         refine vSeq ?_
         refine vRegion ?_
         refine oVal tt rfl rfl rfl rfl rfl trivial ?_
         refine vNil ?_
         change VC _ _ _ _
         refine vRet ?_
         change ∃ _, _
         cases h
         exact ⟨[], _, rfl, trivial, rfl, (.eq rfl), rfl⟩
        ·replace h := cnd_f hb21 h
         refine vSkip ?_
         change VC _ _ _ _
         refine vSeq ?_
         refine vRegion ?_
         refine oVal tt rfl rfl rfl rfl rfl trivial ?_
         obtain ⟨v13, hc22, h⟩ := bind_inv h
         refine oCall (L_toLinkage_w N aL_0 v13 hc22) rfl rfl rfl rfl rfl rfl rfl rfl ⟨⟨rfl, rfl, rfl, rfl, trivial⟩, trivial⟩ ?_
         obtain ⟨v14, hc23, h⟩ := bind_inv h
         refine oCallD 11 (I_PosesOf_w N v13 v14 hc23) rfl rfl rfl rfl rfl rfl rfl rfl rfl rfl rfl (fun _ h => by cases h) ⟨⟨rfl, (.inl ⟨rfl, rfl⟩), (.inl ⟨rfl, rfl⟩), (.inl ⟨rfl, rfl⟩), trivial⟩, trivial⟩ ?_
         iterate 5 refine oVal tt rfl rfl rfl rfl rfl trivial ?_
         refine vNil ?_
         change VC _ _ _ _
         iterate 2 refine vSeq ?_
         refine vRegion ?_
         iterate 2 refine oVal tt rfl rfl rfl rfl rfl trivial ?_
         obtain ⟨v15, hc24, h⟩ := bind_inv h
         refine oCall (L_eqPlaceSS_w N v14.1 v3.1 v15 hc24) rfl rfl rfl rfl rfl rfl rfl rfl ⟨(.inr (.inr ⟨11, _, by decide, rfl, rfl, rfl, rfl⟩)), (.inl ⟨rfl, rfl⟩), trivial⟩ ?_
         iterate 2 refine oVal tt rfl rfl rfl rfl rfl trivial ?_
         refine oSplit rfl rfl rfl (fun hb25 => ?_) (fun hb25 => ?_)
         ·replace h := cnd_t hb25 h
          iterate 3 refine oNoF rfl rfl rfl rfl hb25 rfl rfl ?_
          refine oPick rfl rfl rfl rfl rfl hb25 rfl ?_
          refine vNil ?_
          change VC _ _ _ _
          refine vCondT rfl rfl ?_
          refine vSeq ?_
          refine vRegion ?_
          refine oVal tt rfl rfl rfl rfl rfl trivial ?_
          refine vNil ?_
          change VC _ _ _ _
          refine vRet ?_
          change ∃ _, _
          cases h
          exact ⟨[], _, rfl, trivial, rfl, (.eq rfl), rfl⟩
         ·replace h := cnd_f hb25 h
          iterate 2 refine oValG tt rfl rfl rfl rfl rfl hb25 rfl rfl rfl trivial ?_
          refine oPure (wSome rfl rfl rfl rfl hb25) (pNeB Try.underlying4 rfl rfl rfl) rfl rfl ?_
          refine oPickF rfl rfl rfl rfl rfl hb25 rfl ?_
          refine vNil ?_
          change VC _ _ _ _
          refine vCond rfl (fun hb26 => ?_) (fun hb26 => ?_)
          ·replace h := cnd_t hb26 h
           refine vSeq ?_
           refine vRegion ?_
           refine oVal tt rfl rfl rfl rfl rfl trivial ?_
           refine vNil ?_
           change VC _ _ _ _
           refine vRet ?_
           change ∃ _, _
           cases h
           exact ⟨[], _, rfl, trivial, rfl, (.eq rfl), rfl⟩
          ·replace h := cnd_f hb26 h
           refine vSkip ?_
           change VC _ _ _ _
           refine vSeq ?_
           refine vRegion ?_
           refine oVal tt rfl rfl rfl rfl rfl trivial ?_
           refine vNil ?_
           change VC _ _ _ _
           refine vSeq ?_
           refine vRegion ?_
           iterate 2 refine oVal tt rfl rfl rfl rfl rfl trivial ?_
           obtain ⟨v16, hc27, h⟩ := bind_inv h
           refine oCall (L_heldPlaceSS_w N v11.2 (1 : Int) v16 hc27) rfl rfl rfl rfl rfl rfl rfl rfl ⟨(.inr (.inr ⟨10, _, by decide, rfl, rfl, rfl, hg18⟩)), rfl, trivial⟩ ?_
           refine oVal tt rfl rfl rfl rfl rfl trivial ?_
           refine vNil ?_
           change VC _ _ _ _
           iterate 2 refine vSeq ?_
           refine vRegion ?_
           iterate 2 refine oVal tt rfl rfl rfl rfl rfl trivial ?_
           refine vNil ?_
           change VC _ _ _ _
           refine vCond rfl (fun hb28 => ?_) (fun hb28 => ?_)
           ·replace h := cnd_t hb28 h
            refine vSeq ?_
            refine vRegion ?_
            refine oVal tt rfl rfl rfl rfl rfl trivial ?_
            refine vNil ?_
            change VC _ _ _ _
            refine vRet ?_
            change ∃ _, _
            cases h
            exact ⟨[], _, rfl, trivial, rfl, (.eq rfl), rfl⟩
           ·replace h := cnd_f hb28 h
            refine vSkip ?_
            change VC _ _ _ _
            iterate 2 refine vSeq ?_
            refine vRegion ?_
            iterate 3 refine oVal tt rfl rfl rfl rfl rfl trivial ?_
            refine vNil ?_
            change VC _ _ _ _
            refine vCond rfl (fun hb29 => ?_) (fun hb29 => ?_)
            ·replace h := cnd_t hb29 h
             refine vSeq ?_
             refine vRegion ?_
             refine oVal tt rfl rfl rfl rfl rfl trivial ?_
             refine vNil ?_
             change VC _ _ _ _
             refine vRet ?_
             change ∃ _, _
             cases h
             exact ⟨[], _, rfl, trivial, rfl, (.eq rfl), rfl⟩
            ·replace h := cnd_f hb29 h
             refine vSkip ?_
             change VC _ _ _ _
             refine vSeq ?_
             refine vRegion ?_
             refine oVal tt rfl rfl rfl rfl rfl trivial ?_
             refine vNil ?_
             change VC _ _ _ _
             refine vRet ?_
             change ∃ _, _
             cases h
             exact ⟨[], _, rfl, trivial, rfl, (.eq rfl), rfl⟩
end Go.Proofs.Ytgindcgphnbnaaa
