/- Texts that the proof needs, put together: M10 M11 M12 M13 M14 G17 G22 G65 M17 M18 M15 M19 G114 G117 Re Rf. -/
import Derived.Laws.Strings
import Derived.Laws.BytesArg
import Derived.Test.YtkklfgcelmeccaaBGe3
import Derived.Test.YtkklfgcelmeccaaBGe4
set_option linter.unusedVariables false
set_option linter.unusedSimpArgs false
namespace Go.Proofs.Ytkklfgcelmeccaa
open Go.RowKit Go.Deep
section
variable {P : Program} {w0 : World} {O0 : Hd} {n : Nat} {M : Mp} {s : PS} {a : Act} {w w' : World}
theorem fam_row {F : Nat} (hF : F < 4294967296) {te : TypeId} {fq' : Fq} (x : Nat) : PS.r ⟨s.tmp, (FK + F, some (te, .fam fq')) :: s.row, s.box⟩ x = match Nat.ble BIG x with | true => (if unF x = F then famr (some (some (te, .fam fq'))) (unK x) else s.r x) | false => if x = FK + F then some (te, .fam fq') else s.r x := by
 rw [PS.r_app (s := s) (l := [(FK + F, some (te, .fam fq'))]) rfl, look_one', look_one']
 cases hbx : Nat.ble BIG x with
 | true =>
  by_cases hu : unF x = F
  ·simp [hu]
  ·simp [hu, Ne.symm hu]
 | false =>
  by_cases hx : FK + F = x
  ·simp [hx]
  ·simp [hx, Ne.symm hx]
theorem Rel.inPlace (h : Rel w0 O0 n M s a w) {F k g cap : Nat} (hF : F < 4294967296) {te : TypeId} {c c' : Sq} {fq fq' : Fq} {cur' : Array Value} (hf : s.r (FK + F) = some (te, .fam fq)) (hc : fq.get k = some c) (hfq : ∀ j, fq'.get j = if j = k then some c' else fq.get j)
  (hos : w'.os = w.os) (ht : w'.tape = w.tape) (ho : w'.output = w.output) (hs : w.heap.size ≤ w'.heap.size)
  (hcase : (M.γ (inn F k) = some none ∧ c'.len = 0 ∧ ∀ x, x < w.heap.size → w'.heap[x]? = w.heap[x]?) ∨
   (M.γ (inn F k) = some (some (g, cap, c'.sz)) ∧ (∀ x, x < w.heap.size → x ≠ g → w'.heap[x]? = w.heap[x]?) ∧ w'.heap[g]? = some (.cells cur' te (0, 0)) ∧ c'.len ≤ cap ∧ cap ≤ maxLen ∧ cur'.size = cap * c'.sz ∧ ∀ i j d, i < c'.len → (c'.relem i)[j]? = some d → VR M (Ow (Fs w0 O0) M) w' d (cur'.getD (i * c'.sz + j) undef))) :
  Rel w0 O0 n M ⟨s.tmp, (FK + F, some (te, .fam fq')) :: s.row, s.box⟩ a w' ∧ ∀ d v, VR M (Ow (Fs w0 O0) M) w d v → VR M (Ow (Fs w0 O0) M) w' d v := by
 have hinn : s.r (inn F k) = some (te, c) := by rw [fam_r hF hf, hc]
 have hoth : ∀ x y cp z, M.γ y = some (some (x, cp, z)) → y ≠ inn F k → w'.heap[x]? = w.heap[x]? := fun x y cp z hy hne => by
  have hlt := h.lt x (.inr ⟨y, cp, z, hy⟩)
  rcases hcase with ⟨_, _, h3⟩ | ⟨h1, h2, _⟩
  ·exact h3 x hlt
  ·exact h2 x hlt fun e => hne (h.inj2 _ _ _ _ _ _ _ hy (by rw [e]; exact h1))
 have hbox : ∀ x b, M.β b = some x → w'.heap[x]? = w.heap[x]? := fun x b hb => by
  have hlt := h.lt x (.inl ⟨b, hb⟩)
  rcases hcase with ⟨_, _, h3⟩ | ⟨h1, h2, _⟩
  ·exact h3 x hlt
  ·exact h2 x hlt fun e => h.inj3 _ _ _ _ _ hb (by rw [e]; exact h1)
 have hun : ∀ x, x < w.heap.size → ¬ M.owned x → w'.heap[x]? = w.heap[x]? := fun x hlt hx => by
  rcases hcase with ⟨_, _, h3⟩ | ⟨h1, h2, _⟩
  ·exact h3 x hlt
  ·exact h2 x hlt fun e => hx (.inr ⟨_, _, _, by rw [e]; exact h1⟩)
 have hA : ∀ f b, b < w.heap.size → Ow (Fs w0 O0) M f b → Ow (Fs w0 O0) M f b ∧ b < w'.heap.size ∧ w'.heap[b]? = w.heap[b]? := fun f b h1 h2 => ⟨h2, by omega, hun b h1 h2.1⟩
 have g4 : ∀ d v, VR M (Ow (Fs w0 O0) M) w d v → VR M (Ow (Fs w0 O0) M) w' d v := fun d v hv => hv.mono hA (fun _ _ h => h) (fun _ _ h => h)
 have keep : ∀ x e q, s.r x = some (e, q) → x ≠ inn F k → RowAt (Fs w0 O0) M w' x e q := fun x e q hx hne => by
  rcases h.row x e q hx with ⟨h1, h2⟩ | ⟨g', cap', cur2, b1, b2, b3, b4, b5, b6⟩
  ·exact .inl ⟨h1, h2⟩
  ·exact .inr ⟨g', cap', cur2, b1, (hoth _ _ _ _ b1 hne).trans b2, b3, b4, b5, fun i j d hi hd => g4 _ _ (b6 i j d hi hd)⟩
 refine ⟨⟨?_, h.dfr, h.sz, fun t => g4 _ _ (h.tmp t), fun x ds hx => ?_, h.boxn, fun x e q hx => ?_, fun x hx => ?_, h.low, h.inj1, h.inj2, h.inj3, h.nle, h.fxb, h.fxr⟩, g4⟩
 ·refine h.fr.step hos ht ho hs fun x h1 h2 => hun x (Nat.lt_of_lt_of_le h1 h.fr.size) fun hx => ?_
  rcases h.low x hx with h3 | h3
  ·omega
  ·exact h2 h3
 ·obtain ⟨k2, cur2, e2, b1, b2, b3, b4⟩ := h.box x ds hx
  exact ⟨k2, cur2, e2, b1, (hbox _ _ b1).trans b2, b3, fun i d' hd => g4 _ _ (b4 i d' hd)⟩
 ·rw [fam_row hF] at hx
  cases hbx : Nat.ble BIG x with
  | true =>
   rw [hbx] at hx
   by_cases hu : unF x = F
   ·have hxe : x = inn F (unK x) := by rw [← hu]; exact (inn_of hbx).symm
    simp only [hu, if_true, famr, hfq] at hx
    by_cases hk : unK x = k
    ·simp only [hk, if_true, Option.some.injEq, Prod.mk.injEq] at hx
     obtain ⟨rfl, rfl⟩ := hx
     rw [hxe, hk]
     rcases hcase with ⟨h1, h2, _⟩ | ⟨h1, _, h3, h4, h5, h6, h7⟩
     ·exact .inl ⟨h1, h2⟩
     ·exact .inr ⟨g, cap, cur', h1, h3, h4, h5, h6, h7⟩
    ·simp only [hk, if_false] at hx
     split at hx
     ·rename_i c2 hc2
      cases hx
      refine keep x _ _ ?_ (fun e => hk (by rw [e, unK_inn]))
      rw [hxe, fam_r hF hf, hc2]
     ·cases hx
   ·simp only [hu, if_false] at hx
    exact keep x e q hx (fun e' => hu (by rw [e', unF_inn, Nat.mod_eq_of_lt hF]))
  | false =>
   rw [hbx] at hx
   have hxk : x ≠ inn F k := fun e => by rw [e, inn_hi] at hbx; cases hbx
   simp only at hx
   split at hx
   ·rename_i hxf
    cases hx
    rw [hxf]
    rcases h.row _ _ _ hf with ⟨g1, g2⟩ | ⟨gg, cp, cur, g1, g2, g3, g4', g5, g6⟩
    ·exact .inl ⟨g1, rfl⟩
    ·exact .inr ⟨gg, cp, cur, g1, (hoth _ _ _ _ g1 (by rw [← hxf]; exact hxk)).trans g2, Nat.zero_le _, g4', g5, fun i j d hi hd => absurd hi (Nat.not_lt_zero _)⟩
   ·exact keep x e q hx hxk
 ·rw [fam_row hF] at hx
  cases hbx : Nat.ble BIG x with
  | true =>
   rw [hbx] at hx
   by_cases hu : unF x = F
   ·have hxe : x = inn F (unK x) := by rw [← hu]; exact (inn_of hbx).symm
    simp only [hu, if_true, famr, hfq] at hx
    by_cases hk : unK x = k
    ·simp only [hk, if_true] at hx; cases hx
    ·simp only [hk, if_false] at hx
     refine h.rown x ?_
     rw [hxe, fam_r hF hf]
     split at hx
     ·cases hx
     ·rename_i h2; rw [h2]
   ·simp only [hu, if_false] at hx
    exact h.rown x hx
  | false =>
   rw [hbx] at hx
   simp only at hx
   split at hx
   ·cases hx
   ·exact h.rown x hx
theorem irow_form (h : Rel w0 O0 n M s a w) {F k m : Nat} {te : TypeId} {c : Sq} {v : Value} (hr : s.r (inn F k) = some (te, c)) (hv : VR M (Ow (Fs w0 O0) M) w (.irow F k m) v) :
  (M.γ (inn F k) = some none ∧ c.len = 0 ∧ m = 0 ∧ ∃ ao, v = .slice ao 0 0) ∨ ∃ g cap cur, M.γ (inn F k) = some (some (g, cap, c.sz)) ∧ v = .slice (some ⟨g, 0, none⟩) m cap ∧ m ≤ cap ∧ w.heap[g]? = some (.cells cur te (0, 0)) ∧ c.len ≤ cap ∧ cap ≤ maxLen ∧ cur.size = cap * c.sz ∧
   ∀ i j d, i < c.len → (c.relem i)[j]? = some d → VR M (Ow (Fs w0 O0) M) w d (cur.getD (i * c.sz + j) undef) := by
 cases hv with
 | irow _ _ _ _ h1 g2 =>
  rcases h.row _ te c hr with ⟨hg, h0⟩ | ⟨g, cap, cur, hg, hh, hl, hmx, hcs, hcc⟩
  ·have := g2 _ hg
   simp only [RowV] at this
   exact .inl ⟨hg, h0, this.2.1, this.1⟩
  ·have := g2 _ hg
   simp only [RowV] at this
   obtain ⟨h1, ao, h2, h3⟩ := this
   have h4 := h3 (.inr trivial)
   rw [Nat.zero_mul] at h4
   subst h4
   exact .inr ⟨g, cap, cur, hg, h2, by omega, hh, hl, hmx, hcs, hcc⟩
end
section
variable {C : Cx} {ops : Array Oper} {K : PS → Prop} {o : Oper} {rest : List Oper} {s : PS} {TT : List (Nat × Ty)} {tm : List (Nat × D)} {rw' : List (Nat × Option (TypeId × Sq))} {bx : List (Nat × Option (List D))} {cr B : List Nat} {j : Nat}
structure PurF (C : Cx) (o : Oper) (s : PS) (d : D) : Prop where
 out : ∀ s1, (∀ x ∈ o.op.operands, s1.ev x = s.ev x) → (∀ r, notF r = false → s1.r r = s.r r) → ∀ M a w, Rel C.w0 C.O0 C.n M s1 a w → ∃ v, (execOp a.eval o).run C.P w = .ok (.value v) w ∧ VR M (Ow (Fs C.w0 C.O0) M) w d v
theorem PurF.step {d : D} (h : PurF C o s d) (ho : dstOk C.n o.dst = true) {s1 : PS} (hs : ∀ x ∈ o.op.operands, s1.ev x = s.ev x) (hfk : ∀ r, notF r = false → s1.r r = s.r r) : Step C o s1 (fun s' => s' = s1.put o.dst d) := sRun (fun M a w hr => h.out s1 hs hfk M a w hr) ho rfl
theorem oPureF (hw : Wanted C ops o ⟨tm, rw', bx⟩) {d : D} (hp : PurF C o ⟨tm, rw', bx⟩ d) {t : Nat} (hd : o.dst = some t) (hn : Nat.blt t C.n = true) (h : VO C ops K rest ⟨(t, d) :: tm, rw', bx⟩) : VO C ops K (o :: rest) ⟨tm, rw', bx⟩ := by
 refine oStepW hw (Step.weak (hp.step (by rw [hd]; exact hn) (fun _ _ => rfl) (fun _ _ => rfl)) fun s' hs' => ?_)
 rw [hs', hd]; exact h
theorem nPureF (hw : Wanted C ops o ⟨tm, rw', bx⟩) {d : D} (hp : PurF C o ⟨tm, rw', bx⟩ d) {t : Nat} (hd : o.dst = some t) (hn : Nat.blt t C.n = true) (hc : chkE ops cr B j ⟨d, [], []⟩ = true) (h : QN C ops cr B K (j + 1) rest ⟨(t, d) :: tm, rw', bx⟩) : QN C ops cr B K j (o :: rest) ⟨tm, rw', bx⟩ :=
 nStep (e := ⟨d, [], []⟩) hw hc (fun s1 hag => Step.weak (hp.step (by rw [hd]; exact hn) (fun x hx => hag.ev x hx) hag.fk) fun s' hs' => by rw [hs', hd]; rfl) (by rw [hd]; exact h)
theorem fk_notF {F : Nat} : notF (FK + F) = false := by
 cases hn : notF (FK + F) with
 | false => rfl
 | true => have := notF_lt hn; omega
theorem pIdxI (hT : TTOK C.P TT) {x y : Operand} {t e te : TypeId} {kk q : Sq} {by' F k m : Nat} {i : Int} (hop : o.op = .indexAddr t x y) (hy : look TT t = some (.sl e kk by')) (hx : s.ev x = .irow F k m) (hyy : s.ev y = .int i) (hf : s.r (FK + F) = some (te, dF q)) (hq : q.deep = true) (hk : k < q.len) (hz : Nat.beq kk.sz (q.nn k).sz = true) (hi : 0 ≤ i ∧ i < (m : Int)) (hF : Nat.blt F 4294967296 = true := by rfl) : PurF C o s (.iptr F k i 0) :=
 ⟨fun s1 hs hfk M a w hr => by
  rw [Nat.blt_eq] at hF
  have hev := hr.ev x
  rw [hs x (by rw [hop]; simp [Op.operands]), hx] at hev
  have hev2 := hr.ev y
  rw [hs y (by rw [hop]; simp [Op.operands]), hyy] at hev2
  have hinn := deep_r hF hq (s := s1) (by rw [hfk _ fk_notF]; exact hf) k
  rw [if_pos hk] at hinn
  have hz' := Nat.eq_of_beq_eq_true hz
  have hty := hT t _ hy
  rcases irow_form hr hinn hev with ⟨_, _, rfl, ao, hv⟩ | ⟨g, cap, cur, hg, hv, _⟩
  ·omega
  ·refine ⟨.pointer (some ⟨g, 0 + i.toNat * kk.sz, none⟩), ?_, .iptr _ _ _ _ _ fun g' c' z' hg' => ?_⟩
   ·have hrun : (Instr.indexAt t (a.eval x) (a.eval y)).run C.P w = .ok (.pointer (some ⟨g, 0 + i.toNat * kk.sz, none⟩)) w := by
     rw [hv, hev2.int_inv]
     simp [Instr.indexAt, asIntOf, ty_sl hty, ty_size hty, go_sem, hi.1, hi.2, add_lit]
    unfold execOp
    rw [hop]
    show ((do pure (Next.value (← Instr.indexAt t (a.eval x) (a.eval y))) : Sem Next)).run C.P w = _
    rw [Sem.run_bind, hrun]; rfl
   ·rw [hg] at hg'; cases hg'
    simp [hz']⟩
theorem pLoadI (hT : TTOK C.P TT) {x : Operand} {t te : TypeId} {q : Sq} {z : Value} {F k off : Nat} {i : Int} {d : D} (hop : o.op = .load t x) (hy : look TT t = some (.sc z)) (hx : s.ev x = .iptr F k i off) (hf : s.r (FK + F) = some (te, dF q)) (hq : q.deep = true) (hk : k < q.len) (hi : 0 ≤ i ∧ i < ((q.nn k).len : Int)) (hd : ((q.nn k).elem true i.toNat)[off]? = some d) (hF : Nat.blt F 4294967296 = true := by rfl) : PurF C o s d :=
 ⟨fun s1 hs hfk M a w hr => by
  rw [Nat.blt_eq] at hF
  have hev := hr.ev x
  rw [hs x (by rw [hop]; simp [Op.operands]), hx] at hev
  have hinn := deep_r hF hq (s := s1) (by rw [hfk _ fk_notF]; exact hf) k
  rw [if_pos hk] at hinn
  have hflat : (q.nn k).isRefs = false := nn_refs q k
  rcases hr.row _ _ _ hinn with ⟨hg, h0⟩ | ⟨g, cap, cur, hg, hh, hl, hm, hcs, hc⟩
  ·omega
  ·generalize hgv : a.eval x = v at hev
   cases hev with
   | iptr _ _ _ _ _ hv =>
    have hv' := hv g cap _ hg
    have hi' : i.toNat < (q.nn k).len := by omega
    have hoff : off < (q.nn k).sz := by rw [← Sq.elem_len true (q.nn k) i.toNat]; exact (List.getElem?_eq_some_iff.1 hd).1
    have hlt : i.toNat * (q.nn k).sz + off < cur.size := by
     rw [hcs]
     have h4 : (i.toNat + 1) * (q.nn k).sz ≤ cap * (q.nn k).sz := Nat.mul_le_mul_right _ (by omega)
     rw [Nat.add_mul, Nat.one_mul] at h4; omega
    have hcell : w.cell? ⟨g, i.toNat * (q.nn k).sz + off, none⟩ = some (cur.getD (i.toNat * (q.nn k).sz + off) undef) := by
     rw [cell_of_row w g _ cur te (0, 0) hh]; simp [hlt]
    refine ⟨_, ?_, hc i.toNat off d hi' (by rw [Sq.relem_eq hflat]; exact hd)⟩
    obtain ⟨⟨dd, hu, hn1, hn2⟩, _⟩ := hT t _ hy
    have hag : (isAgg t).run C.P w = .ok false w := by
     cases dd <;> simp [isAgg, Go.run_underlying hu, go_sem]
     all_goals first | exact hn1 _ rfl | exact hn2 _ _ rfl
    have hrun : (Instr.loadAt t (a.eval x)).run C.P w = .ok (cur.getD (i.toNat * (q.nn k).sz + off) undef) w := by
     rw [hgv, hv']
     simp [Instr.loadAt, Instr.sureAddr, loadVar, hag, go_sem, hcell]
    unfold execOp
    rw [hop]
    show ((do pure (Next.value (← Instr.loadAt t (a.eval x))) : Sem Next)).run C.P w = _
    rw [Sem.run_bind, hrun]; rfl⟩
end
end Go.Proofs.Ytkklfgcelmeccaa
namespace Go.Proofs.Ytkklfgcelmeccaa
open Go.RowKit Go.Deep
structure SetIn (F : Nat) (q q' : Sq) (k : Nat) (c' : Sq) : Prop where
 get : ∀ j, (famOf q').get j = if j = k then some c' else (famOf q).get j
 dR : dR F q = dR F q'
section
variable {C : Cx} {ops : Array Oper} {K : PS → Prop} {o : Oper} {rest : List Oper} {s : PS} {TT : List (Nat × Ty)} {tm : List (Nat × D)} {rw' : List (Nat × Option (TypeId × Sq))} {bx : List (Nat × Option (List D))}
theorem Rel.outer {w0 : World} {O0 : Hd} {n : Nat} {M : Mp} {a : Act} {w : World} {R F : Nat} {et : TypeId} {qo qo' : Sq} {z : Option (TypeId × Sq)} (hF : F < 4294967296) (hFR : notF R = true) (hR : PS.r ⟨tm, rw', bx⟩ R = some (et, qo)) (he : qo = qo') (h : Rel w0 O0 n M ⟨tm, (FK + F, z) :: rw', bx⟩ a w) :
  Rel w0 O0 n M ⟨tm, (R, some (et, qo')) :: (FK + F, z) :: rw', bx⟩ a w := by
 subst he
 have hne : FK + F ≠ R := fk_ne hF hFR
 have hrr : ∀ x, PS.r ⟨tm, (R, some (et, qo)) :: (FK + F, z) :: rw', bx⟩ x = PS.r ⟨tm, (FK + F, z) :: rw', bx⟩ x := fun x => by
  rw [PS.r_app (s := ⟨tm, rw', bx⟩) (s' := ⟨tm, (R, some (et, qo)) :: (FK + F, z) :: rw', bx⟩) (l := [(R, some (et, qo)), (FK + F, z)]) rfl, PS.r_app (s := ⟨tm, rw', bx⟩) (s' := ⟨tm, (FK + F, z) :: rw', bx⟩) (l := [(FK + F, z)]) rfl, look_two', look_two', look_one', look_one']
  cases hbx : Nat.ble BIG x with
  | true =>
   have h1 : R ≠ FK + unF x := fun e => by have := notF_fk x; rw [← e, hFR] at this; cases this
   simp [h1]
  | false =>
   by_cases hx : R = x
   ·subst hx; simp [hR, hne]
   ·simp [hx]
 exact ⟨h.fr, h.dfr, h.sz, h.tmp, h.box, h.boxn, fun x e p hx => h.row x e p (by rw [← hrr]; exact hx), fun x hx => h.rown x (by rw [← hrr]; exact hx), h.low, h.inj1, h.inj2, h.inj3, h.nle, h.fxb, h.fxr⟩
theorem oStoreI (R : Nat) (q' : Sq) (hT : TTOK C.P TT) (hg : o.guard = none) {t te et : TypeId} {p x : Operand} {z : Value} {q c' : Sq} {F k off : Nat} {i : Int} {d : D} (hop : o.op = .store t p x) (hd : o.dst = none) (hy : look TT t = some (.sc z)) (hp : (PS.ev ⟨tm, rw', bx⟩ p) = .iptr F k i off) (hx : (PS.ev ⟨tm, rw', bx⟩ x) = d) (hone : d.one = true)
  (hf : PS.r ⟨tm, rw', bx⟩ (FK + F) = some (te, dF q)) (hR : PS.r ⟨tm, rw', bx⟩ R = some (et, dR F q)) (hq : q.deep = true) (hk : k < q.len) (hi : 0 ≤ i ∧ i < ((q.nn k).len : Int)) (hset : (q.nn k).set i.toNat off d = some c') (hin : SetIn F q q' k c')
  (h : VO C ops K rest ⟨tm, (R, some (et, dR F q')) :: (FK + F, some (te, dF q')) :: rw', bx⟩) (hF : Nat.blt F 4294967296 = true := by rfl) (hFR : notF R = true := by rfl) : VO C ops K (o :: rest) ⟨tm, rw', bx⟩ := by
 refine vOp hg ⟨fun M a w Q K' hr hkk => ?_⟩
 rw [Nat.blt_eq] at hF
 have hevp := hr.ev p
 rw [hp] at hevp
 have hevx := hr.ev x
 rw [hx] at hevx
 have hinn := deep_r hF hq (s := ⟨tm, rw', bx⟩) hf k
 rw [if_pos hk] at hinn
 have h1c := hevx.one hone
 have hflat : (q.nn k).isRefs = false := nn_refs q k
 obtain ⟨q1, q2, q3, q4, q5⟩ := Sq.set_ok hset
 have hi' : i.toNat < (q.nn k).len := by omega
 have hf' := hf
 rw [dF_fam] at hf'
 rcases hr.row _ _ _ hinn with ⟨hg', h0⟩ | ⟨g, cap, cur, hg', hh, hl, hm, hcs, hc⟩
 ·omega
 have hpv : a.eval p = .pointer (some ⟨g, i.toNat * (q.nn k).sz + off, none⟩) := by
  generalize a.eval p = v at hevp
  cases hevp with | iptr _ _ _ _ _ hv => exact hv g cap _ hg'
 have hpos : i.toNat * (q.nn k).sz + off < cur.size := by
  rw [hcs]
  have h4 : (i.toNat + 1) * (q.nn k).sz ≤ cap * (q.nn k).sz := Nat.mul_le_mul_right _ (by omega)
  rw [Nat.add_mul, Nat.one_mul] at h4; omega
 have hrunS : (store ⟨g, i.toNat * (q.nn k).sz + off, none⟩ (a.eval x)).run C.P w = .ok () (w.setCell ⟨g, i.toNat * (q.nn k).sz + off, none⟩ (a.eval x)) := by
  rw [run_store C.P w _ (a.eval x) _ h1c, cell_of_row w g _ cur te (0, 0) hh]
  simp [hpos, World.frozen?, hh]
 have hrun : (execOp a.eval o).run C.P w = .ok .skip (w.setCell ⟨g, i.toNat * (q.nn k).sz + off, none⟩ (a.eval x)) := by
  obtain ⟨⟨dd, hu, hn1, hn2⟩, hz1, _⟩ := hT t _ hy
  simp only [execOp, hop, Instr.storeAt, Instr.sureAddr, storeVar, hpv, Sem.run_bind, ty_sizeOf (hT t _ hy), Result.andThen_ok]
  have hcz : (a.eval x).cells = #[a.eval x] := cells_one h1c
  rw [hcz]
  generalize a.eval x = vx at hrunS ⊢
  simp [go_sem, storeCells, add_lit, hrunS, tySize]
 have hoth : ∀ y, y ≠ g → (w.setCell ⟨g, i.toNat * (q.nn k).sz + off, none⟩ (a.eval x)).heap[y]? = w.heap[y]? := fun y hy => Below.heap_setCell _ _ _ _ hy
 have hself := heap_setCell_at w g (i.toNat * (q.nn k).sz + off) cur te (a.eval x) hh
 have hA : ∀ f b, b < w.heap.size → Ow (Fs C.w0 C.O0) M f b → Ow (Fs C.w0 C.O0) M f b ∧ b < (w.setCell ⟨g, i.toNat * (q.nn k).sz + off, none⟩ (a.eval x)).heap.size ∧ (w.setCell ⟨g, i.toNat * (q.nn k).sz + off, none⟩ (a.eval x)).heap[b]? = w.heap[b]? := fun f b h2 h3 =>
  ⟨h3, by simpa [World.setCell] using h2, hoth b (fun e => h3.1 (by subst e; exact .inr ⟨_, _, _, hg'⟩))⟩
 have mono : ∀ d v, VR M (Ow (Fs C.w0 C.O0) M) w d v → VR M (Ow (Fs C.w0 C.O0) M) (w.setCell ⟨g, i.toNat * (q.nn k).sz + off, none⟩ (a.eval x)) d v := fun d v hv => hv.mono hA (fun _ _ h => h) (fun _ _ h => h)
 obtain ⟨r1, _⟩ := hr.inPlace (w' := w.setCell ⟨g, i.toNat * (q.nn k).sz + off, none⟩ (a.eval x)) (g := g) (cap := cap) (c' := c') (fq' := famOf q') (cur' := cur.setIfInBounds (i.toNat * (q.nn k).sz + off) (a.eval x)) hF hf' (by rw [famOf_get hq, if_pos hk]) hin.get rfl rfl rfl (by simp [World.setCell])
  (.inr ⟨by rw [q2]; exact hg', fun y _ hy => hoth y hy, hself, by omega, hm, by simp [hcs, q2], fun i' j' d' hi1 hd' => by
   rw [q2]
   by_cases hii : i' = i.toNat
   ·subst hii
    rw [q5 hi', List.getElem?_set] at hd'
    by_cases hjj : off = j'
    ·subst hjj
     rw [if_pos rfl, Sq.relem_len, if_pos q3] at hd'
     cases hd'
     simpa [hpos] using mono _ _ hevx
    ·rw [if_neg hjj] at hd'
     have := hc i.toNat j' d' hi' hd'
     have hne : i.toNat * (q.nn k).sz + off ≠ i.toNat * (q.nn k).sz + j' := by omega
     simpa [Array.getElem?_setIfInBounds_ne hne] using mono _ _ this
   ·rw [q4 i' hii] at hd'
    have hj' : j' < (q.nn k).sz := by rw [← Sq.relem_len (q.nn k) i']; exact (List.getElem?_eq_some_iff.1 hd').1
    have := hc i' j' d' (by omega) hd'
    have hne : i.toNat * (q.nn k).sz + off ≠ i' * (q.nn k).sz + j' := by
     intro he
     rcases Nat.lt_or_gt_of_ne hii with h5 | h5
     ·have : (i' + 1) * (q.nn k).sz ≤ i.toNat * (q.nn k).sz := Nat.mul_le_mul_right _ h5
      rw [Nat.add_mul, Nat.one_mul] at this; omega
     ·have : (i.toNat + 1) * (q.nn k).sz ≤ i' * (q.nn k).sz := Nat.mul_le_mul_right _ h5
      rw [Nat.add_mul, Nat.one_mul] at this; omega
    simpa [Array.getElem?_setIfInBounds_ne hne] using mono _ _ this⟩)
 unfold Oper.wp
 rw [hrun]
 have : (a.put o.dst undef) = a := by rw [hd]; rfl
 show K' (a.put o.dst undef) _
 rw [this]
 refine hkk M _ _ _ h ?_
 rw [dF_fam]
 exact Rel.outer hF hFR hR hin.dR r1
end
end Go.Proofs.Ytkklfgcelmeccaa
namespace Go.Proofs.Ytkklfgcelmeccaa
open Go.RowKit Go.Deep
structure NewD (N : Mp) (A : Bool → Nat → Prop) (w w' : World) (B F : Nat) (et te : TypeId) (q : Sq) : Prop where
 os : w'.os = w.os
 tape : w'.tape = w.tape
 output : w'.output = w.output
 size : w.heap.size ≤ w'.heap.size
 block : ∀ k, k < w.heap.size → w'.heap[k]? = w.heap[k]?
 noβ : ∀ b, N.β b = none
 outer : (N.γ B = some none ∧ q.len = 0) ∨ ∃ g cap cur, N.γ B = some (some (g, cap, q.sz)) ∧ w'.heap[g]? = some (.cells cur et (0, 0)) ∧ q.len ≤ cap ∧ cap ≤ maxLen ∧ cur.size = cap * q.sz ∧ ∀ i j d, i < q.len → ((dR F q).relem i)[j]? = some d → VR N A w' d (cur.getD (i * q.sz + j) undef)
 inner : ∀ i, i < q.len → (N.γ (inn F i) = some none ∧ (q.nn i).len = 0) ∨ ∃ g cap cur, N.γ (inn F i) = some (some (g, cap, (q.nn i).sz)) ∧ w'.heap[g]? = some (.cells cur te (0, 0)) ∧ (q.nn i).len ≤ cap ∧ cap ≤ maxLen ∧ cur.size = cap * (q.nn i).sz ∧ ∀ i' j d, i' < (q.nn i).len → ((q.nn i).relem i')[j]? = some d → VR N A w' d (cur.getD (i' * (q.nn i).sz + j) undef)
 none : ∀ x, x ≠ B → (∀ i, i < q.len → x ≠ inn F i) → N.γ x = none
 low : ∀ k, N.owned k → w.heap.size ≤ k
 inj : ∀ r r' k c z c' z', N.γ r = some (some (k, c, z)) → N.γ r' = some (some (k, c', z')) → r = r'
structure PCallD (P : Program) (f : FuncId) (ds : List D) (et te : TypeId) (q : Sq) (d : D) : Prop where
 enter : ∀ args w, (callFunc f args).run P w = .ok (.enter f args) w
 deep : q.deep = true
 run : ∀ w args, ArgsOK w ds args → Calls P f args w fun e w' => ∃ v, e = .returned v ∧ ∀ B F, B ≤ 500000 → F < 4294967296 → ∃ N, NewD N (Rs w N) w w' B F et te q ∧ VR N (Rs w N) w' (ren id (fun j => B + j) d) v
section
variable {C : Cx} {ops : Array Oper} {K : PS → Prop} {o : Oper} {rest : List Oper} {s s' : PS} {TT : List (Nat × Ty)} {tm : List (Nat × D)} {rw' : List (Nat × Option (TypeId × Sq))} {bx : List (Nat × Option (List D))}
theorem Rel.newDeep {w0 : World} {O0 : Hd} {n : Nat} {M N : Mp} {A : Bool → Nat → Prop} {a : Act} {w w' : World} {B F : Nat} {et te : TypeId} {q : Sq} (h : Rel w0 O0 n M ⟨tm, rw', bx⟩ a w) (hq : q.deep = true) (hN : NewD N A w w' B F et te q) (hF : F < 4294967296) (hB : B < 1000000)
  (hA : ∀ f k, k < w'.heap.size → A f k → (¬ N.owned k ∧ ¬ M.owned k) ∧ Fs w0 O0 f k) (hf : Fresh ⟨tm, rw', bx⟩ (fun _ => false) (fun r => Nat.beq r B || !notF r)) (hl : lone ⟨tm, rw', bx⟩ 999999 F = true) (h9 : PS.r ⟨tm, rw', bx⟩ 999999 = none) (hfn : PS.r ⟨tm, rw', bx⟩ (FK + F) = none) (hO : ∀ u, O0.fr (FK + F) ≠ some u) :
  ∃ M', Rel w0 O0 n M' ⟨tm, (B, some (et, dR F q)) :: (FK + F, some (te, dF q)) :: rw', bx⟩ a w' ∧ ∀ d v, ment (fun _ => true) (fun r => !Nat.beq r B) d = false → VR N A w' d v → VR M' (Ow (Fs w0 O0) M') w' d v := by
 have hBF := notF_lo hB
 have hBb := notF_big hBF
 have hne : FK + F ≠ B := fk_ne hF hBF
 let M' : Mp := ⟨M.β, fun x => match Nat.ble BIG x with
  | true => if unF x = F then N.γ x else M.γ x
  | false => if x = B then N.γ B else if x = FK + F then some none else M.γ x⟩
 have mB : M'.γ B = N.γ B := by simp [M', hBb]
 have mF : M'.γ (FK + F) = some none := by simp [M', fk_lo hF, hne]
 have mI : ∀ i, M'.γ (inn F i) = N.γ (inn F i) := fun i => by
  have e : ∀ x, Nat.ble BIG x = true → unF x = F → M'.γ x = N.γ x := fun x h1 h2 => by simp [M', h1, h2]
  exact e _ (inn_hi F i) (by rw [unF_inn, Nat.mod_eq_of_lt hF])
 have mG : ∀ x, Nat.ble BIG x = true → unF x ≠ F → M'.γ x = M.γ x := fun x h1 h2 => by simp [M', h1, h2]
 have mL : ∀ x, Nat.ble BIG x = false → x ≠ B → x ≠ FK + F → M'.γ x = M.γ x := fun x h1 h2 h3 => by simp [M', h1, h2, h3]
 have hfi : ∀ k, M.γ (inn F k) = none := fun k => h.rown _ (by rw [PS.r_hi _ (inn_hi F k), PS.inn_r, fk_unF hF, hfn]; rfl)
 have cases4 : ∀ x y, M'.γ x = some y → N.γ x = some y ∨ (M.γ x = some y ∧ x ≠ FK + F) ∨ (x = FK + F ∧ y = none) := fun x y hx => by
  cases hb : Nat.ble BIG x with
  | true =>
   by_cases hu : unF x = F
   ·have : M'.γ x = N.γ x := by simp [M', hb, hu]
    rw [this] at hx; exact .inl hx
   ·rw [mG x hb hu] at hx
    exact .inr (.inl ⟨hx, fun e => by rw [e, fk_lo hF] at hb; cases hb⟩)
  | false =>
   by_cases h1 : x = B
   ·rw [h1, mB] at hx; rw [h1]; exact .inl hx
   ·by_cases h2 : x = FK + F
    ·rw [h2, mF] at hx; cases hx; exact .inr (.inr ⟨h2, rfl⟩)
    ·rw [mL x hb h1 h2] at hx; exact .inr (.inl ⟨hx, h2⟩)
 have hown : ∀ k, M'.owned k → M.owned k ∨ N.owned k := by
  rintro k (⟨x, hx⟩ | ⟨r, c, z, hr⟩)
  ·exact .inl (.inl ⟨x, hx⟩)
  ·rcases cases4 r _ hr with h1 | ⟨h1, _⟩ | ⟨_, h1⟩
   ·exact .inr (.inr ⟨r, c, z, h1⟩)
   ·exact .inl (.inr ⟨r, c, z, h1⟩)
   ·cases h1
 have hA0 : ∀ f k, k < w.heap.size → Ow (Fs w0 O0) M f k → Ow (Fs w0 O0) M' f k ∧ k < w'.heap.size ∧ w'.heap[k]? = w.heap[k]? := fun f k h1 h2 =>
  ⟨⟨fun h3 => by rcases hown k h3 with h4 | h4; exact h2.1 h4; have := hN.low k h4; omega, h2.2⟩, by have := hN.size; omega, hN.block k h1⟩
 have hA1 : ∀ f k, k < w'.heap.size → A f k → Ow (Fs w0 O0) M' f k ∧ k < w'.heap.size ∧ w'.heap[k]? = w'.heap[k]? := fun f k h1 h2 =>
  ⟨⟨fun h3 => by rcases hown k h3 with h4 | h4; exact (hA f k h1 h2).1.2 h4; exact (hA f k h1 h2).1.1 h4, (hA f k h1 h2).2⟩, h1, rfl⟩
 have hγ : ∀ x y, (Nat.beq x B || !notF x) = false → M'.γ x = some y → M.γ x = some y := fun x y h1 h2 => by
  rw [Bool.or_eq_false_iff] at h1
  have hn : notF x = true := by simpa using h1.2
  rw [mL x (notF_big hn) (fun e => by rw [e, Nat.beq_refl] at h1; cases h1.1) (fun e => fk_ne hF hn e.symm)] at h2
  exact h2
 have hbf : (Nat.beq BIG B || !notF BIG) = true := by
  have : notF BIG = false := by decide
  rw [this]; simp
 have oldrow : ∀ x e p, PS.r ⟨tm, rw', bx⟩ x = some (e, p) → M'.γ x = M.γ x → RowAt (Fs w0 O0) M' w' x e p := fun x e p hx hm => by
  rcases h.row x e p hx with ⟨g1, g2⟩ | ⟨g, cap, cur, g1, g2, g3, g4, g5, g6⟩
  ·exact .inl ⟨hm.trans g1, g2⟩
  ·have hlt := (Array.getElem?_eq_some_iff.1 g2).1
   refine .inr ⟨g, cap, cur, hm.trans g1, (hN.block g hlt).trans g2, g3, g4, g5, fun i j d hi hd => (g6 i j d hi hd).relem_any2 hd hA0 fun G hG k y hy => ?_⟩
   rcases lone_ok hl hx hG with h1 | ⟨h1, h2⟩
   ·rw [h1, h9] at hx; cases hx
   ·rw [mG _ (inn_hi G k) (by rw [unF_inn, Nat.mod_eq_of_lt h2]; exact h1)] at hy; exact hy
 have hPS : ∀ x, PS.r ⟨tm, (B, some (et, dR F q)) :: (FK + F, some (te, dF q)) :: rw', bx⟩ x = match Nat.ble BIG x with | true => (if unF x = F then famr (some (some (te, dF q))) (unK x) else PS.r ⟨tm, rw', bx⟩ x) | false => if x = B then some (et, dR F q) else if x = FK + F then some (te, dF q) else PS.r ⟨tm, rw', bx⟩ x := fun x => by
  rw [PS.r_app (s := ⟨tm, rw', bx⟩) (s' := ⟨tm, (B, some (et, dR F q)) :: (FK + F, some (te, dF q)) :: rw', bx⟩) (l := [(B, some (et, dR F q)), (FK + F, some (te, dF q))]) rfl, look_two', look_two']
  cases hbx : Nat.ble BIG x with
  | true =>
   have h1 : B ≠ FK + unF x := fun e => by have := notF_fk x; rw [← e, hBF] at this; cases this
   by_cases hu : unF x = F
   ·simp [hu, Ne.symm hne]
   ·simp [hu, Ne.symm hu, h1]
  | false =>
   by_cases hx : B = x
   ·subst hx; simp
   ·by_cases hxf : FK + F = x
    ·rw [← hxf, if_neg (Ne.symm hne), if_pos rfl, if_neg hne, if_pos rfl]
    ·simp [hx, hxf, Ne.symm hx, Ne.symm hxf]
 refine ⟨M', ⟨?_, h.dfr, h.sz, fun t => ?_, fun x ds hx => ?_, fun x hx => h.boxn x hx, fun x e p hx => ?_, fun x hx => ?_, fun k hk => ?_, h.inj1, fun x y k c z c' z' h1 h2 => ?_, fun x y k c z h1 h2 => ?_, h.nle, h.fxb, fun x u u' h1 h2 => ?_⟩, fun d v hd hv => ?_⟩
 ·exact h.fr.step hN.os hN.tape hN.output hN.size fun k h1 _ => hN.block k (Nat.lt_of_lt_of_le h1 h.fr.size)
 ·exact VR.new (b := fun _ => false) (r := fun r => Nat.beq r B || !notF r) hA0 hγ (fun _ _ _ h => h) (hf.t t) (h.tmp t) (hi := fun h0 => by rw [hbf] at h0; cases h0)
 ·obtain ⟨k, cur', e', h1, h2, h3, h4⟩ := h.box x ds hx
  have hlt := (Array.getElem?_eq_some_iff.1 h2).1
  exact ⟨k, cur', e', h1, (hN.block k hlt).trans h2, h3, fun j d hd => VR.newS (b := fun _ => false) (r := fun r => Nat.beq r B || !notF r) hA0 hγ (fun _ _ _ h => h) (hf.b _ _ hx d (List.mem_of_getElem? hd)) (h4 j d hd) (hi := fun h0 => by rw [hbf] at h0; cases h0)⟩
 ·rw [hPS] at hx
  cases hbx : Nat.ble BIG x with
  | true =>
   rw [hbx] at hx
   by_cases hu : unF x = F
   ·have hxe : x = inn F (unK x) := by rw [← hu]; exact (inn_of hbx).symm
    simp only [hu, if_true] at hx
    rw [famr_dF hq] at hx
    generalize unK x = k0 at hx hxe
    split at hx
    ·rename_i hk
     cases hx
     rw [hxe]
     rcases hN.inner _ hk with ⟨g1, g2⟩ | ⟨g, cap, cur, g1, g2, g3, g4, g5, g6⟩
     ·exact .inl ⟨(mI _).trans g1, g2⟩
     ·refine .inr ⟨g, cap, cur, (mI _).trans g1, g2, g3, g4, g5, fun i j d hi hd => ?_⟩
      have hd2 := hd
      rw [Sq.relem_eq (nn_refs q _)] at hd2
      exact (g6 i j d hi hd).elem_any hd2 hA1
    ·cases hx
   ·simp only [hu, if_false] at hx
    exact oldrow x e p hx (mG x hbx hu)
  | false =>
   rw [hbx] at hx
   simp only at hx
   split at hx
   ·rename_i hxB
    cases hx
    subst hxB
    rcases hN.outer with ⟨g1, g2⟩ | ⟨g, cap, cur, g1, g2, g3, g4, g5, g6⟩
    ·exact .inl ⟨mB.trans g1, by rw [dR_len]; exact g2⟩
    ·refine .inr ⟨g, cap, cur, by rw [mB, dR_sz]; exact g1, g2, by rw [dR_len]; exact g3, g4, by rw [dR_sz]; exact g5, fun i j d hi hd => ?_⟩
     rw [dR_len] at hi
     rw [dR_sz]
     have hv := g6 i j d hi hd
     rcases dR_relem hq hi hd with ⟨rfl, _⟩ | ⟨y, rfl, _⟩
     ·exact hv.irow_mv fun y hy => by rw [mI] at hy; exact hy
     ·rw [hv.int_inv]; exact .int _
   rename_i hxB
   split at hx
   ·rename_i hxf
    cases hx
    rw [hxf]
    exact .inl ⟨mF, dF_len q⟩
   ·rename_i hxf
    exact oldrow x e p hx (mL x hbx hxB hxf)
 ·rw [hPS] at hx
  cases hbx : Nat.ble BIG x with
  | true =>
   rw [hbx] at hx
   by_cases hu : unF x = F
   ·have hxe : x = inn F (unK x) := by rw [← hu]; exact (inn_of hbx).symm
    simp only [hu, if_true] at hx
    rw [famr_dF hq] at hx
    split at hx
    ·cases hx
    ·rename_i hk
     rw [hxe, mI]
     refine hN.none _ (fun e => by have := inn_hi F (unK x); rw [e, hBb] at this; cases this) fun i hi e => hk ?_
     rw [(inn_inj e).2]; exact hi
   ·simp only [hu, if_false] at hx
    rw [mG x hbx hu]; exact h.rown x hx
  | false =>
   rw [hbx] at hx
   simp only at hx
   split at hx
   ·cases hx
   rename_i hxB
   split at hx
   ·cases hx
   rename_i hxf
   rw [mL x hbx hxB hxf]; exact h.rown x hx
 ·rcases hown k hk with h1 | h1
  ·exact h.low k h1
  ·exact .inl (Nat.le_trans h.fr.size (hN.low k h1))
 ·have hx : ∀ r r' k c z c' z', M.γ r = some (some (k, c, z)) → N.γ r' = some (some (k, c', z')) → False := fun r r' k c z c' z' a1 a2 => by
   have := h.lt _ (.inr ⟨r, c, z, a1⟩); have := hN.low _ (.inr ⟨r', c', z', a2⟩); omega
  rcases cases4 x _ h1 with g1 | ⟨g1, _⟩ | ⟨_, g1⟩
  ·rcases cases4 y _ h2 with g2 | ⟨g2, _⟩ | ⟨_, g2⟩
   ·exact hN.inj _ _ _ _ _ _ _ g1 g2
   ·exact (hx _ _ _ _ _ _ _ g2 g1).elim
   ·cases g2
  ·rcases cases4 y _ h2 with g2 | ⟨g2, _⟩ | ⟨_, g2⟩
   ·exact (hx _ _ _ _ _ _ _ g1 g2).elim
   ·exact h.inj2 _ _ _ _ _ _ _ g1 g2
   ·cases g2
  ·cases g1
 ·rcases cases4 y _ h2 with g2 | ⟨g2, _⟩ | ⟨_, g2⟩
  ·have := h.lt _ (.inl ⟨x, h1⟩); have := hN.low _ (.inr ⟨y, c, z, g2⟩); omega
  ·exact h.inj3 _ _ _ _ _ h1 g2
  ·cases g2
 ·obtain ⟨h3, h4⟩ := O0.lor x u h1
  have hb1 : Nat.ble BIG x = false := by
   cases hb : Nat.ble BIG x with
   | false => rfl
   | true => have := Nat.le_of_ble_eq_true hb; omega
  by_cases hxf : x = FK + F
  ·rw [hxf] at h1; exact absurd h1 (hO u)
  ·rw [mL x hb1 (by omega) hxf] at h2; exact h.fxr x u u' h1 h2
 ·refine VR.new (b := fun _ => true) (r := fun r => !Nat.beq r B) hA1 (fun x y h1 h2 => ?_) (fun x k hx => by simp at hx) hd hv (hi := fun h0 => ?_)
  ·have : x = B := Nat.eq_of_beq_eq_true (by simpa using h1)
   rw [this, mB] at h2; rw [this]; exact h2
  ·have : BIG = B := Nat.eq_of_beq_eq_true (by simpa using h0)
   rw [← this] at hBb
   exact absurd hBb (by decide)
theorem oCallD (F : Nat) {f : FuncId} {args : Array Operand} {ts : Array TypeId} {ds : List D} {et te : TypeId} {q : Sq} {d d' : D} (hp : PCallD C.P f ds et te q d) (hg : o.guard = none) (hop : o.op = .call { callee := .value (.func f), args := args, argTypes := ts }) {b : Nat} (hd : o.dst = some b) (hn : Nat.blt b C.n = true) (hno : (ds.all noIds) = true)
  (hm : ment (fun _ => true) (fun r => !Nat.beq r (rowB b)) (ren id (fun j => rowB b + j) d) = false) (hx : (fcD (ren id (fun j => rowB b + j) d) some) = some d') (hf : frB ⟨tm, rw', bx⟩ (fun _ => false) (fun r => Nat.beq r (rowB b) || !notF r) = true) (hl : lone ⟨tm, rw', bx⟩ 999999 F = true) (h9 : PS.r ⟨tm, rw', bx⟩ 999999 = none) (hfn : PS.r ⟨tm, rw', bx⟩ (FK + F) = none) (hO : ∀ u, C.O0.fr (FK + F) ≠ some u) (hfit : fits ⟨tm, rw', bx⟩ args.toList ds)
  (h : VO C ops K rest ⟨(b, d') :: tm, (rowB b, some (et, dR F q)) :: (FK + F, some (te, dF q)) :: rw', bx⟩) (hF : Nat.blt F 4294967296 = true := by rfl) : VO C ops K (o :: rest) ⟨tm, rw', bx⟩ := by
 refine vOp hg ⟨fun M a w Q K' hr hk => ?_⟩
 rw [Nat.blt_eq] at hF
 rw [fcD_eq] at hx
 cases hx
 have hb1000 : b < 1000 := by have := hr.nle; rw [Nat.blt_eq] at hn; omega
 have hrun : (execOp a.eval o).run C.P w = .ok (.enter f (args.map a.eval)) w := by
  have := hp.enter (args.map a.eval) w
  unfold execOp
  rw [hop]
  show ((do let d ← resolve a.eval _ o.type; invoke d.target d.args : Sem Next)).run C.P w = _
  simp only [resolve]
  show ((callFunc f ((#[] ++ args.map a.eval) ++ #[])) : Sem Next).run C.P w = _
  rw [show (#[] ++ args.map a.eval) ++ #[] = args.map a.eval by simp]
  exact this
 unfold Oper.wp
 rw [hrun]
 refine (hp.run w _ (fits_args hr hfit hno)).mono ?_
 rintro e w' ⟨v, rfl, hB⟩
 obtain ⟨N, hN, hv⟩ := hB (rowB b) F (by simp only [rowB]; omega) hF
 obtain ⟨M', h1, h2⟩ := hr.newDeep hp.deep hN hF (by simp only [rowB]; omega) (fun f k hk hA => ⟨⟨hA.2, fun ho => by have := hr.lt k ho; have := hA.1; omega⟩, .inl (Nat.le_trans hr.fr.size hA.1)⟩) (frB_ok hf) hl h9 hfn hO
 refine hk M' _ _ _ h ?_
 rw [hd]
 exact h1.put (o := some b) hn (h2 _ _ hm hv)
end
end Go.Proofs.Ytkklfgcelmeccaa
namespace Go.Proofs.Ytkklfgcelmeccaa
open Go.RowKit Go.Deep
theorem mentA_ne {b r : Nat → Bool} {d : D} (h : ∀ l, d ≠ .agg l) : mentA b r d = mentS b r d := by cases d <;> first | rfl | exact absurd rfl (h _)
theorem ment_ne {b r : Nat → Bool} {d : D} (h : ∀ l, d ≠ .tup l) : ment b r d = mentA b r d := by cases d <;> first | rfl | exact absurd rfl (h _)
theorem renA_ne {τ σ : Nat → Nat} {d : D} (h : ∀ l, d ≠ .agg l) : renA τ σ d = renS τ σ d := by cases d <;> first | rfl | exact absurd rfl (h _)
theorem ren_ne {τ σ : Nat → Nat} {d : D} (h : ∀ l, d ≠ .tup l) : ren τ σ d = renA τ σ d := by cases d <;> first | rfl | exact absurd rfl (h _)
theorem renS_agg {τ σ : Nat → Nat} (d : D) : ∀ l, renS τ σ d ≠ .agg l := by cases d <;> intro l h <;> cases h
theorem renA_tup {τ σ : Nat → Nat} (d : D) : ∀ l, renA τ σ d ≠ .tup l := by cases d <;> intro l h <;> cases h
theorem ment_one {B : Nat} : ∀ d : D, ment (fun _ => true) (fun j => !Nat.blt j 1) d = false → ment (fun _ => true) (fun r => !Nat.beq r B) (ren id (fun j => B + j) d) = false := by
 have keyS : ∀ d : D, mentS (fun _ => true) (fun j => !Nat.blt j 1) d = false → mentS (fun _ => true) (fun r => !Nat.beq r B) (renS id (fun j => B + j) d) = false := fun d hd => by
  cases d <;> simp only [mentS, renS] at hd ⊢ <;> try (first | exact hd | rfl)
  ·rename_i x _ _
   have h1 : x < 1 := by simpa using hd
   have : x = 0 := by omega
   subst this; simp [Nat.beq_refl]
  ·rename_i x _ _
   have h1 : x < 1 := by simpa using hd
   have : x = 0 := by omega
   subst this; simp [Nat.beq_refl]
  ·rename_i f bs
   simpa using hd
  ·exact absurd hd (by decide)
  ·exact absurd hd (by decide)
 have keyA : ∀ d : D, mentA (fun _ => true) (fun j => !Nat.blt j 1) d = false → mentA (fun _ => true) (fun r => !Nat.beq r B) (renA id (fun j => B + j) d) = false := fun d hd => by
  by_cases ha : ∃ l, d = .agg l
  ·obtain ⟨l, rfl⟩ := ha
   simp only [mentA, renA, List.any_eq_false, List.mem_map] at hd ⊢
   rintro x ⟨y, hy, rfl⟩
   have := keyS y (by simpa using hd y hy)
   simp [this]
  ·have hne : ∀ l, d ≠ .agg l := fun l e => ha ⟨l, e⟩
   rw [mentA_ne hne] at hd
   rw [renA_ne hne, mentA_ne (renS_agg d)]
   exact keyS d hd
 intro d hd
 by_cases ha : ∃ l, d = .tup l
 ·obtain ⟨l, rfl⟩ := ha
  simp only [ment, ren, List.any_eq_false, List.mem_map] at hd ⊢
  rintro x ⟨y, hy, rfl⟩
  have := keyA y (by simpa using hd y hy)
  simp [this]
 ·have hne : ∀ l, d ≠ .tup l := fun l e => ha ⟨l, e⟩
  rw [ment_ne hne] at hd
  rw [ren_ne hne, ment_ne (renA_tup d)]
  exact keyA d hd
def RetPD (TT : List (Nat × Ty)) (res : List ResultVar) (et te : TypeId) (q : Sq) (d : D) : Exit → PS → Prop := fun e s => match e with
 | .normal | .ret => ∃ R F d', Nat.blt F 4294967296 = true ∧ retD TT s res = some d' ∧ s.r R = some (et, dR F q) ∧ s.r (FK + F) = some (te, dF q) ∧ notF R = true ∧ Wk d' (ren id (fun _ => R) d) ∧ okD 1 d = true
 | _ => False
theorem pcallD_intro {P : Program} {f : FuncId} {fn : Func} {c : Code} {TT : List (Nat × Ty)} {ds : List D} {et te : TypeId} {q : Sq} {d : D} {n : Nat} {res : List ResultVar} (hT : TTOK P TT) (hf : P.funcs[f]? = some fn) (hb : fn.body = some c)
  (hname : (fn.name == "runtime.NumGoroutine") = false) (hn : fn.ntmps = n) (hres : fn.results.toList = res) (hds : Nat.ble ds.length n = true) (hno : (ds.all fun d => noIds d && nwD false d) = true) (hq : q.deep = true)
  (h : ∀ w0, VC ⟨P, w0, Hd.no, n⟩ c (RetPD TT res et te q d) ⟨entL 0 ds, [], []⟩) (hn1000 : Nat.ble n 1000 = true := by rfl) : PCallD P f ds et te q d := by
 subst hn hres
 refine ⟨callFunc_of hf hname (by simp [hb]), hq, fun w0 args ⟨hsz, hargs⟩ => ?_⟩
 have hle := Nat.le_of_ble_eq_true hds
 have hent : Rel w0 Hd.no fn.ntmps M0 ⟨entL 0 ds, [], []⟩ { tmps := args ++ Array.replicate (fn.ntmps - args.size) undef, defers := [] } w0 := by
  refine ⟨⟨rfl, rfl, rfl, Nat.le_refl _, fun _ _ _ => rfl⟩, rfl, by simp; omega, fun t => ?_, fun b cs hb => by simp [PS.b, look] at hb, fun _ _ => rfl, fun r e q hr => (by rw [r_ent] at hr; cases hr), fun _ _ => rfl, ?_, by simp, by simp, by simp, Nat.le_of_ble_eq_true hn1000, by simp, by simp⟩
  ·simp only [PS.t, look_entL, Nat.zero_le, if_true, Nat.sub_zero]
   cases hd : ds[t]? with
   | none => exact .dead _
   | some d0 =>
    have hlt : t < args.size := by rw [hsz]; exact (List.getElem?_eq_some_iff.1 hd).1
    have h1 := hargs t d0 hd
    have h2 : (args ++ Array.replicate (fn.ntmps - args.size) undef).getD t undef = args.getD t undef := by
     simp [Array.getElem?_append_left hlt]
    rw [h2]
    have h4 := (List.all_eq_true.1 hno) d0 (List.mem_of_getElem? hd)
    simp only [Bool.and_eq_true] at h4
    refine VR.new (b := fun _ => true) (r := fun _ => true) (A := fun f _ => True ∧ f = false) (fun f b hb hf => ⟨⟨?_, .inr hf.2⟩, hb, rfl⟩) (fun x y hx => by simp at hx) (fun x y hx => by simp at hx) ?_ (h1.flag h4.2)
    ·simpa [noIds] using h4.1
    ·rintro (⟨x, hx⟩ | ⟨x, c, z, hx⟩) <;> simp at hx
  ·rintro k (⟨x, hx⟩ | ⟨x, c, z, hx⟩) <;> simp at hx
 refine calls_of_wp hf hb (Code.wp_mono ?_ ((h w0).out M0 _ w0 hent))
 rintro e a' w' ⟨s', M', hqq, hr⟩
 have fin : ∀ (hq' : ∃ R F d', Nat.blt F 4294967296 = true ∧ retD TT s' fn.results.toList = some d' ∧ s'.r R = some (et, dR F q) ∧ s'.r (FK + F) = some (te, dF q) ∧ notF R = true ∧ Wk d' (ren id (fun _ => R) d) ∧ okD 1 d = true),
   a'.defers = [] ∧ ∃ v, (results fn a'.tmps).run P w' = .ok v w' ∧ ∃ v', Ending.returned v = .returned v' ∧ ∀ B F, B ≤ 500000 → F < 4294967296 → ∃ N, NewD N (Rs w0 N) w0 w' B F et te q ∧ VR N (Rs w0 N) w' (ren id (fun j => B + j) d) v' := by
  rintro ⟨R, F0, d', hF0, h1, hR, hf0, hFR, h4, h5⟩
  rw [Nat.blt_eq] at hF0
  obtain ⟨v, h6, h7⟩ := ret_ok hT hr h1
  replace h7 := h7.wk h4
  refine ⟨hr.dfr, v, h6, v, rfl, fun B F hB0 hF => ?_⟩
  have hB : B < 1000000 := by omega
  have hBb := notF_big (notF_lo hB)
  simp only [okD, Bool.and_eq_true, Bool.not_eq_true'] at h5
  obtain ⟨⟨k1, k2⟩, k3⟩ := h5
  let M1 : Mp := ⟨fun _ => none, fun j => if j = 0 then M'.γ R else none⟩
  let N : Mp := ⟨fun _ => none, fun y => if y = B then M'.γ R else if Nat.ble BIG y = true ∧ unF y = F ∧ unK y < q.len then M'.γ (inn F0 (unK y)) else none⟩
  have nB : N.γ B = M'.γ R := by simp [N]
  have nI : ∀ i, i < q.len → N.γ (inn F i) = M'.γ (inn F0 i) := fun i hi => by
   have e : ∀ x, x ≠ B → (Nat.ble BIG x = true ∧ unF x = F ∧ unK x < q.len) → N.γ x = M'.γ (inn F0 (unK x)) := fun x h1 h2 => by simp [N, h1, h2]
   have := e (inn F i) (fun e => by have := inn_hi F i; rw [e, hBb] at this; cases this) ⟨inn_hi F i, by rw [unF_inn, Nat.mod_eq_of_lt hF], by rw [unK_inn]; exact hi⟩
   rwa [unK_inn] at this
  have nC : ∀ y z, N.γ y = some z → (y = B ∧ M'.γ R = some z) ∨ ∃ i, i < q.len ∧ y = inn F i ∧ M'.γ (inn F0 i) = some z := fun y z hy => by
   by_cases hyB : y = B
   ·rw [hyB, nB] at hy; exact .inl ⟨hyB, hy⟩
   ·simp only [N, hyB, if_false] at hy
    split at hy
    ·rename_i hc
     exact .inr ⟨_, hc.2.2, by rw [← hc.2.1]; exact (inn_of hc.1).symm, hy⟩
    ·cases hy
  have hNo : ∀ k, N.owned k → M'.owned k := by
   rintro k (⟨b, hb⟩ | ⟨y, c, z, hy⟩)
   ·cases hb
   ·rcases nC y _ hy with ⟨_, h1⟩ | ⟨i, _, _, h1⟩
    ·exact .inr ⟨_, c, z, h1⟩
    ·exact .inr ⟨_, c, z, h1⟩
  have hlow : ∀ k, M'.owned k → w0.heap.size ≤ k := fun k hk => (hr.low k hk).resolve_right (fun h => h)
  have hA : ∀ f b, b < w'.heap.size → (Ow (Fs w0 Hd.no) M' f b ∧ f = true) → Rs w0 N f b ∧ b < w'.heap.size ∧ w'.heap[b]? = w'.heap[b]? := fun f b hb hh =>
   ⟨⟨hh.1.2.resolve_right (fun h => by rw [hh.2] at h; cases h), fun ho => hh.1.1 (hNo b ho)⟩, hb, rfl⟩
  have hdeep := deep_r hF0 hq hf0
  have hRb := notF_big hFR
  refine ⟨N, ⟨hr.fr.os, hr.fr.tape, hr.fr.output, hr.fr.size, fun k hk => hr.fr.block k hk (fun h => h), fun _ => rfl, ?_, fun i hi => ?_, fun x hx hxi => ?_, fun k hk => hlow k (hNo k hk), fun r r' k c z c' z' a1 a2 => ?_⟩, ?_⟩
  ·rcases hr.row _ _ _ hR with ⟨b1, b2⟩ | ⟨g, cap, cur, b1, b2, b3, b4, b5, b6⟩
   ·exact .inl ⟨nB.trans b1, by rw [dR_len] at b2; exact b2⟩
   ·rw [dR_len] at b3 b6
    rw [dR_sz] at b1 b5 b6
    refine .inr ⟨g, cap, cur, nB.trans b1, b2, b3, b4, b5, fun i j d0 hi hd => ?_⟩
    rcases dR_relem hq hi hd with ⟨rfl, hro⟩ | ⟨y, rfl, hro⟩
    ·have : ((dR F0 q).relem i)[j]? = some (.irow F0 i (q.nn i).len) := by
      rcases dR_elem (F := F0) hq hi (hro true) with ⟨_, h2⟩ | ⟨y, h2, _⟩
      ·exact h2
      ·cases h2
     exact (b6 i j _ hi this).irow_mv fun y hy => by rw [nI i hi] at hy; exact hy
    ·have : ((dR F0 q).relem i)[j]? = some (.int y) := by
      rcases dR_elem (F := F0) hq hi (hro true) with ⟨h2, _⟩ | ⟨y', h2, h3⟩
      ·cases h2
      ·cases h2; exact h3
     rw [(b6 i j _ hi this).int_inv]; exact .int _
  ·have hin := hdeep i
   rw [if_pos hi] at hin
   rcases hr.row _ _ _ hin with ⟨b1, b2⟩ | ⟨g, cap, cur, b1, b2, b3, b4, b5, b6⟩
   ·exact .inl ⟨(nI i hi).trans b1, b2⟩
   ·refine .inr ⟨g, cap, cur, (nI i hi).trans b1, b2, b3, b4, b5, fun i' j d0 hi' hd => ?_⟩
    have h8 := b6 i' j d0 hi' hd
    rw [Sq.relem_eq (nn_refs q i)] at hd
    have hfl : nwS true d0 = true ∧ sameD d0 d0 := elem_new true (q.nn i) i' j d0 hd
    exact (h8.flagE (M' := M') hfl.2 hfl.1).elem_any hd hA
  ·cases hx' : N.γ x with
   | none => rfl
   | some z =>
    rcases nC x z hx' with ⟨h1, _⟩ | ⟨i, h1, h2, _⟩
    ·exact absurd h1 hx
    ·exact absurd h2 (hxi i h1)
  ·rcases nC r _ a1 with ⟨e1, b1⟩ | ⟨i, i1, e1, b1⟩
   ·rcases nC r' _ a2 with ⟨e2, b2⟩ | ⟨i', i2, e2, b2⟩
    ·rw [e1, e2]
    ·have := hr.inj2 _ _ _ _ _ _ _ b1 b2
     have h9 := inn_hi F0 i'
     rw [← this, hRb] at h9; cases h9
   ·rcases nC r' _ a2 with ⟨e2, b2⟩ | ⟨i', i2, e2, b2⟩
    ·have := hr.inj2 _ _ _ _ _ _ _ b1 b2
     have h9 := inn_hi F0 i
     rw [this, hRb] at h9; cases h9
    ·have := hr.inj2 _ _ _ _ _ _ _ b1 b2
     rw [e1, e2, (inn_inj this).2]
  ·have h8 : VR M1 (Ow (Fs w0 Hd.no) M') w' d v := VR.unren (M' := M') (A' := Ow (Fs w0 Hd.no) M') (τ := id) (σ := fun _ => R) (fun r x hx => by
    simp only [M1] at hx
    split at hx
    ·exact hx
    ·cases hx) (fun b k hb => by simp [M1] at hb) (fun _ _ _ h => h) k2 h7 (hi := fun r x hr1 hx => by
    simp only [M1] at hx
    split at hx
    ·rename_i h0
     subst h0
     exact absurd hr1 (by decide)
    ·cases hx)
   have hbk : ∀ r x, BIG ≤ r → M1.γ r = some x → False := fun r x hr1 hx => by
    simp only [M1] at hx
    split at hx
    ·rename_i h0; subst h0; exact absurd hr1 (by decide)
    ·cases hx
   have hment : ment (fun _ => true) (fun j => !Nat.blt j 1) d = false := k1
   have h9 : VR N (Rs w0 N) w' (ren id (fun j => B + j) d) v := by
    let N1 : Mp := ⟨fun _ => none, fun y => if y = B then M'.γ R else none⟩
    have h10 : VR N1 (Rs w0 N) w' (ren id (fun j => B + j) d) v := VR.ren (M := M1) hA (fun r x hx => by
     simp only [N1] at hx
     split at hx
     ·rename_i h0
      have : r = 0 := by omega
      simp only [M1, this, if_true]
      exact hx
     ·cases hx) (fun b k hb => by simp [N1] at hb) (h8.flag k3) (hi := fun r x hr1 hx => by
     simp only [N1] at hx
     split at hx
     ·rename_i h0
      rw [← h0, Nat.ble_eq_true_of_le hr1] at hBb; cases hBb
     ·cases hx)
    have hm2 : ment (fun _ => true) (fun r => !Nat.beq r B) (ren id (fun j => B + j) d) = false := ment_one d hment
    refine VR.new (b := fun _ => true) (r := fun r => !Nat.beq r B) (fun f b hb ha => ⟨ha, hb, rfl⟩) (fun x y hx hy => ?_) (fun x k hx => by simp at hx) hm2 h10 (hi := fun h0 => ?_)
    ·have : x = B := Nat.eq_of_beq_eq_true (by simpa using hx)
     rw [this, nB] at hy
     simp only [N1, this, if_true]; exact hy
    ·have : BIG = B := Nat.eq_of_beq_eq_true (by simpa using h0)
     rw [← this] at hBb; exact absurd hBb (by decide)
   exact h9
 cases e with
 | normal => exact fin hqq
 | ret => exact fin hqq
 | _ => exact hqq.elim
end Go.Proofs.Ytkklfgcelmeccaa
namespace Go.Proofs.Ytkklfgcelmeccaa
open Go.RowKit Go.Deep
theorem idn_snoc {α : Type} (X : List (List α)) (c : List α) : idn (X ++ [c]) = idn X ++ [(X.length, c.length)] := by simp [idn, List.zipIdx_append]
theorem appI (F : Nat) (X : List (List Int)) (c : List Int) : (dR F (.intss X)).app (.irefs F [(X.length, c.length)]) = some (dR F (.intss (X ++ [c]))) := by simp [dR, Sq.app, Nat.beq_refl, idn_snoc]
theorem pushI (X : List (List Int)) (c : List Int) : (Fq.ints (X.map some)).push (.ints c) = some (.ints ((X ++ [c]).map some)) := by simp [Fq.push]
theorem getD_set_eq {α : Type} (X : List α) (i j : Nat) (c z : α) (hi : i < X.length) : (X.set i c).getD j z = if j = i then c else X.getD j z := by
 by_cases h : j = i
 ·subst h; simp [hi]
 ·simp [List.getD_eq_getElem?_getD, List.getElem?_set, Ne.symm h, h]
theorem getD_map_some {α : Type} (X : List α) (k : Nat) : (X.map some).getD k none = X[k]? := by
 simp only [List.getD_eq_getElem?_getD, List.getElem?_map]
 cases X[k]? <;> rfl
theorem idn_set {α : Type} (X : List (List α)) (i : Nat) (c : List α) (hi : i < X.length) : idn (X.set i c) = (idn X).set i (i, c.length) := by
 apply List.ext_getElem
 ·simp [idn]
 ·intro j h1 h2
  simp only [idn, List.length_map, List.length_zipIdx, List.length_set] at h1 h2
  by_cases h : i = j
  ·subst h; simp [idn]
  ·simp [idn, List.getElem_set, h]
theorem inI (F : Nat) (X : List (List Int)) (k : Nat) (c : List Int) (hk : k < X.length) (hc : c.length = (X.getD k []).length) : SetIn F (.intss X) (.intss (X.set k c)) k (.ints c) := by
 refine ⟨fun j => ?_, ?_⟩
 ·rw [famOf_get rfl, famOf_get rfl]
  simp only [Sq.len, List.length_set, Sq.nn, getD_set_eq _ _ _ _ _ hk]
  by_cases h : j = k
  ·subst h; simp [hk]
  ·simp [h]
 ·simp only [dR]
  rw [idn_set _ _ _ hk, hc]
  congr 1
  apply List.ext_getElem
  ·simp
  ·intro j h1 h2
   by_cases h : k = j
   ·subst h; simp [idn, hk]
   ·simp [List.getElem_set, h]
section
variable {C : Cx} {ops : Array Oper} {K : PS → Prop} {o : Oper} {rest : List Oper} {s : PS} {TT : List (Nat × Ty)} {tm : List (Nat × D)} {rw' : List (Nat × Option (TypeId × Sq))} {bx : List (Nat × Option (List D))} {cr B : List Nat} {j : Nat}
theorem sLoadD (hT : TTOK C.P TT) {t et : TypeId} {e : TypeId} {kk : Sq} {by' : Nat} {x : Operand} {R F off m : Nat} {i : Int} {q : Sq} (hop : o.op = .load t x) (hy : look TT t = some (.sl e kk by')) (hx : s.ev x = .eptr R i off) (hR : s.r R = some (et, dR F q)) (hq : q.deep = true) (hoff : Nat.beq (off + 1) q.sz = true) (hm : (q.nn i.toNat).len = m) (hi : 0 ≤ i ∧ i < (q.len : Int)) (ho : dstOk C.n o.dst = true)
  (h : K (s.put o.dst (.irow F i.toNat m))) : Step C o s K := by
 have hi' : i.toNat < q.len := by omega
 have hoff' := Nat.eq_of_beq_eq_true hoff
 have hd : ((dR F q).relem i.toNat)[off]? = some (.irow F i.toNat m) := by
  have hlt : off < q.sz := by omega
  obtain ⟨d', hd'⟩ : ∃ d', (q.elem true i.toNat)[off]? = some d' := ⟨_, List.getElem?_eq_getElem (by rw [Sq.elem_len]; exact hlt)⟩
  rcases dR_elem (F := F) hq hi' hd' with ⟨_, h2⟩ | ⟨y, h1, _⟩
  ·rw [hm] at h2; exact h2
  ·exfalso
   subst h1
   cases q <;> first | (cases hq; done) | skip
   case raises X => simp [Sq.sz] at hoff'; subst hoff'; simp [Sq.elem] at hd'
   all_goals (simp [Sq.sz] at hoff'; subst hoff'; simp [Sq.elem] at hd')
 refine sRun (d := .irow F i.toNat m) (fun M a w hr => ?_) ho h
 have hv : evalV TT s (.load t x) = some (0 ≤ i ∧ i < ((dR F q).len : Int), .irow F i.toNat m) := by
  simp only [evalV, hx, ptrCells, hR, hy]
  have : ((dR F q).relem i.toNat).drop off = .irow F i.toNat m :: ((dR F q).relem i.toNat).drop (off + 1) := by
   obtain ⟨h1, h2⟩ := List.getElem?_eq_some_iff.1 hd
   rw [List.drop_eq_getElem_cons h1, h2]
  rw [this]
 obtain ⟨v, h1, h2⟩ := load_ok (P := C.P) hT hr hv (by rw [dR_len]; exact hi)
 refine ⟨v, ?_, h2⟩
 unfold execOp
 rw [hop]
 show ((do pure (Next.value (← Instr.loadAt t (a.eval x))) : Sem Next)).run C.P w = _
 rw [Sem.run_bind, h1]; rfl
theorem oLoadD (hT : TTOK C.P TT) (hw : Wanted C ops o ⟨tm, rw', bx⟩) {t et : TypeId} {e : TypeId} {kk : Sq} {by' : Nat} {x : Operand} {R F off m b : Nat} {i : Int} (q : Sq) (hop : o.op = .load t x) (hy : look TT t = some (.sl e kk by')) (hx : (PS.ev ⟨tm, rw', bx⟩ x) = .eptr R i off) (hR : PS.r ⟨tm, rw', bx⟩ R = some (et, dR F q)) (hq : q.deep = true) (hoff : Nat.beq (off + 1) q.sz = true) (hm : (q.nn i.toNat).len = m) (hd : o.dst = some b) (hn : Nat.blt b C.n = true) (hi : 0 ≤ i ∧ i < (q.len : Int))
  (h : VO C ops K rest ⟨(b, .irow F i.toNat m) :: tm, rw', bx⟩) : VO C ops K (o :: rest) ⟨tm, rw', bx⟩ :=
 oStepW hw (sLoadD hT hop hy hx hR hq hoff hm hi (by rw [hd]; exact hn) (by rw [hd]; exact h))
theorem nLoadD (hT : TTOK C.P TT) (hw : Wanted C ops o ⟨tm, rw', bx⟩) {t et : TypeId} {e : TypeId} {kk : Sq} {by' : Nat} {x : Operand} {R F off m b : Nat} {i : Int} (q : Sq) (hop : o.op = .load t x) (hy : look TT t = some (.sl e kk by')) (hx : (PS.ev ⟨tm, rw', bx⟩ x) = .eptr R i off) (hR : PS.r ⟨tm, rw', bx⟩ R = some (et, dR F q)) (hq : q.deep = true) (hoff : Nat.beq (off + 1) q.sz = true) (hm : (q.nn i.toNat).len = m) (hd : o.dst = some b) (hn : Nat.blt b C.n = true)
  (hvis : visB ops cr B j ⟨tm, rw', bx⟩ [x] = true) (hck : chkE ops cr B j ⟨.irow F i.toNat m, [], []⟩ = true) (hi : 0 ≤ i ∧ i < (q.len : Int)) (h : QN C ops cr B K (j + 1) rest ⟨(b, .irow F i.toNat m) :: tm, rw', bx⟩) : QN C ops cr B K j (o :: rest) ⟨tm, rw', bx⟩ :=
 nStep (e := ⟨.irow F i.toNat m, [], []⟩) hw hck (fun s1 hag => by
  have s1x := hag.same hvis x (by simp)
  rw [hx] at s1x
  refine sLoadD (K := fun s' => s' = s1.ap o.dst ⟨.irow F i.toNat m, [], []⟩) hT hop hy ((hag.ev x (by rw [hop]; simp [Op.operands])).trans hx) (by rw [s1x.eptr]; exact hR) hq hoff hm hi (by rw [hd]; exact hn) ?_
  rw [hd]; rfl) (by rw [hd]; exact h)
theorem oAppendD (q' : Sq) (hT : TTOK C.P TT) (hg : o.guard = none) {t e : TypeId} {k q qb : Sq} {by' b R F m m' : Nat} {x y : Operand} {dy : D} {ob : Prop} (hop : o.op = .call { callee := .builtin .append, args := #[x, y], argTypes := #[t, t] }) (hd : o.dst = some b) (hy : look TT t = some (.sl e k by'))
  (hx : (PS.ev ⟨tm, rw', bx⟩ x) = .row R 0 m) (hR : PS.r ⟨tm, rw', bx⟩ R = some (e, dR F q)) (hyy : (PS.ev ⟨tm, rw', bx⟩ y) = dy) (hs : srcSq ⟨tm, rw', bx⟩ dy = some (ob, qb)) (hob : ob) (hk : Nat.beq k.sz q.sz = true) (hbb : Nat.ble by' 32 = true) (hn : Nat.blt b C.n = true) (hlo : Nat.ble R 999999 = true)
  (hm : m = q.len) (hm' : m' = q'.len) {s' : PS} (hnf : nf ⟨(b, .row R 0 m') :: (PS.kill ⟨tm, rw', bx⟩ R).tmp, (R, some (e, dR F q')) :: rw', (PS.kill ⟨tm, rw', bx⟩ R).box⟩ = some s') (happ : (dR F q).app qb = some (dR F q')) (hbd : q.len + qb.len ≤ 4294967296) (h : VO C ops K rest s') : VO C ops K (o :: rest) ⟨tm, rw', bx⟩ := by
 subst hm'
 refine vOp hg (sAppend hT hop hd hy hx hR (by rw [dR_sz]; exact hk) hyy hs happ hbb hn (by rw [dR_len]; exact hm) hob (by rw [dR_len]; exact hbd) hlo ?_)
 rw [dR_len]
 exact vNf hnf h
end
end Go.Proofs.Ytkklfgcelmeccaa
namespace Go.Proofs.Ytkklfgcelmeccaa
open Go.RowKit Go.Deep
section
variable {C : Cx} {tm : List (Nat × D)} {rw' : List (Nat × Option (TypeId × Sq))} {bx : List (Nat × Option (List D))} {s' : PS}
end
section
variable {C : Cx} {ops : Array Oper} {K : PS → Prop} {o : Oper} {rest : List Oper} {s : PS} {TT : List (Nat × Ty)} {tm : List (Nat × D)} {rw' : List (Nat × Option (TypeId × Sq))} {bx : List (Nat × Option (List D))}
end
end Go.Proofs.Ytkklfgcelmeccaa
namespace Go.Proofs.Ytkklfgcelmeccaa
open Go.RowKit Go.Deep
section
variable {C : Cx} {ops : Array Oper} {K : PS → Prop} {o : Oper} {rest : List Oper} {TT : List (Nat × Ty)} {tm : List (Nat × D)} {rw' : List (Nat × Option (TypeId × Sq))} {bx : List (Nat × Option (List D))} {cr B : List Nat} {j : Nat}
end
end Go.Proofs.Ytkklfgcelmeccaa
namespace Go.Proofs.Ytkklfgcelmeccaa
open Go.RowKit
end Go.Proofs.Ytkklfgcelmeccaa
namespace Go.Proofs.Ytkklfgcelmeccaa
open Go.RowKit
def S_FreeJoints_l1 (N : Nat) (l_0 : Lnk) (k : (List Int) → Option (List Int)) : Nat → ((List Int) × Int) → Option (List Int)
 | 0, _ => none
 | n + 1, (l17, i18) =>
  cnd (decide (i18 < (l_0.f.places.length : Int))) (
   (S_IsLinkage N l_0).bind fun v21 =>
   cnd v21 (
    (S_l2Has N l_0.ground i18).bind fun v22 =>
    cnd (!v22) (
     grd (l17.length + 1 ≤ 4294967296) <|
     grd (Rg64 (i18 + (1 : Int))) <|
     S_FreeJoints_l1 N l_0 k n ((l17 ++ ([i18] : List Int)), (i18 + (1 : Int)))) (
     grd (Rg64 (i18 + (1 : Int))) <|
     S_FreeJoints_l1 N l_0 k n (l17, (i18 + (1 : Int))))) (
    k l17)) (
   k l17)
def S_FreeJoints (N : Nat) (l_0 : Lnk) : Option (List Int) :=
 S_FreeJoints_l1 N l_0 (fun (l11 : List Int) =>
    some l11) N (([] : List Int), (0 : Int))
set_option maxRecDepth 20000 in
set_option maxHeartbeats 1600000 in
theorem S_FreeJoints_w (N : Nat) (l_0 : Lnk) (r : List Int) (h : S_FreeJoints N l_0 = some r) : PCall Try.prog 43 [lD l_0] [(3, .ints r)] (.row 0 0 r.length) := by
 unfold S_FreeJoints at h
 refine pcall_intro (TT := TT) tt Try.func43 rfl rfl Try.ntmps43 (congrArg Array.toList Try.results43) rfl rfl fun w0 => ?_
 refine vSeq ?_
 refine vRegion ?_
 refine oBox rfl rfl rfl rfl rfl rfl rfl rfl rfl ?_
 refine oVal tt rfl rfl rfl rfl rfl trivial ?_
 refine vNil ?_
 change VC _ _ _ _
 refine vSeq ?_
 refine vRegion ?_
 refine oEmpty tt (wNone rfl) rfl rfl rfl rfl ?_
 refine oVal tt rfl rfl rfl rfl rfl trivial ?_
 refine vNil ?_
 change VC _ _ _ _
 iterate 2 refine vSeq ?_
 refine vRegion ?_
 refine oVal tt rfl rfl rfl rfl rfl trivial ?_
 refine vNil ?_
 change VC _ _ _ _
 refine vJoin (F := fun k => S_FreeJoints_l1 N l_0 k) h (α := List Int) (J := fun (l11 : List Int) => (⟨[(3, .row 26 0 l11.length)], [(26, some (3, .ints l11))], []⟩ : PS)) ?_ ?_
 ·rintro l11 h
  show VC _ _ _ (⟨[(3, .row 26 0 l11.length)], [(26, some (3, .ints l11))], []⟩ : PS)
  refine vSeq ?_
  refine vRegion ?_
  iterate 2 refine oVal tt rfl rfl rfl rfl rfl trivial ?_
  refine vNil ?_
  change VC _ _ _ _
  refine vRet ?_
  change ∃ _, _
  cases h
  exact ⟨[26], _, rfl, ⟨rfl, trivial⟩, rfl, (.eq rfl), rfl⟩
 ·intro k h
  refine vBlock ?_
  refine vNilT 3 26 3 (.ints []) rfl rfl rfl rfl ?_
  refine vLoopS (α := (List Int) × Int) (fun | (l17, i18) => (⟨[(1, .ptr 1 0), (3, .row 26 0 l17.length), (4, .int i18)], [(26, some (3, .ints l17))], [(1, some [.int l_0.f.g.n, .ro false (.pairs l_0.f.g.bars), .ro false (.pairs l_0.f.places), .ro false (.ints l_0.ground)])]⟩ : PS)) (S_FreeJoints_l1 N l_0 k) h (En.of ⟨rfl, rfl, rfl, trivial⟩ ⟨rfl, trivial⟩ ⟨rfl, trivial⟩) (fun _ => rfl) ?_
  rintro n ⟨l17, i18⟩ h
  rw [S_FreeJoints_l1] at h
  show VC _ _ _ (⟨[(1, .ptr 1 0), (3, .row 26 0 l17.length), (4, .int i18)], [(26, some (3, .ints l17))], [(1, some [.int l_0.f.g.n, .ro false (.pairs l_0.f.g.bars), .ro false (.pairs l_0.f.places), .ro false (.ints l_0.ground)])]⟩ : PS)
  iterate 2 refine vSeq ?_
  refine vRegion ?_
  iterate 7 refine oVal tt rfl rfl rfl rfl rfl trivial ?_
  refine oSplit rfl rfl rfl (fun hb1 => ?_) (fun hb1 => ?_)
  ·replace h := cnd_t hb1 h
   refine oValG tt rfl rfl rfl rfl rfl hb1 rfl rfl rfl trivial ?_
   obtain ⟨v21, hc2, h⟩ := bind_inv h
   refine oCallG (S_IsLinkage_w N l_0 v21 hc2) rfl rfl rfl rfl hb1 rfl rfl rfl rfl rfl rfl rfl ⟨⟨rfl, rfl, rfl, rfl, trivial⟩, trivial⟩ ?_
   refine oPick rfl rfl rfl rfl rfl hb1 rfl ?_
   refine vNil ?_
   change VC _ _ _ _
   refine vCond rfl (fun hb3 => ?_) (fun hb3 => ?_)
   ·replace h := cnd_t hb3 h
    refine vSkip ?_
    change VC _ _ _ _
    refine vSeq ?_
    refine vBlock ?_
    refine vSeq ?_
    refine vRegion ?_
    iterate 3 refine oVal tt rfl rfl rfl rfl rfl trivial ?_
    obtain ⟨v22, hc4, h⟩ := bind_inv h
    refine oCall (S_l2Has_w N l_0.ground i18 v22 hc4) rfl rfl rfl rfl rfl rfl rfl rfl ⟨rfl, rfl, trivial⟩ ?_
    refine oVal tt rfl rfl rfl rfl rfl trivial ?_
    refine vNil ?_
    change VC _ _ _ _
    refine vCond rfl (fun hb5 => ?_) (fun hb5 => ?_)
    ·replace h := cnd_t hb5 h
     refine vRegion ?_
     iterate 2 refine oVal tt rfl rfl rfl rfl rfl trivial ?_
     refine oBuild tt rfl rfl rfl rfl rfl rfl rfl rfl rfl rfl rfl ?_
     obtain ⟨hg6, h⟩ := grd_inv h
     refine oAppend tt rfl rfl rfl rfl rfl rfl rfl rfl rfl rfl rfl rfl rfl rfl rfl rfl (Nat.le_of_eq (Nat.zero_add _)) hg6 ?_
     refine oVal tt rfl rfl rfl rfl rfl trivial ?_
     refine vNil ?_
     change VC _ _ _ _
     refine vRegion ?_
     refine oVal tt rfl rfl rfl rfl rfl trivial ?_
     obtain ⟨hg7, h⟩ := grd_inv h
     refine oVal tt rfl rfl rfl rfl rfl hg7 ?_
     refine oVal tt rfl rfl rfl rfl rfl trivial ?_
     refine vNil ?_
     change ∃ _, _
     exact ⟨((l17 ++ ([i18] : List Int)), (i18 + (1 : Int))), (En.of ⟨rfl, rfl, rfl, trivial⟩ ⟨rfl, trivial⟩ ⟨rfl, trivial⟩), h⟩
    ·replace h := cnd_f hb5 h
     refine vSkip ?_
     change VC _ _ _ _
     refine vRegion ?_
     refine oVal tt rfl rfl rfl rfl rfl trivial ?_
     obtain ⟨hg8, h⟩ := grd_inv h
     refine oVal tt rfl rfl rfl rfl rfl hg8 ?_
     refine oVal tt rfl rfl rfl rfl rfl trivial ?_
     refine vNil ?_
     change ∃ _, _
     exact ⟨(l17, (i18 + (1 : Int))), (En.of ⟨rfl, rfl, rfl, trivial⟩ ⟨rfl, trivial⟩ ⟨rfl, trivial⟩), h⟩
   ·replace h := cnd_f hb3 h
    refine vExit ?_
    change ∃ _, _
    exact ⟨l17, (En.of ⟨rfl, trivial⟩ ⟨rfl, trivial⟩ trivial), h⟩
  ·replace h := cnd_f hb1 h
   iterate 2 refine oNoT rfl rfl rfl rfl hb1 rfl rfl ?_
   refine oPickF rfl rfl rfl rfl rfl hb1 rfl ?_
   refine vNil ?_
   change VC _ _ _ _
   refine vCondF rfl rfl ?_
   refine vExit ?_
   change ∃ _, _
   exact ⟨l17, (En.of ⟨rfl, trivial⟩ ⟨rfl, trivial⟩ trivial), h⟩
def I_FreeJoints_l1 (N : Nat) (l_0 : Lnk) (k : (List Int) → Option (List Int)) : Nat → ((List Int) × Int) → Option (List Int)
 | 0, _ => none
 | n + 1, (l12, x13) =>
  cnd (decide (x13 < (l_0.f.places.length : Int))) (
   (G_Contains_int N l_0.ground x13).bind fun v15 =>
   cnd (!v15) (
    grd (l12.length + 1 ≤ 4294967296) <|
    grd (Rg64 (x13 + (1 : Int))) <|
    I_FreeJoints_l1 N l_0 k n ((l12 ++ ([x13] : List Int)), (x13 + (1 : Int)))) (
    grd (Rg64 (x13 + (1 : Int))) <|
    I_FreeJoints_l1 N l_0 k n (l12, (x13 + (1 : Int))))) (
   k l12)
def I_FreeJoints (N : Nat) (l_0 : Lnk) : Option (List Int) :=
 (I_IsLinkage N l_0).bind fun v1 =>
 cnd (!v1) (
  some ([] : List Int)) (
  I_FreeJoints_l1 N l_0 (fun (l8 : List Int) =>
     some l8) N (([] : List Int), (0 : Int)))
set_option maxRecDepth 20000 in
set_option maxHeartbeats 1600000 in
theorem I_FreeJoints_w (N : Nat) (l_0 : Lnk) (r : List Int) (h : I_FreeJoints N l_0 = some r) : PCall Try.prog 48 [lD l_0] [(3, .ints r)] (.row 0 0 r.length) := by
 unfold I_FreeJoints at h
 refine pcall_intro (TT := TT) tt Try.func48 rfl rfl Try.ntmps48 (congrArg Array.toList Try.results48) rfl rfl fun w0 => ?_
 refine vSeq ?_
 refine vRegion ?_
 refine oBox rfl rfl rfl rfl rfl rfl rfl rfl rfl ?_
 refine oVal tt rfl rfl rfl rfl rfl trivial ?_
 refine vNil ?_
 change VC _ _ _ _
 refine vSeq ?_
 refine vRegion ?_
 refine oEmpty tt (wNone rfl) rfl rfl rfl rfl ?_
 refine oVal tt rfl rfl rfl rfl rfl trivial ?_
 refine vNil ?_
 change VC _ _ _ _
 iterate 2 refine vSeq ?_
 refine vRegion ?_
 refine oVal tt rfl rfl rfl rfl rfl trivial ?_
 obtain ⟨v1, hc1, h⟩ := bind_inv h
 refine oCall (I_IsLinkage_w N l_0 v1 hc1) rfl rfl rfl rfl rfl rfl rfl rfl ⟨⟨rfl, rfl, rfl, rfl, trivial⟩, trivial⟩ ?_
 refine oVal tt rfl rfl rfl rfl rfl trivial ?_
 refine vNil ?_
 change VC _ _ _ _
 refine vCond rfl (fun hb2 => ?_) (fun hb2 => ?_)
 ·replace h := cnd_t hb2 h
  refine vSeq ?_
  refine vRegion ?_
  iterate 2 refine oVal tt rfl rfl rfl rfl rfl trivial ?_
  refine vNil ?_
  change VC _ _ _ _
  refine vNilT 2 9001 3 (.ints []) rfl rfl rfl rfl ?_
  refine vRet ?_
  change ∃ _, _
  cases h
  exact ⟨[9001], _, rfl, ⟨rfl, trivial⟩, rfl, (.eq rfl), rfl⟩
 ·replace h := cnd_f hb2 h
  refine vSkip ?_
  change VC _ _ _ _
  iterate 2 refine vSeq ?_
  refine vRegion ?_
  iterate 5 refine oVal tt rfl rfl rfl rfl rfl trivial ?_
  refine vNil ?_
  change VC _ _ _ _
  refine vJoin (F := fun k => I_FreeJoints_l1 N l_0 k) h (α := List Int) (J := fun (l8 : List Int) => (⟨[(3, .row 25 0 l8.length)], [(25, some (3, .ints l8))], []⟩ : PS)) ?_ ?_
  ·rintro l8 h
   show VC _ _ _ (⟨[(3, .row 25 0 l8.length)], [(25, some (3, .ints l8))], []⟩ : PS)
   refine vSeq ?_
   refine vRegion ?_
   iterate 2 refine oVal tt rfl rfl rfl rfl rfl trivial ?_
   refine vNil ?_
   change VC _ _ _ _
   refine vRet ?_
   change ∃ _, _
   cases h
   exact ⟨[25], _, rfl, ⟨rfl, trivial⟩, rfl, (.eq rfl), rfl⟩
  ·intro k h
   refine vBlock ?_
   refine vNilT 3 25 3 (.ints []) rfl rfl rfl rfl ?_
   refine vLoopS (α := (List Int) × Int) (fun | (l12, x13) => (⟨[(1, .ptr 1 0), (3, .row 25 0 l12.length), (13, .int (l_0.f.places.length : Int)), (14, .int x13)], [(25, some (3, .ints l12))], [(1, some [.int l_0.f.g.n, .ro false (.pairs l_0.f.g.bars), .ro false (.pairs l_0.f.places), .ro false (.ints l_0.ground)])]⟩ : PS)) (I_FreeJoints_l1 N l_0 k) h (En.of ⟨rfl, rfl, rfl, rfl, trivial⟩ ⟨rfl, trivial⟩ ⟨rfl, trivial⟩) (fun _ => rfl) ?_
   rintro n ⟨l12, x13⟩ h
   rw [I_FreeJoints_l1] at h
   show VC _ _ _ (⟨[(1, .ptr 1 0), (3, .row 25 0 l12.length), (13, .int (l_0.f.places.length : Int)), (14, .int x13)], [(25, some (3, .ints l12))], [(1, some [.int l_0.f.g.n, .ro false (.pairs l_0.f.g.bars), .ro false (.pairs l_0.f.places), .ro false (.ints l_0.ground)])]⟩ : PS)
   refine vSeq ?_
   refine vRegion ?_
   refine oVal tt rfl rfl rfl rfl rfl trivial ?_
   refine vNil ?_
   change VC _ _ _ _
   refine vSeq ?_
   refine vCond rfl (fun hb3 => ?_) (fun hb3 => ?_)
   ·replace h := cnd_t hb3 h
    refine vSkip ?_
    change VC _ _ _ _
    refine vSeq ?_
    refine vBlock ?_
    refine vSeq ?_
    refine vRegion ?_
    iterate 2 refine oVal tt rfl rfl rfl rfl rfl trivial ?_
    refine vNil ?_
    change VC _ _ _ _
    refine vSeq ?_
    refine vRegion ?_
    iterate 3 refine oVal tt rfl rfl rfl rfl rfl trivial ?_
    obtain ⟨v15, hc4, h⟩ := bind_inv h
    refine oCall (G_Contains_int_w N l_0.ground x13 v15 hc4) rfl rfl rfl rfl rfl rfl rfl rfl ⟨rfl, rfl, trivial⟩ ?_
    refine oVal tt rfl rfl rfl rfl rfl trivial ?_
    refine vNil ?_
    change VC _ _ _ _
    refine vCond rfl (fun hb5 => ?_) (fun hb5 => ?_)
    ·replace h := cnd_t hb5 h
     refine vRegion ?_
     iterate 2 refine oVal tt rfl rfl rfl rfl rfl trivial ?_
     refine oBuild tt rfl rfl rfl rfl rfl rfl rfl rfl rfl rfl rfl ?_
     obtain ⟨hg6, h⟩ := grd_inv h
     refine oAppend tt rfl rfl rfl rfl rfl rfl rfl rfl rfl rfl rfl rfl rfl rfl rfl rfl (Nat.le_of_eq (Nat.zero_add _)) hg6 ?_
     refine oVal tt rfl rfl rfl rfl rfl trivial ?_
     refine vNil ?_
     change VC _ _ _ _
     refine vRegion ?_
     obtain ⟨hg7, h⟩ := grd_inv h
     refine oVal tt rfl rfl rfl rfl rfl hg7 ?_
     refine oVal tt rfl rfl rfl rfl rfl trivial ?_
     refine vNil ?_
     change ∃ _, _
     exact ⟨((l12 ++ ([x13] : List Int)), (x13 + (1 : Int))), (En.of ⟨rfl, rfl, rfl, rfl, trivial⟩ ⟨rfl, trivial⟩ ⟨rfl, trivial⟩), h⟩
    ·replace h := cnd_f hb5 h
     refine vSkip ?_
     change VC _ _ _ _
     refine vRegion ?_
     obtain ⟨hg8, h⟩ := grd_inv h
     refine oVal tt rfl rfl rfl rfl rfl hg8 ?_
     refine oVal tt rfl rfl rfl rfl rfl trivial ?_
     refine vNil ?_
     change ∃ _, _
     exact ⟨(l12, (x13 + (1 : Int))), (En.of ⟨rfl, rfl, rfl, rfl, trivial⟩ ⟨rfl, trivial⟩ ⟨rfl, trivial⟩), h⟩
   ·replace h := cnd_f hb3 h
    refine vExit ?_
    change ∃ _, _
    exact ⟨l12, (En.of ⟨rfl, trivial⟩ ⟨rfl, trivial⟩ trivial), h⟩
end Go.Proofs.Ytkklfgcelmeccaa
namespace Go.Proofs.Ytkklfgcelmeccaa
open Go.RowKit Go.Deep
def S_l9Reduced_l2 (N : Nat) (l7 : List (List Int)) (l112 : List (List Int)) (l113 : List Int) (j114 : Int) (at132 : Int) (k : (List (List Int)) → Option ((List (List Int)) × (List Int))) : Nat → ((List (List Int)) × Int) → Option ((List (List Int)) × (List Int))
 | 0, _ => none
 | n + 1, (l141, i142) =>
  cnd (decide (i142 < (l7.length : Int))) (
   cnd (i142 != (l113.length : Int)) (
    grd (0 ≤ i142 ∧ i142 < (l7.length : Int)) <|
    grd (0 ≤ i142 ∧ i142 < (l141.length : Int)) <|
    grd (0 ≤ j114 ∧ j114 < ((l141.getD ((i142).toNat) []).length : Int)) <|
    cnd (((l141.getD ((i142).toNat) []).getD ((j114).toNat) 0) != (0 : Int)) (
     (S_l9Without N (l141.getD ((i142).toNat) []) (l112.getD ((at132).toNat) []) j114).bind fun v144 =>
     grd (Rg64 (i142 + (1 : Int))) <|
     S_l9Reduced_l2 N l7 l112 l113 j114 at132 k n ((l141.set ((i142).toNat) v144), (i142 + (1 : Int)))) (
     grd (Rg64 (i142 + (1 : Int))) <|
     S_l9Reduced_l2 N l7 l112 l113 j114 at132 k n (l141, (i142 + (1 : Int))))) (
    grd (Rg64 (i142 + (1 : Int))) <|
    S_l9Reduced_l2 N l7 l112 l113 j114 at132 k n (l141, (i142 + (1 : Int))))) (
   k l141)
def S_l9Reduced_l3 (N : Nat) (l7 : List (List Int)) (l112 : List (List Int)) (j114 : Int) (k : Int → Option ((List (List Int)) × (List Int))) : Nat → Int → Option ((List (List Int)) × (List Int))
 | 0, _ => none
 | n + 1, at146 =>
  cnd (decide (at146 < (l7.length : Int))) (
   grd (0 ≤ at146 ∧ at146 < (l7.length : Int)) <|
   grd (0 ≤ at146 ∧ at146 < (l112.length : Int)) <|
   grd (0 ≤ j114 ∧ j114 < ((l112.getD ((at146).toNat) []).length : Int)) <|
   cnd (((l112.getD ((at146).toNat) []).getD ((j114).toNat) 0) == (0 : Int)) (
    grd (Rg64 (at146 + (1 : Int))) <|
    S_l9Reduced_l3 N l7 l112 j114 k n (at146 + (1 : Int))) (
    k at146)) (
   k at146)
def S_l9Reduced_l1 (N : Nat) (l7 : List (List Int)) (k : ((List (List Int)) × (List Int)) → Option ((List (List Int)) × (List Int))) : Nat → ((List (List Int)) × (List Int) × Int) → Option ((List (List Int)) × (List Int))
 | 0, _ => none
 | n + 1, (l112, l113, j114) =>
  cnd (decide ((l7.length : Int) > (0 : Int))) (
   grd (0 ≤ (0 : Int) ∧ (0 : Int) < (l7.length : Int)) <|
   grd (0 ≤ (0 : Int) ∧ (0 : Int) < (l112.length : Int)) <|
   cnd (decide (j114 < ((l112.getD ((0 : Int).toNat) []).length : Int))) (
    S_l9Reduced_l3 N l7 l112 j114 (fun (at132 : Int) =>
       cnd (at132 == (l7.length : Int)) (
        grd (Rg64 (j114 + (1 : Int))) <|
        S_l9Reduced_l1 N l7 k n (l112, l113, (j114 + (1 : Int)))) (
        grd (0 ≤ at132 ∧ at132 < (l7.length : Int)) <|
        grd (0 ≤ at132 ∧ at132 < (l112.length : Int)) <|
        grd (0 ≤ (l113.length : Int) ∧ (l113.length : Int) < (l7.length : Int)) <|
        grd (0 ≤ (l113.length : Int) ∧ (l113.length : Int) < (l112.length : Int)) <|
        grd (0 ≤ (l113.length : Int) ∧ (l113.length : Int) < ((l112.set ((at132).toNat) (l112.getD (((l113.length : Int)).toNat) [])).length : Int)) <|
        S_l9Reduced_l2 N l7 l112 l113 j114 at132 (fun (l138 : List (List Int)) =>
           grd (l113.length + 1 ≤ 4294967296) <|
           grd (Rg64 (j114 + (1 : Int))) <|
           S_l9Reduced_l1 N l7 k n (l138, (l113 ++ ([j114] : List Int)), (j114 + (1 : Int)))) N (((l112.set ((at132).toNat) (l112.getD (((l113.length : Int)).toNat) [])).set (((l113.length : Int)).toNat) (l112.getD ((at132).toNat) [])), (0 : Int)))) N (l113.length : Int)) (
    k (l112, l113))) (
   k (l112, l113))
def S_l9Reduced_l4 (N : Nat) (m_0 : List (List Int)) (k : (List (List Int)) → Option ((List (List Int)) × (List Int))) : Nat → ((List (List Int)) × Int) → Option ((List (List Int)) × (List Int))
 | 0, _ => none
 | n + 1, (l150, i151) =>
  cnd (decide (i151 < (m_0.length : Int))) (
   grd (0 ≤ i151 ∧ i151 < (m_0.length : Int)) <|
   (S_l9Clean N (m_0.getD ((i151).toNat) [])).bind fun v153 =>
   grd (l150.length + 1 ≤ 4294967296) <|
   grd (Rg64 (i151 + (1 : Int))) <|
   S_l9Reduced_l4 N m_0 k n ((l150 ++ ([v153] : List (List Int))), (i151 + (1 : Int)))) (
   k l150)
def S_l9Reduced (N : Nat) (m_0 : List (List Int)) : Option ((List (List Int)) × (List Int)) :=
 S_l9Reduced_l4 N m_0 (fun (l7 : List (List Int)) =>
    S_l9Reduced_l1 N l7 (fun (x : (List (List Int)) × (List Int)) =>
      match x with
      | (l76, l77) =>
       grd (l7.length = l76.length) <|
       some (l76, l77)) N (l7, ([] : List Int), (0 : Int))) N (([] : List (List Int)), (0 : Int))
set_option maxRecDepth 20000 in
set_option maxHeartbeats 1600000 in
theorem S_l9Reduced_w (N : Nat) (m_0 : List (List Int)) (r : (List (List Int)) × (List Int)) (h : S_l9Reduced N m_0 = some r) : PCall Try.prog 44 [.ro false (.intss m_0)] [(35, .intss r.1), (3, .ints r.2)] (.tup [.row 0 0 r.1.length, .row 1 0 r.2.length]) := by
 unfold S_l9Reduced at h
 refine pcall_intro (TT := TT) tt Try.func44 rfl rfl Try.ntmps44 (congrArg Array.toList Try.results44) rfl rfl fun w0 => ?_
 refine vSeq ?_
 refine vRegion ?_
 iterate 2 refine oVal tt rfl rfl rfl rfl rfl trivial ?_
 refine vNil ?_
 change VC _ _ _ _
 refine vSeq ?_
 refine vRegion ?_
 refine oEmpty tt (wNone rfl) rfl rfl rfl rfl ?_
 refine oVal tt rfl rfl rfl rfl rfl trivial ?_
 refine vNil ?_
 change VC _ _ _ _
 iterate 2 refine vSeq ?_
 refine vRegion ?_
 refine oVal tt rfl rfl rfl rfl rfl trivial ?_
 refine vNil ?_
 change VC _ _ _ _
 refine vJoin (F := fun k => S_l9Reduced_l4 N m_0 k) h (α := List (List Int)) (J := fun (l7 : List (List Int)) => (⟨[(4, .row 25 0 l7.length)], [(25, some (35, .intss l7))], []⟩ : PS)) ?_ ?_
 ·rintro l7 h
  show VC _ _ _ (⟨[(4, .row 25 0 l7.length)], [(25, some (35, .intss l7))], []⟩ : PS)
  refine vSeq ?_
  refine vRegion ?_
  refine oEmpty tt (wNone rfl) rfl rfl rfl rfl ?_
  refine oVal tt rfl rfl rfl rfl rfl trivial ?_
  refine vNil ?_
  change VC _ _ _ _
  iterate 2 refine vSeq ?_
  refine vRegion ?_
  refine oVal tt rfl rfl rfl rfl rfl trivial ?_
  refine vNil ?_
  change VC _ _ _ _
  refine vJoin (F := fun k => S_l9Reduced_l1 N l7 k) h (α := (List (List Int)) × (List Int)) (J := fun | (l76, l77) => (⟨[(4, .row 25 0 l7.length), (6, .row 112 0 l77.length)], [(25, some (35, .intss l76)), (112, some (3, .ints l77))], []⟩ : PS)) ?_ ?_
  ·rintro ⟨l76, l77⟩ h
   show VC _ _ _ (⟨[(4, .row 25 0 l7.length), (6, .row 112 0 l77.length)], [(25, some (35, .intss l76)), (112, some (3, .ints l77))], []⟩ : PS)
   refine vSeq ?_
   refine vRegion ?_
   iterate 4 refine oVal tt rfl rfl rfl rfl rfl trivial ?_
   refine vNil ?_
   change VC _ _ _ _
   obtain ⟨hg1, h⟩ := grd_inv h
   refine vRet ?_
   change ∃ _, _
   cases h
   exact ⟨[25, 112], _, rfl, ⟨rfl, rfl, trivial⟩, rfl, (.eq (by simp only [hg1]; rfl)), rfl⟩
  ·intro k h
   refine vBlock ?_
   refine vNilT 6 112 3 (.ints []) rfl rfl rfl rfl ?_
   refine vLoopS (α := (List (List Int)) × (List Int) × Int) (fun | (l112, l113, j114) => (⟨[(4, .row 25 0 l7.length), (6, .row 112 0 l113.length), (7, .int j114)], [(25, some (35, .intss l112)), (112, some (3, .ints l113))], []⟩ : PS)) (S_l9Reduced_l1 N l7 k) h (En.of ⟨rfl, rfl, rfl, trivial⟩ ⟨rfl, rfl, trivial⟩ trivial) (fun _ => rfl) ?_
   rintro n ⟨l112, l113, j114⟩ h
   rw [S_l9Reduced_l1] at h
   show VC _ _ _ (⟨[(4, .row 25 0 l7.length), (6, .row 112 0 l113.length), (7, .int j114)], [(25, some (35, .intss l112)), (112, some (3, .ints l113))], []⟩ : PS)
   iterate 2 refine vSeq ?_
   refine vRegion ?_
   iterate 4 refine oVal tt rfl rfl rfl rfl rfl trivial ?_
   refine oSplit rfl rfl rfl (fun hb2 => ?_) (fun hb2 => ?_)
   ·replace h := cnd_t hb2 h
    iterate 2 refine oValG tt rfl rfl rfl rfl rfl hb2 rfl rfl rfl trivial ?_
    obtain ⟨hg3, h⟩ := grd_inv h
    refine oValG tt rfl rfl rfl rfl rfl hb2 rfl rfl rfl hg3 ?_
    obtain ⟨hg4, h⟩ := grd_inv h
    refine oValG tt rfl rfl rfl rfl rfl hb2 rfl rfl rfl hg4 ?_
    iterate 2 refine oValG tt rfl rfl rfl rfl rfl hb2 rfl rfl rfl trivial ?_
    refine oPick rfl rfl rfl rfl rfl hb2 rfl ?_
    refine vNil ?_
    change VC _ _ _ _
    refine vCond rfl (fun hb5 => ?_) (fun hb5 => ?_)
    ·replace h := cnd_t hb5 h
     refine vSkip ?_
     change VC _ _ _ _
     refine vSeq ?_
     refine vBlock ?_
     refine vSeq ?_
     refine vRegion ?_
     iterate 3 refine oVal tt rfl rfl rfl rfl rfl trivial ?_
     refine vNil ?_
     change VC _ _ _ _
     refine vSeq ?_
     refine vJoin (F := fun k => S_l9Reduced_l3 N l7 l112 j114 k) h (α := Int) (J := fun (at132 : Int) => (⟨[(4, .row 25 0 l7.length), (6, .row 112 0 l113.length), (7, .int j114), (8, .int at132)], [(25, some (35, .intss l112)), (112, some (3, .ints l113))], []⟩ : PS)) ?_ ?_
     ·rintro at132 h
      show VC _ _ _ (⟨[(4, .row 25 0 l7.length), (6, .row 112 0 l113.length), (7, .int j114), (8, .int at132)], [(25, some (35, .intss l112)), (112, some (3, .ints l113))], []⟩ : PS)
      iterate 2 refine vSeq ?_
      refine vRegion ?_
      iterate 4 refine oVal tt rfl rfl rfl rfl rfl trivial ?_
      refine vNil ?_
      change VC _ _ _ _
      refine vCond rfl (fun hb6 => ?_) (fun hb6 => ?_)
      ·replace h := cnd_t hb6 h
       refine vExit ?_
       change VC _ _ _ _
       refine vRegion ?_
       refine oVal tt rfl rfl rfl rfl rfl trivial ?_
       obtain ⟨hg7, h⟩ := grd_inv h
       refine oVal tt rfl rfl rfl rfl rfl hg7 ?_
       refine oVal tt rfl rfl rfl rfl rfl trivial ?_
       refine vNil ?_
       change ∃ _, _
       exact ⟨(l112, l113, (j114 + (1 : Int))), (En.of ⟨rfl, rfl, rfl, trivial⟩ ⟨rfl, rfl, trivial⟩ trivial), h⟩
      ·replace h := cnd_f hb6 h
       refine vSkip ?_
       change VC _ _ _ _
       refine vSeq ?_
       refine vRegion ?_
       iterate 2 refine oVal tt rfl rfl rfl rfl rfl trivial ?_
       obtain ⟨hg8, h⟩ := grd_inv h
       refine oVal tt rfl rfl rfl rfl rfl hg8 ?_
       obtain ⟨hg9, h⟩ := grd_inv h
       refine oVal tt rfl rfl rfl rfl rfl hg9 ?_
       refine oVal tt rfl rfl rfl rfl rfl trivial ?_
       refine vNil ?_
       change VC _ _ _ _
       refine vSeq ?_
       refine vRegion ?_
       iterate 5 refine oVal tt rfl rfl rfl rfl rfl trivial ?_
       obtain ⟨hg10, h⟩ := grd_inv h
       refine oVal tt rfl rfl rfl rfl rfl hg10 ?_
       obtain ⟨hg11, h⟩ := grd_inv h
       refine oVal tt rfl rfl rfl rfl rfl hg11 ?_
       refine oVal tt rfl rfl rfl rfl rfl hg8 ?_
       refine oStore tt rfl rfl rfl rfl rfl rfl rfl rfl rfl rfl ⟨_, _, rfl, hg9.1, hg9.2⟩ ⟨hg9, trivial⟩ ?_
       refine vNil ?_
       change VC _ _ _ _
       refine vSeq ?_
       refine vRegion ?_
       iterate 4 refine oVal tt rfl rfl rfl rfl rfl trivial ?_
       refine oVal tt rfl rfl rfl rfl rfl hg10 ?_
       obtain ⟨hg12, h⟩ := grd_inv h
       refine oStore tt rfl rfl rfl rfl rfl rfl rfl rfl rfl rfl ⟨_, _, rfl, hg12.1, hg12.2⟩ ⟨hg12, trivial⟩ ?_
       refine vNil ?_
       change VC _ _ _ _
       iterate 2 refine vSeq ?_
       refine vRegion ?_
       refine oVal tt rfl rfl rfl rfl rfl trivial ?_
       refine vNil ?_
       change VC _ _ _ _
       refine vJoin (F := fun k => S_l9Reduced_l2 N l7 l112 l113 j114 at132 k) h (α := List (List Int)) (J := fun (l138 : List (List Int)) => (⟨[(4, .row 25 0 l7.length), (6, .row 112 0 l113.length), (7, .int j114)], [(25, some (35, .intss l138)), (112, some (3, .ints l113))], []⟩ : PS)) ?_ ?_
       ·rintro l138 h
        show VC _ _ _ (⟨[(4, .row 25 0 l7.length), (6, .row 112 0 l113.length), (7, .int j114)], [(25, some (35, .intss l138)), (112, some (3, .ints l113))], []⟩ : PS)
        refine vRegion ?_
        iterate 2 refine oVal tt rfl rfl rfl rfl rfl trivial ?_
        refine oBuild tt rfl rfl rfl rfl rfl rfl rfl rfl rfl rfl rfl ?_
        obtain ⟨hg13, h⟩ := grd_inv h
        refine oAppend tt rfl rfl rfl rfl rfl rfl rfl rfl rfl rfl rfl rfl rfl rfl rfl rfl (Nat.le_of_eq (Nat.zero_add _)) hg13 ?_
        refine oVal tt rfl rfl rfl rfl rfl trivial ?_
        refine vNil ?_
        change VC _ _ _ _
        refine vRegion ?_
        refine oVal tt rfl rfl rfl rfl rfl trivial ?_
        obtain ⟨hg14, h⟩ := grd_inv h
        refine oVal tt rfl rfl rfl rfl rfl hg14 ?_
        refine oVal tt rfl rfl rfl rfl rfl trivial ?_
        refine vNil ?_
        change ∃ _, _
        exact ⟨(l138, (l113 ++ ([j114] : List Int)), (j114 + (1 : Int))), (En.of ⟨rfl, rfl, rfl, trivial⟩ ⟨rfl, rfl, trivial⟩ trivial), h⟩
       ·intro k h
        refine vBlock ?_
        refine vLoopS (α := (List (List Int)) × Int) (fun | (l141, i142) => (⟨[(4, .row 25 0 l7.length), (6, .row 112 0 l113.length), (7, .int j114), (9, .ro true (.ints (l112.getD ((at132).toNat) []))), (10, .int i142)], [(25, some (35, .intss l141)), (112, some (3, .ints l113))], []⟩ : PS)) (S_l9Reduced_l2 N l7 l112 l113 j114 at132 k) h (En.of ⟨rfl, rfl, rfl, rfl, rfl, trivial⟩ ⟨rfl, rfl, trivial⟩ trivial) (fun _ => rfl) ?_
        rintro n ⟨l141, i142⟩ h
        rw [S_l9Reduced_l2] at h
        show VC _ _ _ (⟨[(4, .row 25 0 l7.length), (6, .row 112 0 l113.length), (7, .int j114), (9, .ro true (.ints (l112.getD ((at132).toNat) []))), (10, .int i142)], [(25, some (35, .intss l141)), (112, some (3, .ints l113))], []⟩ : PS)
        iterate 2 refine vSeq ?_
        refine vRegion ?_
        iterate 4 refine oVal tt rfl rfl rfl rfl rfl trivial ?_
        refine vNil ?_
        change VC _ _ _ _
        refine vCond rfl (fun hb15 => ?_) (fun hb15 => ?_)
        ·replace h := cnd_t hb15 h
         refine vSkip ?_
         change VC _ _ _ _
         refine vSeq ?_
         refine vBlock ?_
         refine vSeq ?_
         refine vRegion ?_
         iterate 5 refine oVal tt rfl rfl rfl rfl rfl trivial ?_
         refine oSplit rfl rfl rfl (fun hb16 => ?_) (fun hb16 => ?_)
         ·replace h := cnd_t hb16 h
          iterate 2 refine oValG tt rfl rfl rfl rfl rfl hb16 rfl rfl rfl trivial ?_
          obtain ⟨hg17, h⟩ := grd_inv h
          refine oValG tt rfl rfl rfl rfl rfl hb16 rfl rfl rfl hg17 ?_
          obtain ⟨hg18, h⟩ := grd_inv h
          refine oValG tt rfl rfl rfl rfl rfl hb16 rfl rfl rfl hg18 ?_
          refine oValG tt rfl rfl rfl rfl rfl hb16 rfl rfl rfl trivial ?_
          obtain ⟨hg19, h⟩ := grd_inv h
          refine oValG tt rfl rfl rfl rfl rfl hb16 rfl rfl rfl hg19 ?_
          iterate 2 refine oValG tt rfl rfl rfl rfl rfl hb16 rfl rfl rfl trivial ?_
          refine oPick rfl rfl rfl rfl rfl hb16 rfl ?_
          refine vNil ?_
          change VC _ _ _ _
          refine vCond rfl (fun hb20 => ?_) (fun hb20 => ?_)
          ·replace h := cnd_t hb20 h
           refine vRegion ?_
           iterate 4 refine oVal tt rfl rfl rfl rfl rfl trivial ?_
           refine oVal tt rfl rfl rfl rfl rfl hg17 ?_
           refine oVal tt rfl rfl rfl rfl rfl hg18 ?_
           iterate 2 refine oVal tt rfl rfl rfl rfl rfl trivial ?_
           obtain ⟨v144, hc21, h⟩ := bind_inv h
           refine oCall (S_l9Without_w N (l141.getD ((i142).toNat) []) (l112.getD ((at132).toNat) []) j114 v144 hc21) rfl rfl rfl rfl rfl rfl rfl rfl ⟨rfl, rfl, rfl, trivial⟩ ?_
           refine oVal tt rfl rfl rfl rfl rfl hg17 ?_
           refine oFreeze (t := 107) rfl rfl rfl rfl ?_
           refine oStore tt rfl rfl rfl rfl rfl rfl rfl rfl rfl rfl ⟨_, _, rfl, hg18.1, hg18.2⟩ ⟨hg18, trivial⟩ ?_
           refine vNil ?_
           change VC _ _ _ _
           refine vRegion ?_
           refine oVal tt rfl rfl rfl rfl rfl trivial ?_
           obtain ⟨hg22, h⟩ := grd_inv h
           refine oVal tt rfl rfl rfl rfl rfl hg22 ?_
           refine oVal tt rfl rfl rfl rfl rfl trivial ?_
           refine vNil ?_
           change ∃ _, _
           exact ⟨((l141.set ((i142).toNat) v144), (i142 + (1 : Int))), (En.of ⟨rfl, rfl, rfl, rfl, rfl, trivial⟩ ⟨rfl, rfl, trivial⟩ trivial), h⟩
          ·replace h := cnd_f hb20 h
           refine vSkip ?_
           change VC _ _ _ _
           refine vRegion ?_
           refine oVal tt rfl rfl rfl rfl rfl trivial ?_
           obtain ⟨hg23, h⟩ := grd_inv h
           refine oVal tt rfl rfl rfl rfl rfl hg23 ?_
           refine oVal tt rfl rfl rfl rfl rfl trivial ?_
           refine vNil ?_
           change ∃ _, _
           exact ⟨(l141, (i142 + (1 : Int))), (En.of ⟨rfl, rfl, rfl, rfl, rfl, trivial⟩ ⟨rfl, rfl, trivial⟩ trivial), h⟩
         ·replace h := cnd_f hb16 h
          iterate 8 refine oNoT rfl rfl rfl rfl hb16 rfl rfl ?_
          refine oPickF rfl rfl rfl rfl rfl hb16 rfl ?_
          refine vNil ?_
          change VC _ _ _ _
          refine vCondF rfl rfl ?_
          refine vSkip ?_
          change VC _ _ _ _
          refine vRegion ?_
          refine oVal tt rfl rfl rfl rfl rfl trivial ?_
          obtain ⟨hg24, h⟩ := grd_inv h
          refine oVal tt rfl rfl rfl rfl rfl hg24 ?_
          refine oVal tt rfl rfl rfl rfl rfl trivial ?_
          refine vNil ?_
          change ∃ _, _
          exact ⟨(l141, (i142 + (1 : Int))), (En.of ⟨rfl, rfl, rfl, rfl, rfl, trivial⟩ ⟨rfl, rfl, trivial⟩ trivial), h⟩
        ·replace h := cnd_f hb15 h
         refine vExit ?_
         change ∃ _, _
         exact ⟨l141, (En.of ⟨rfl, rfl, rfl, trivial⟩ ⟨rfl, rfl, trivial⟩ trivial), h⟩
     ·intro k h
      refine vBlock ?_
      refine vLoopS (α := Int) (fun (at146 : Int) => (⟨[(4, .row 25 0 l7.length), (6, .row 112 0 l113.length), (7, .int j114), (8, .int at146)], [(25, some (35, .intss l112)), (112, some (3, .ints l113))], []⟩ : PS)) (S_l9Reduced_l3 N l7 l112 j114 k) h (En.of ⟨rfl, rfl, rfl, rfl, trivial⟩ ⟨rfl, rfl, trivial⟩ trivial) (fun _ => rfl) ?_
      rintro n at146 h
      rw [S_l9Reduced_l3] at h
      show VC _ _ _ (⟨[(4, .row 25 0 l7.length), (6, .row 112 0 l113.length), (7, .int j114), (8, .int at146)], [(25, some (35, .intss l112)), (112, some (3, .ints l113))], []⟩ : PS)
      iterate 2 refine vSeq ?_
      refine vRegion ?_
      iterate 5 refine oVal tt rfl rfl rfl rfl rfl trivial ?_
      refine oSplit rfl rfl rfl (fun hb25 => ?_) (fun hb25 => ?_)
      ·replace h := cnd_t hb25 h
       iterate 2 refine oValG tt rfl rfl rfl rfl rfl hb25 rfl rfl rfl trivial ?_
       obtain ⟨hg26, h⟩ := grd_inv h
       refine oValG tt rfl rfl rfl rfl rfl hb25 rfl rfl rfl hg26 ?_
       obtain ⟨hg27, h⟩ := grd_inv h
       refine oValG tt rfl rfl rfl rfl rfl hb25 rfl rfl rfl hg27 ?_
       refine oValG tt rfl rfl rfl rfl rfl hb25 rfl rfl rfl trivial ?_
       obtain ⟨hg28, h⟩ := grd_inv h
       refine oValG tt rfl rfl rfl rfl rfl hb25 rfl rfl rfl hg28 ?_
       iterate 2 refine oValG tt rfl rfl rfl rfl rfl hb25 rfl rfl rfl trivial ?_
       refine oPick rfl rfl rfl rfl rfl hb25 rfl ?_
       refine vNil ?_
       change VC _ _ _ _
       refine vCond rfl (fun hb29 => ?_) (fun hb29 => ?_)
       ·replace h := cnd_t hb29 h
        refine vSkip ?_
        change VC _ _ _ _
        refine vBlock ?_
        refine vRegion ?_
        refine oVal tt rfl rfl rfl rfl rfl trivial ?_
        obtain ⟨hg30, h⟩ := grd_inv h
        refine oVal tt rfl rfl rfl rfl rfl hg30 ?_
        refine oVal tt rfl rfl rfl rfl rfl trivial ?_
        refine vNil ?_
        change ∃ _, _
        exact ⟨(at146 + (1 : Int)), (En.of ⟨rfl, rfl, rfl, rfl, trivial⟩ ⟨rfl, rfl, trivial⟩ trivial), h⟩
       ·replace h := cnd_f hb29 h
        refine vExit ?_
        change ∃ _, _
        exact ⟨at146, (En.of ⟨rfl, rfl, rfl, rfl, trivial⟩ ⟨rfl, rfl, trivial⟩ trivial), h⟩
      ·replace h := cnd_f hb25 h
       iterate 8 refine oNoT rfl rfl rfl rfl hb25 rfl rfl ?_
       refine oPickF rfl rfl rfl rfl rfl hb25 rfl ?_
       refine vNil ?_
       change VC _ _ _ _
       refine vCondF rfl rfl ?_
       refine vExit ?_
       change ∃ _, _
       exact ⟨at146, (En.of ⟨rfl, rfl, rfl, rfl, trivial⟩ ⟨rfl, rfl, trivial⟩ trivial), h⟩
    ·replace h := cnd_f hb5 h
     refine vExit ?_
     change ∃ _, _
     exact ⟨(l112, l113), (En.of ⟨rfl, rfl, trivial⟩ ⟨rfl, rfl, trivial⟩ trivial), h⟩
   ·replace h := cnd_f hb2 h
    iterate 6 refine oNoT rfl rfl rfl rfl hb2 rfl rfl ?_
    refine oPickF rfl rfl rfl rfl rfl hb2 rfl ?_
    refine vNil ?_
    change VC _ _ _ _
    refine vCondF rfl rfl ?_
    refine vExit ?_
    change ∃ _, _
    exact ⟨(l112, l113), (En.of ⟨rfl, rfl, trivial⟩ ⟨rfl, rfl, trivial⟩ trivial), h⟩
 ·intro k h
  refine vBlock ?_
  refine vNilT 4 25 35 (.intss []) rfl rfl rfl rfl ?_
  refine vLoopS (α := (List (List Int)) × Int) (fun | (l150, i151) => (⟨[(0, .ro false (.intss m_0)), (4, .row 25 0 l150.length), (5, .int i151)], [(25, some (35, .intss l150))], []⟩ : PS)) (S_l9Reduced_l4 N m_0 k) h (En.of ⟨rfl, rfl, rfl, trivial⟩ ⟨rfl, trivial⟩ trivial) (fun _ => rfl) ?_
  rintro n ⟨l150, i151⟩ h
  rw [S_l9Reduced_l4] at h
  show VC _ _ _ (⟨[(0, .ro false (.intss m_0)), (4, .row 25 0 l150.length), (5, .int i151)], [(25, some (35, .intss l150))], []⟩ : PS)
  iterate 2 refine vSeq ?_
  refine vRegion ?_
  iterate 4 refine oVal tt rfl rfl rfl rfl rfl trivial ?_
  refine vNil ?_
  change VC _ _ _ _
  refine vCond rfl (fun hb31 => ?_) (fun hb31 => ?_)
  ·replace h := cnd_t hb31 h
   refine vSkip ?_
   change VC _ _ _ _
   refine vSeq ?_
   refine vBlock ?_
   refine vRegion ?_
   iterate 3 refine oVal tt rfl rfl rfl rfl rfl trivial ?_
   obtain ⟨hg32, h⟩ := grd_inv h
   refine oVal tt rfl rfl rfl rfl rfl hg32 ?_
   refine oVal tt rfl rfl rfl rfl rfl trivial ?_
   obtain ⟨v153, hc33, h⟩ := bind_inv h
   refine oCall (S_l9Clean_w N (m_0.getD ((i151).toNat) []) v153 hc33) rfl rfl rfl rfl rfl rfl rfl rfl ⟨rfl, trivial⟩ ?_
   refine oFreeze (t := 23) rfl rfl rfl rfl ?_
   refine oBuild tt rfl rfl rfl rfl rfl rfl rfl rfl rfl rfl rfl ?_
   obtain ⟨hg34, h⟩ := grd_inv h
   refine oAppend tt rfl rfl rfl rfl rfl rfl rfl rfl rfl rfl rfl rfl rfl rfl rfl rfl (Nat.le_of_eq (Nat.zero_add _)) hg34 ?_
   refine oVal tt rfl rfl rfl rfl rfl trivial ?_
   refine vNil ?_
   change VC _ _ _ _
   refine vRegion ?_
   refine oVal tt rfl rfl rfl rfl rfl trivial ?_
   obtain ⟨hg35, h⟩ := grd_inv h
   refine oVal tt rfl rfl rfl rfl rfl hg35 ?_
   refine oVal tt rfl rfl rfl rfl rfl trivial ?_
   refine vNil ?_
   change ∃ _, _
   exact ⟨((l150 ++ ([v153] : List (List Int))), (i151 + (1 : Int))), (En.of ⟨rfl, rfl, rfl, trivial⟩ ⟨rfl, trivial⟩ trivial), h⟩
  ·replace h := cnd_f hb31 h
   refine vExit ?_
   change ∃ _, _
   exact ⟨l150, (En.of ⟨rfl, trivial⟩ ⟨rfl, trivial⟩ trivial), h⟩
def S_LinkageFreedom_l2 (N : Nat) (v2 : List (List Int)) (v3 : List Int) (i46 : Int) (k : (List Int) → Option (Int)) : Nat → ((List Int) × Int) → Option (Int)
 | 0, _ => none
 | n + 1, (l57, k58) =>
  cnd (decide (k58 < (v3.length : Int))) (
   grd (0 ≤ i46 ∧ i46 < (v2.length : Int)) <|
   grd (0 ≤ k58 ∧ k58 < (v3.length : Int)) <|
   grd (Rg64 ((2 : Int) * (v3.getD ((k58).toNat) 0))) <|
   grd (0 ≤ ((2 : Int) * (v3.getD ((k58).toNat) 0)) ∧ ((2 : Int) * (v3.getD ((k58).toNat) 0)) < ((v2.getD ((i46).toNat) []).length : Int)) <|
   grd (Rg64 (((2 : Int) * (v3.getD ((k58).toNat) 0)) + (1 : Int))) <|
   grd (0 ≤ (((2 : Int) * (v3.getD ((k58).toNat) 0)) + (1 : Int)) ∧ (((2 : Int) * (v3.getD ((k58).toNat) 0)) + (1 : Int)) < ((v2.getD ((i46).toNat) []).length : Int)) <|
   grd (l57.length + 2 ≤ 4294967296) <|
   grd (Rg64 (k58 + (1 : Int))) <|
   S_LinkageFreedom_l2 N v2 v3 i46 k n ((l57 ++ ([((v2.getD ((i46).toNat) []).getD ((((2 : Int) * (v3.getD ((k58).toNat) 0))).toNat) 0), ((v2.getD ((i46).toNat) []).getD (((((2 : Int) * (v3.getD ((k58).toNat) 0)) + (1 : Int))).toNat) 0)] : List Int)), (k58 + (1 : Int)))) (
   k l57)
def S_LinkageFreedom_l1 (N : Nat) (v2 : List (List Int)) (v3 : List Int) (k : (List (List Int)) → Option (Int)) : Nat → ((List (List Int)) × Int) → Option (Int)
 | 0, _ => none
 | n + 1, (l45, i46) =>
  cnd (decide (i46 < (v2.length : Int))) (
   S_LinkageFreedom_l2 N v2 v3 i46 (fun (l55 : List Int) =>
      grd (l45.length + 1 ≤ 4294967296) <|
      grd (Rg64 (i46 + (1 : Int))) <|
      S_LinkageFreedom_l1 N v2 v3 k n ((l45 ++ ([l55] : List (List Int))), (i46 + (1 : Int)))) N (([] : List Int), (0 : Int))) (
   k l45)
def S_LinkageFreedom (N : Nat) (l_0 : Lnk) : Option (Int) :=
 (S_IsLinkage N l_0).bind fun v1 =>
 cnd (!v1) (
  some (-1 : Int)) (
  (S_RigidityMatrix N l_0.f).bind fun v2 =>
  (S_FreeJoints N l_0).bind fun v3 =>
  S_LinkageFreedom_l1 N v2 v3 (fun (l30 : List (List Int)) =>
     (S_l9Reduced N l30).bind fun v31 =>
     grd (Rg64 ((2 : Int) * (v3.length : Int))) <|
     grd (Rg64 (((2 : Int) * (v3.length : Int)) - (v31.2.length : Int))) <|
     some (((2 : Int) * (v3.length : Int)) - (v31.2.length : Int))) N (([] : List (List Int)), (0 : Int)))
set_option maxRecDepth 20000 in
set_option maxHeartbeats 1600000 in
theorem S_LinkageFreedom_w (N : Nat) (l_0 : Lnk) (r : Int) (h : S_LinkageFreedom N l_0 = some r) : PCall Try.prog 13 [lD l_0] [] (.int r) := by
 unfold S_LinkageFreedom at h
 refine pcall_intro (TT := TT) tt Try.func13 rfl rfl Try.ntmps13 (congrArg Array.toList Try.results13) rfl rfl fun w0 => ?_
 refine vSeq ?_
 refine vRegion ?_
 refine oBox rfl rfl rfl rfl rfl rfl rfl rfl rfl ?_
 refine oVal tt rfl rfl rfl rfl rfl trivial ?_
 refine vNil ?_
 change VC _ _ _ _
 iterate 2 refine vSeq ?_
 refine vRegion ?_
 refine oVal tt rfl rfl rfl rfl rfl trivial ?_
 obtain ⟨v1, hc1, h⟩ := bind_inv h
 refine oCall (S_IsLinkage_w N l_0 v1 hc1) rfl rfl rfl rfl rfl rfl rfl rfl ⟨⟨rfl, rfl, rfl, rfl, trivial⟩, trivial⟩ ?_
 refine oVal tt rfl rfl rfl rfl rfl trivial ?_
 refine vNil ?_
 change VC _ _ _ _
 refine vCond rfl (fun hb2 => ?_) (fun hb2 => ?_)
 ·replace h := cnd_t hb2 h
  refine vSeq ?_
  refine vRegion ?_
  refine oVal tt rfl rfl rfl rfl rfl trivial ?_
  refine vNil ?_
  change VC _ _ _ _
  refine vRet ?_
  change ∃ _, _
  cases h
  exact ⟨[], _, rfl, trivial, rfl, (.eq rfl), rfl⟩
 ·replace h := cnd_f hb2 h
  refine vSkip ?_
  change VC _ _ _ _
  refine vSeq ?_
  refine vRegion ?_
  refine oEmpty tt (wNone rfl) rfl rfl rfl rfl ?_
  refine oVal tt rfl rfl rfl rfl rfl trivial ?_
  refine vNil ?_
  change VC _ _ _ _
  refine vSeq ?_
  refine vRegion ?_
  iterate 2 refine oVal tt rfl rfl rfl rfl rfl trivial ?_
  obtain ⟨v2, hc3, h⟩ := bind_inv h
  refine oCall (S_RigidityMatrix_w N l_0.f v2 hc3) rfl rfl rfl rfl rfl rfl rfl rfl ⟨⟨rfl, rfl, rfl, trivial⟩, trivial⟩ ?_
  refine oVal tt rfl rfl rfl rfl rfl trivial ?_
  refine vNil ?_
  change VC _ _ _ _
  refine vSeq ?_
  refine vRegion ?_
  refine oVal tt rfl rfl rfl rfl rfl trivial ?_
  obtain ⟨v3, hc4, h⟩ := bind_inv h
  refine oCall (S_FreeJoints_w N l_0 v3 hc4) rfl rfl rfl rfl rfl rfl rfl rfl ⟨⟨rfl, rfl, rfl, rfl, trivial⟩, trivial⟩ ?_
  refine oVal tt rfl rfl rfl rfl rfl trivial ?_
  refine vNil ?_
  change VC _ _ _ _
  iterate 2 refine vSeq ?_
  refine vRegion ?_
  refine oVal tt rfl rfl rfl rfl rfl trivial ?_
  refine vNil ?_
  change VC _ _ _ _
  refine vJoin (F := fun k => S_LinkageFreedom_l1 N v2 v3 k) h (α := List (List Int)) (J := fun (l30 : List (List Int)) => (⟨[(3, .row 62 0 l30.length), (5, .row 1190 0 v3.length)], [(62, some (35, .intss l30)), (1190, some (3, .ints v3))], []⟩ : PS)) ?_ ?_
  ·rintro l30 h
   show VC _ _ _ (⟨[(3, .row 62 0 l30.length), (5, .row 1190 0 v3.length)], [(62, some (35, .intss l30)), (1190, some (3, .ints v3))], []⟩ : PS)
   refine vSeq ?_
   refine vRegion ?_
   refine oVal tt rfl rfl rfl rfl rfl trivial ?_
   obtain ⟨v31, hc5, h⟩ := bind_inv h
   refine oCall (S_l9Reduced_w N l30 v31 hc5) rfl rfl rfl rfl rfl rfl rfl rfl ⟨(.inl ⟨rfl, rfl⟩), trivial⟩ ?_
   iterate 5 refine oVal tt rfl rfl rfl rfl rfl trivial ?_
   refine vNil ?_
   change VC _ _ _ _
   refine vSeq ?_
   refine vRegion ?_
   iterate 2 refine oVal tt rfl rfl rfl rfl rfl trivial ?_
   obtain ⟨hg6, h⟩ := grd_inv h
   refine oVal tt rfl rfl rfl rfl rfl hg6 ?_
   iterate 2 refine oVal tt rfl rfl rfl rfl rfl trivial ?_
   obtain ⟨hg7, h⟩ := grd_inv h
   refine oVal tt rfl rfl rfl rfl rfl hg7 ?_
   refine oVal tt rfl rfl rfl rfl rfl trivial ?_
   refine vNil ?_
   change VC _ _ _ _
   refine vRet ?_
   change ∃ _, _
   cases h
   exact ⟨[], _, rfl, trivial, rfl, (.eq rfl), rfl⟩
  ·intro k h
   refine vBlock ?_
   refine vNilT 3 62 35 (.intss []) rfl rfl rfl rfl ?_
   refine vLoopS (α := (List (List Int)) × Int) (fun | (l45, i46) => (⟨[(3, .row 62 0 l45.length), (4, .row 1170 0 v2.length), (5, .row 1190 0 v3.length), (6, .int i46)], [(62, some (35, .intss l45)), (1170, some (35, .intss v2)), (1190, some (3, .ints v3))], []⟩ : PS)) (S_LinkageFreedom_l1 N v2 v3 k) h (En.of ⟨rfl, rfl, rfl, rfl, trivial⟩ ⟨rfl, rfl, rfl, trivial⟩ trivial) (fun _ => rfl) ?_
   rintro n ⟨l45, i46⟩ h
   rw [S_LinkageFreedom_l1] at h
   show VC _ _ _ (⟨[(3, .row 62 0 l45.length), (4, .row 1170 0 v2.length), (5, .row 1190 0 v3.length), (6, .int i46)], [(62, some (35, .intss l45)), (1170, some (35, .intss v2)), (1190, some (3, .ints v3))], []⟩ : PS)
   iterate 2 refine vSeq ?_
   refine vRegion ?_
   iterate 4 refine oVal tt rfl rfl rfl rfl rfl trivial ?_
   refine vNil ?_
   change VC _ _ _ _
   refine vCond rfl (fun hb8 => ?_) (fun hb8 => ?_)
   ·replace h := cnd_t hb8 h
    refine vSkip ?_
    change VC _ _ _ _
    refine vSeq ?_
    refine vBlock ?_
    refine vSeq ?_
    refine vRegion ?_
    refine oEmpty tt (wNone rfl) rfl rfl rfl rfl ?_
    refine oVal tt rfl rfl rfl rfl rfl trivial ?_
    refine vNil ?_
    change VC _ _ _ _
    iterate 2 refine vSeq ?_
    refine vRegion ?_
    refine oVal tt rfl rfl rfl rfl rfl trivial ?_
    refine vNil ?_
    change VC _ _ _ _
    refine vJoin (F := fun k => S_LinkageFreedom_l2 N v2 v3 i46 k) h (α := List Int) (J := fun (l55 : List Int) => (⟨[(3, .row 62 0 l45.length), (4, .row 1170 0 v2.length), (5, .row 1190 0 v3.length), (6, .int i46), (7, .row 58 0 l55.length)], [(62, some (35, .intss l45)), (1170, some (35, .intss v2)), (1190, some (3, .ints v3)), (58, some (3, .ints l55))], []⟩ : PS)) ?_ ?_
    ·rintro l55 h
     show VC _ _ _ (⟨[(3, .row 62 0 l45.length), (4, .row 1170 0 v2.length), (5, .row 1190 0 v3.length), (6, .int i46), (7, .row 58 0 l55.length)], [(62, some (35, .intss l45)), (1170, some (35, .intss v2)), (1190, some (3, .ints v3)), (58, some (3, .ints l55))], []⟩ : PS)
     refine vRegion ?_
     iterate 2 refine oVal tt rfl rfl rfl rfl rfl trivial ?_
     refine oFreeze (t := 60) rfl rfl rfl rfl ?_
     refine oBuild tt rfl rfl rfl rfl rfl rfl rfl rfl rfl rfl rfl ?_
     obtain ⟨hg9, h⟩ := grd_inv h
     refine oAppend tt rfl rfl rfl rfl rfl rfl rfl rfl rfl rfl rfl rfl rfl rfl rfl rfl (Nat.le_of_eq (Nat.zero_add _)) hg9 ?_
     refine oVal tt rfl rfl rfl rfl rfl trivial ?_
     refine vNil ?_
     change VC _ _ _ _
     refine vRegion ?_
     refine oVal tt rfl rfl rfl rfl rfl trivial ?_
     obtain ⟨hg10, h⟩ := grd_inv h
     refine oVal tt rfl rfl rfl rfl rfl hg10 ?_
     refine oVal tt rfl rfl rfl rfl rfl trivial ?_
     refine vNil ?_
     change ∃ _, _
     exact ⟨((l45 ++ ([l55] : List (List Int))), (i46 + (1 : Int))), (En.of ⟨rfl, rfl, rfl, rfl, trivial⟩ ⟨rfl, rfl, rfl, trivial⟩ trivial), h⟩
    ·intro k h
     refine vBlock ?_
     refine vNilT 7 58 3 (.ints []) rfl rfl rfl rfl ?_
     refine vLoopS (α := (List Int) × Int) (fun | (l57, k58) => (⟨[(3, .row 62 0 l45.length), (4, .row 1170 0 v2.length), (5, .row 1190 0 v3.length), (6, .int i46), (7, .row 58 0 l57.length), (8, .int k58)], [(62, some (35, .intss l45)), (1170, some (35, .intss v2)), (1190, some (3, .ints v3)), (58, some (3, .ints l57))], []⟩ : PS)) (S_LinkageFreedom_l2 N v2 v3 i46 k) h (En.of ⟨rfl, rfl, rfl, rfl, rfl, rfl, trivial⟩ ⟨rfl, rfl, rfl, rfl, trivial⟩ trivial) (fun _ => rfl) ?_
     rintro n ⟨l57, k58⟩ h
     rw [S_LinkageFreedom_l2] at h
     show VC _ _ _ (⟨[(3, .row 62 0 l45.length), (4, .row 1170 0 v2.length), (5, .row 1190 0 v3.length), (6, .int i46), (7, .row 58 0 l57.length), (8, .int k58)], [(62, some (35, .intss l45)), (1170, some (35, .intss v2)), (1190, some (3, .ints v3)), (58, some (3, .ints l57))], []⟩ : PS)
     iterate 2 refine vSeq ?_
     refine vRegion ?_
     iterate 4 refine oVal tt rfl rfl rfl rfl rfl trivial ?_
     refine vNil ?_
     change VC _ _ _ _
     refine vCond rfl (fun hb11 => ?_) (fun hb11 => ?_)
     ·replace h := cnd_t hb11 h
      refine vSkip ?_
      change VC _ _ _ _
      refine vSeq ?_
      refine vBlock ?_
      refine vRegionN 25 [24] [0, 0, 0, 6, 14, 0, 0, 96, 224, 480, 1022, 2046, 0, 0, 12288, 28672, 0, 0, 196608, 458752, 983040, 2031616, 4190208, 8384512, 16777214, 33554431, 67108863] (by kernel_rfl) (by kernel_rfl) (by kernel_rfl) (by kernel_rfl) (by kernel_rfl) rfl (by rfl) ?_
      iterate 3 refine nVal tt rfl (wNone rfl) rfl rfl rfl rfl rfl trivial ?_
      obtain ⟨hg12, h⟩ := grd_inv h
      iterate 2 refine nVal tt rfl (wNone rfl) rfl rfl rfl rfl rfl hg12 ?_
      iterate 2 refine nVal tt rfl (wNone rfl) rfl rfl rfl rfl rfl trivial ?_
      obtain ⟨hg13, h⟩ := grd_inv h
      iterate 2 refine nVal tt rfl (wNone rfl) rfl rfl rfl rfl rfl hg13 ?_
      obtain ⟨hg14, h⟩ := grd_inv h
      refine nVal tt rfl (wNone rfl) rfl rfl rfl rfl rfl hg14 ?_
      obtain ⟨hg15, h⟩ := grd_inv h
      refine nVal tt rfl (wNone rfl) rfl rfl rfl rfl rfl hg15 ?_
      iterate 3 refine nVal tt rfl (wNone rfl) rfl rfl rfl rfl rfl trivial ?_
      iterate 2 refine nVal tt rfl (wNone rfl) rfl rfl rfl rfl rfl hg12 ?_
      iterate 2 refine nVal tt rfl (wNone rfl) rfl rfl rfl rfl rfl trivial ?_
      iterate 2 refine nVal tt rfl (wNone rfl) rfl rfl rfl rfl rfl hg13 ?_
      refine nVal tt rfl (wNone rfl) rfl rfl rfl rfl rfl hg14 ?_
      obtain ⟨hg16, h⟩ := grd_inv h
      refine nVal tt rfl (wNone rfl) rfl rfl rfl rfl rfl hg16 ?_
      obtain ⟨hg17, h⟩ := grd_inv h
      refine nVal tt rfl (wNone rfl) rfl rfl rfl rfl rfl hg17 ?_
      refine nVal tt rfl (wNone rfl) rfl rfl rfl rfl rfl trivial ?_
      refine nBuild tt (wNone rfl) rfl rfl rfl rfl rfl rfl rfl rfl rfl rfl rfl rfl ?_
      refine nNil ?_
      change VO _ _ _ _ _
      obtain ⟨hg18, h⟩ := grd_inv h
      refine oAppend tt rfl rfl rfl rfl rfl rfl rfl rfl rfl rfl rfl rfl rfl rfl rfl rfl (Nat.le_of_eq (Nat.zero_add _)) hg18 ?_
      refine oVal tt rfl rfl rfl rfl rfl trivial ?_
      refine vNil ?_
      change VC _ _ _ _
      refine vRegion ?_
      refine oVal tt rfl rfl rfl rfl rfl trivial ?_
      obtain ⟨hg19, h⟩ := grd_inv h
      refine oVal tt rfl rfl rfl rfl rfl hg19 ?_
      refine oVal tt rfl rfl rfl rfl rfl trivial ?_
      refine vNil ?_
      change ∃ _, _
      exact ⟨((l57 ++ ([((v2.getD ((i46).toNat) []).getD ((((2 : Int) * (v3.getD ((k58).toNat) 0))).toNat) 0), ((v2.getD ((i46).toNat) []).getD (((((2 : Int) * (v3.getD ((k58).toNat) 0)) + (1 : Int))).toNat) 0)] : List Int)), (k58 + (1 : Int))), (En.of ⟨rfl, rfl, rfl, rfl, rfl, rfl, trivial⟩ ⟨rfl, rfl, rfl, rfl, trivial⟩ trivial), h⟩
     ·replace h := cnd_f hb11 h
      refine vExit ?_
      change ∃ _, _
      exact ⟨l57, (En.of ⟨rfl, rfl, rfl, rfl, rfl, trivial⟩ ⟨rfl, rfl, rfl, rfl, trivial⟩ trivial), h⟩
   ·replace h := cnd_f hb8 h
    refine vExit ?_
    change ∃ _, _
    exact ⟨l45, (En.of ⟨rfl, rfl, trivial⟩ ⟨rfl, rfl, trivial⟩ trivial), h⟩
def I_copyLists_l1 (N : Nat) (l_0 : List (List Int)) (k : (List (List Int)) → Option (List (List Int))) : Nat → ((List (List Int)) × Int) → Option (List (List Int))
 | 0, _ => none
 | n + 1, (l11, x12) =>
  cnd (decide (x12 < (l_0.length : Int))) (
   grd (0 ≤ x12 ∧ x12 < (l_0.length : Int)) <|
   (I_copyInts N (l_0.getD ((x12).toNat) [])).bind fun v14 =>
   grd (l11.length + 1 ≤ 4294967296) <|
   grd (Rg64 (x12 + (1 : Int))) <|
   I_copyLists_l1 N l_0 k n ((l11 ++ [v14]), (x12 + (1 : Int)))) (
   k l11)
def I_copyLists (N : Nat) (l_0 : List (List Int)) : Option (List (List Int)) :=
 I_copyLists_l1 N l_0 (fun (l7 : List (List Int)) =>
    some l7) N (([] : List (List Int)), (0 : Int))
set_option maxRecDepth 20000 in
set_option maxHeartbeats 1600000 in
theorem I_copyLists_w (N : Nat) (l_0 : List (List Int)) (r : List (List Int)) (h : I_copyLists N l_0 = some r) : PCallD Try.prog 108 [.ro false (.intss l_0)] 35 3 (.intss r) (.row 0 0 r.length) := by
 unfold I_copyLists at h
 refine pcallD_intro (TT := TT) tt Try.func108 rfl rfl Try.ntmps108 (congrArg Array.toList Try.results108) rfl rfl rfl fun w0 => ?_
 refine vSeq ?_
 refine vRegion ?_
 refine oVal tt rfl rfl rfl rfl rfl trivial ?_
 refine vNil ?_
 change VC _ _ _ _
 refine vSeq ?_
 refine vRegion ?_
 refine oEmpty tt (wNone rfl) rfl rfl rfl rfl ?_
 refine oVal tt rfl rfl rfl rfl rfl trivial ?_
 refine vNil ?_
 change VC _ _ _ _
 iterate 2 refine vSeq ?_
 refine vRegion ?_
 iterate 3 refine oVal tt rfl rfl rfl rfl rfl trivial ?_
 refine vNil ?_
 change VC _ _ _ _
 refine vJoin (F := fun k => I_copyLists_l1 N l_0 k) h (α := List (List Int)) (J := fun (l7 : List (List Int)) => (⟨[(3, .row 9506 0 l7.length)], [(9506, some (35, dR 10 (.intss l7))), (8589934602, some (3, dF (.intss l7)))], []⟩ : PS)) ?_ ?_
 ·rintro l7 h
  show VC _ _ _ (⟨[(3, .row 9506 0 l7.length)], [(9506, some (35, dR 10 (.intss l7))), (8589934602, some (3, dF (.intss l7)))], []⟩ : PS)
  refine vSeq ?_
  refine vRegion ?_
  iterate 2 refine oVal tt rfl rfl rfl rfl rfl trivial ?_
  refine vNil ?_
  change VC _ _ _ _
  refine vRet ?_
  change ∃ _, _
  cases h
  exact ⟨9506, 10, _, rfl, rfl, rfl, rfl, rfl, (.eq rfl), rfl⟩
 ·intro k h
  refine vBlock ?_
  refine vNilT 3 9508 35 (.intss []) rfl rfl rfl rfl ?_
  refine vEn (En.newFam 10 3 (.ints []) rfl rfl rfl rfl (fun _ h => by cases h) rfl) ?_
  refine vEn (En.asRefs 9508 10 (q := .intss []) (qR := dR 10 (.intss [])) rfl rfl rfl rfl) ?_
  refine vLoopS (α := (List (List Int)) × Int) (fun | (l11, x12) => (⟨[(3, .row 9508 0 l11.length), (7, .ro false (.intss l_0)), (8, .int (l_0.length : Int)), (9, .int x12)], [(9508, some (35, dR 10 (.intss l11))), (8589934602, some (3, dF (.intss l11)))], []⟩ : PS)) (I_copyLists_l1 N l_0 k) h (En.of ⟨rfl, rfl, rfl, rfl, trivial⟩ ⟨rfl, rfl, trivial⟩ trivial) (fun _ => rfl) ?_
  rintro n ⟨l11, x12⟩ h
  rw [I_copyLists_l1] at h
  show VC _ _ _ (⟨[(3, .row 9508 0 l11.length), (7, .ro false (.intss l_0)), (8, .int (l_0.length : Int)), (9, .int x12)], [(9508, some (35, dR 10 (.intss l11))), (8589934602, some (3, dF (.intss l11)))], []⟩ : PS)
  refine vSeq ?_
  refine vRegion ?_
  refine oVal tt rfl rfl rfl rfl rfl trivial ?_
  refine vNil ?_
  change VC _ _ _ _
  refine vSeq ?_
  refine vCond rfl (fun hb1 => ?_) (fun hb1 => ?_)
  ·replace h := cnd_t hb1 h
   refine vSkip ?_
   change VC _ _ _ _
   refine vSeq ?_
   refine vBlock ?_
   refine vSeq ?_
   refine vRegion ?_
   obtain ⟨hg2, h⟩ := grd_inv h
   refine oVal tt rfl rfl rfl rfl rfl hg2 ?_
   iterate 2 refine oVal tt rfl rfl rfl rfl rfl trivial ?_
   refine vNil ?_
   change VC _ _ _ _
   refine vRegion ?_
   iterate 2 refine oVal tt rfl rfl rfl rfl rfl trivial ?_
   obtain ⟨v14, hc3, h⟩ := bind_inv h
   refine oCall (I_copyInts_w N (l_0.getD ((x12).toNat) []) v14 hc3) rfl rfl rfl rfl rfl rfl rfl rfl ⟨rfl, trivial⟩ ?_
   refine vEnO (En.adopt 15 1150 9508 10 (q := (.intss l11)) rfl rfl rfl rfl rfl rfl (by simp [Sq.len, Fq.len, famOf, Fq.hole]) (pushI _ _) rfl (d' := .irow 10 l11.length v14.length) (by simp [Fq.len]) rfl) ?_
   refine oBuildI tt rfl rfl rfl rfl rfl rfl rfl rfl rfl rfl ?_
   obtain ⟨hg4, h⟩ := grd_inv h
   refine oAppendD (.intss (l11 ++ [v14])) tt (q := (.intss l11)) rfl rfl rfl rfl rfl rfl rfl rfl (Nat.le_of_eq (Nat.zero_add _)) rfl rfl rfl rfl rfl rfl rfl (appI 10 l11 v14) hg4 ?_
   refine oVal tt rfl rfl rfl rfl rfl trivial ?_
   refine vNil ?_
   change VC _ _ _ _
   refine vRegion ?_
   obtain ⟨hg5, h⟩ := grd_inv h
   refine oVal tt rfl rfl rfl rfl rfl hg5 ?_
   refine oVal tt rfl rfl rfl rfl rfl trivial ?_
   refine vNil ?_
   change ∃ _, _
   exact ⟨((l11 ++ [v14]), (x12 + (1 : Int))), (En.of ⟨rfl, rfl, rfl, rfl, trivial⟩ ⟨rfl, rfl, trivial⟩ trivial), h⟩
  ·replace h := cnd_f hb1 h
   refine vExit ?_
   change ∃ _, _
   exact ⟨l11, (En.ren [9506] [9508] rfl ⟨.inr rfl, trivial⟩ ⟨.inr rfl, .inr rfl, trivial⟩ trivial), h⟩
end Go.Proofs.Ytkklfgcelmeccaa
namespace Go.Proofs.Ytkklfgcelmeccaa
open Go.RowKit Go.Deep
section
variable {C : Cx} {o : Oper} {s : PS}
end
end Go.Proofs.Ytkklfgcelmeccaa
namespace Go.Proofs.Ytkklfgcelmeccaa
open Go.RowKit Go.Deep
section
variable {C : Cx} {ops : Array Oper} {K : PS → Prop} {o : Oper} {rest : List Oper} {s : PS} {TT : List (Nat × Ty)} {tm : List (Nat × D)} {rw' : List (Nat × Option (TypeId × Sq))} {bx : List (Nat × Option (List D))} {cr B : List Nat} {j : Nat}
def updR (i off : Nat) : Sq → Nat → List D → Option Sq
 | q, _, [] => some q
 | q, k, d :: l => match d.one with | true => (match q.set i (off + k) d with | some q' => updR i off q' (k + 1) l | none => none) | false => none
theorem updR_ok {r off : Nat} {i : Int} {e : TypeId} (hF : notF r = true) : ∀ {l : List D} {q q' : Sq} {k : Nat} {s : PS}, s.r r = some (e, q) → 0 ≤ i ∧ i < q.len → updR i.toNat off q k l = some q' → ∃ (ob : Prop) (s' : PS), ob ∧ wrL s (.eptr r i off) k l = some (ob, s') ∧ (∀ x, s'.t x = s.t x) ∧ (∀ x, s'.r x = if r = x then some (e, q') else s.r x) ∧ ∀ b, s'.b b = s.b b
 | [], q, q', k, s, hr, hi, h => by
  simp only [updR, Option.some.injEq] at h
  subst h
  refine ⟨True, s, trivial, rfl, fun _ => rfl, fun x => ?_, fun _ => rfl⟩
  split
  ·rename_i he; subst he; exact hr
  ·rfl
 | d :: l, q, q', k, s, hr, hi, h => by
  simp only [updR] at h
  split at h
  ·rename_i h1
   split at h
   ·rename_i q1 h2
    have hl := (Sq.set_ok h2).1
    obtain ⟨ob, s', g1, g2, g3, g4, g5⟩ := updR_ok hF (s := s.setR r (some (e, q1))) (i := i) (by rw [PS.r_setR _ _ _ _ hF, if_pos rfl]) (by rw [hl]; exact hi) h
    refine ⟨(0 ≤ i ∧ i < q.len) ∧ ob, s', ⟨hi, g1⟩, ?_, g3, fun x => ?_, g5⟩
    ·simp only [wrL, wr, h1, hF, hr, h2, g2]
    ·rw [g4 x, PS.r_setR _ _ _ _ hF]
     split <;> rfl
   ·cases h
  ·cases h
theorem PS.ap_eq0 (s : PS) (d : D) (rows : List (Nat × Option (TypeId × Sq))) (boxes : List (Nat × Option (List D))) (h : rowsN rows = rows) : s.ap none ⟨d, rows, boxes⟩ = ⟨s.tmp, rows ++ s.row, boxes ++ s.box⟩ := by
 unfold PS.ap Ef.rn
 rw [show (Ef.mk d rows boxes).rows = rows from rfl, h]
theorem nStoreR (hT : TTOK C.P TT) (hw : Wanted C ops o ⟨tm, rw', bx⟩) {t e : TypeId} {p x : Operand} {y : Ty} {r off : Nat} {i : Int} {d : D} {q q1 q' : Sq} (hop : o.op = .store t p x) (hd : o.dst = none) (hy : look TT t = some y) (hp : (PS.ev ⟨tm, rw', bx⟩ p) = .eptr r i off) (hx : (fcD (PS.ev ⟨tm, rw', bx⟩ x) some) = some d) (hfl : d.flat = true) (hsz : Nat.beq d.cells.length (tySize y) = true)
  (hr : (PS.r ⟨tm, rw', bx⟩ r) = some (e, q)) (hu : updR i.toNat off q 0 d.cells = some q1) (hq : fcQ q1 some = some q') (hvis : visB ops cr B j ⟨tm, rw', bx⟩ [p] = true) (hck : chkE ops cr B j ⟨.tup [], [(r, some (e, q'))], []⟩ = true) (hF : notF r = true) (hi : 0 ≤ i ∧ i < q.len)
  (h : QN C ops cr B K (j + 1) rest ⟨tm, (r, some (e, q')) :: rw', bx⟩) : QN C ops cr B K j (o :: rest) ⟨tm, rw', bx⟩ := by
 rw [fcD_eq] at hx
 rw [fcQ_eq] at hq
 cases hx
 cases hq
 refine nStep (e := ⟨.tup [], [(r, some (e, _))], []⟩) hw hck (fun s1 hag => ?_) (by rw [hd, PS.ap_eq0 _ _ _ _ (rowsN_one hF)]; exact h)
 have e1 := hag.ev p (by rw [hop]; simp [Op.operands])
 have e2 := hag.ev x (by rw [hop]; simp [Op.operands])
 have s1p := hag.same hvis p (by simp)
 rw [hp] at s1p
 have hr1 : s1.r r = some (e, q) := by rw [s1p.eptr]; exact hr
 obtain ⟨ob, s', g1, g2, g3, g4, g5⟩ := updR_ok hF (s := s1) (off := off) hr1 hi hu
 refine Step.same (sStore hT hop hd hy (e1.trans hp) e2 hfl hsz g2 ⟨e, q, hr1, hi.1, hi.2⟩ g1 ⟨_, rfl, fun x => ?_, fun r' => ?_, fun c => ?_⟩)
 ·rw [PS.t_ap, hd]; exact (g3 x).symm
 ·rw [hd, PS.ap_eq0 _ _ _ _ (rowsN_one hF), g4]
  exact PS.r_setR s1 r (some (e, q1)) r' hF
 ·rw [PS.b_ap, g5]; rfl
end
end Go.Proofs.Ytkklfgcelmeccaa
namespace Go.Proofs.Ytkklfgcelmeccaa
open Go.RowKit Go.Deep
section
variable {C : Cx} {ops : Array Oper} {Q : Exit → PS → Prop} {s : PS} {fuel : Nat} {listed : Array Bool}
end
section
variable {C : Cx} {tm : List (Nat × D)} {rw' : List (Nat × Option (TypeId × Sq))} {bx : List (Nat × Option (List D))} {s' : PS}
end
end Go.Proofs.Ytkklfgcelmeccaa
namespace Go.Proofs.Ytkklfgcelmeccaa
open Go.RowKit Go.Deep
section
variable {C : Cx} {ops : Array Oper} {K : PS → Prop} {o : Oper} {rest : List Oper} {s s' : PS} {TT : List (Nat × Ty)} {tm : List (Nat × D)} {rw' : List (Nat × Option (TypeId × Sq))} {bx : List (Nat × Option (List D))} {cr B : List Nat} {j : Nat}
theorem swI (F : Nat) (X : List (List Int)) {i k : Nat} (hi : i < X.length) (hk : k < X.length) : ReOK F (.irefs F (((idn X).set i (k, (X.getD k []).length)).set k (i, (X.getD i []).length))) (.ints (X.map some)) (.intss ((X.set i (X.getD k [])).set k (X.getD i []))) := by
 have hraw : ∀ p, (((idn X).set i (k, (X.getD k []).length)).set k (i, (X.getD i []).length)).getD p (NIL, 0) = if p = k then (i, (X.getD i []).length) else if p = i then (k, (X.getD k []).length) else (idn X).getD p (NIL, 0) := fun p => by
  rw [getD_set_eq _ _ _ _ _ (by rw [List.length_set, idn_len]; exact hk), getD_set_eq _ _ _ _ _ (by rw [idn_len]; exact hi)]
 have hX : ∀ p, ((X.set i (X.getD k [])).set k (X.getD i [])).getD p [] = X.getD (if p = k then i else if p = i then k else p) [] := fun p => by
  rw [getD_set_eq _ _ _ _ _ (by rw [List.length_set]; exact hk), getD_set_eq _ _ _ _ _ hi]
  split
  ·rfl
  ·split <;> rfl
 have hlen : ((X.set i (X.getD k [])).set k (X.getD i [])).length = X.length := by simp
 refine ⟨rfl, by simp [Sq.len, idn_len], rfl, fun p => if p = k then i else if p = i then k else p, fun p hp => ?_, fun p p' hp hp' e => ?_, fun p x nn hp => ?_⟩
 ·have hp : p < ((X.set i (X.getD k [])).set k (X.getD i [])).length := hp
  rw [hlen] at hp
  have g1 : (if p = k then i else if p = i then k else p) < X.length := by
   split
   ·exact hi
   ·split
    ·exact hk
    ·exact hp
  simp only [Fq.get, Sq.nn]
  rw [getD_map_some, hX p, List.getElem?_eq_getElem g1, List.getD_eq_getElem?_getD, List.getElem?_eq_getElem g1]
  rfl
 ·dsimp only at e
  split at e <;> split at e <;> (try split at e) <;> (try split at e) <;> omega
 ·have hp : p < ((X.set i (X.getD k [])).set k (X.getD i [])).length := hp
  have a1 : (Sq.irefs F (((idn X).set i (k, (X.getD k []).length)).set k (i, (X.getD i []).length))).relem p = [.irow F (if p = k then i else if p = i then k else p) (X.getD (if p = k then i else if p = i then k else p) []).length] := by
   simp only [Sq.relem]
   rw [hraw p]
   split
   ·rfl
   ·split
    ·rfl
    ·rw [idn_get X _ (by rw [hlen] at hp; exact hp)]
  have a2 : (dR F (.intss ((X.set i (X.getD k [])).set k (X.getD i [])))).relem p = [.irow F p (X.getD (if p = k then i else if p = i then k else p) []).length] := by
   simp only [dR, Sq.relem]
   rw [idn_get _ _ hp, hX p]
  rw [a1, a2]
  cases x with
  | zero => exact ⟨fun h => by simp at h ⊢; exact h, fun x h => by simp at h⟩
  | succ x => exact ⟨fun h => by simp at h, fun x h => by simp at h⟩
end
end Go.Proofs.Ytkklfgcelmeccaa
namespace Go.Proofs.Ytkklfgcelmeccaa
open Go.RowKit
def I_RigidityMatrix_l1 (N : Nat) (f_0 : Frm) (k : (List (List Int)) → Option (List (List Int))) : Nat → ((List (List Int)) × Int) → Option (List (List Int))
 | 0, _ => none
 | n + 1, (l6, x7) =>
  cnd (decide (x7 < (f_0.g.bars.length : Int))) (
   grd (0 ≤ x7 ∧ x7 < (f_0.g.bars.length : Int)) <|
   grd (Rg64 ((2 : Int) * f_0.g.n)) <|
   grd (0 ≤ ((2 : Int) * f_0.g.n) ∧ ((2 : Int) * f_0.g.n) ≤ 4294967296) <|
   grd (0 ≤ ((f_0.g.bars.getD ((x7).toNat) (0, 0)).1) ∧ ((f_0.g.bars.getD ((x7).toNat) (0, 0)).1) < (f_0.places.length : Int)) <|
   grd (0 ≤ ((f_0.g.bars.getD ((x7).toNat) (0, 0)).2) ∧ ((f_0.g.bars.getD ((x7).toNat) (0, 0)).2) < (f_0.places.length : Int)) <|
   grd (Rg64 ((2 : Int) * ((f_0.g.bars.getD ((x7).toNat) (0, 0)).1))) <|
   grd (Rg64 (((2 : Int) * ((f_0.g.bars.getD ((x7).toNat) (0, 0)).1)) + (1 : Int))) <|
   grd (Rg64 (((f_0.places.getD (((f_0.g.bars.getD ((x7).toNat) (0, 0)).1).toNat) (0, 0)).1) - ((f_0.places.getD (((f_0.g.bars.getD ((x7).toNat) (0, 0)).2).toNat) (0, 0)).1))) <|
   grd (Rg64 (((f_0.places.getD (((f_0.g.bars.getD ((x7).toNat) (0, 0)).1).toNat) (0, 0)).2) - ((f_0.places.getD (((f_0.g.bars.getD ((x7).toNat) (0, 0)).2).toNat) (0, 0)).2))) <|
   grd (0 ≤ ((2 : Int) * ((f_0.g.bars.getD ((x7).toNat) (0, 0)).1)) ∧ ((2 : Int) * ((f_0.g.bars.getD ((x7).toNat) (0, 0)).1)) < ((List.replicate ((((2 : Int) * f_0.g.n)).toNat) (0 : Int)).length : Int)) <|
   grd (0 ≤ (((2 : Int) * ((f_0.g.bars.getD ((x7).toNat) (0, 0)).1)) + (1 : Int)) ∧ (((2 : Int) * ((f_0.g.bars.getD ((x7).toNat) (0, 0)).1)) + (1 : Int)) < ((List.replicate ((((2 : Int) * f_0.g.n)).toNat) (0 : Int)).length : Int)) <|
   grd (0 ≤ (((2 : Int) * ((f_0.g.bars.getD ((x7).toNat) (0, 0)).1)) + (1 : Int)) ∧ (((2 : Int) * ((f_0.g.bars.getD ((x7).toNat) (0, 0)).1)) + (1 : Int)) < (((List.replicate ((((2 : Int) * f_0.g.n)).toNat) (0 : Int)).set ((((2 : Int) * ((f_0.g.bars.getD ((x7).toNat) (0, 0)).1))).toNat) (((f_0.places.getD (((f_0.g.bars.getD ((x7).toNat) (0, 0)).1).toNat) (0, 0)).1) - ((f_0.places.getD (((f_0.g.bars.getD ((x7).toNat) (0, 0)).2).toNat) (0, 0)).1))).length : Int)) <|
   grd (Rg64 ((2 : Int) * ((f_0.g.bars.getD ((x7).toNat) (0, 0)).2))) <|
   grd (Rg64 (((2 : Int) * ((f_0.g.bars.getD ((x7).toNat) (0, 0)).2)) + (1 : Int))) <|
   grd (Rg64 (((f_0.places.getD (((f_0.g.bars.getD ((x7).toNat) (0, 0)).2).toNat) (0, 0)).1) - ((f_0.places.getD (((f_0.g.bars.getD ((x7).toNat) (0, 0)).1).toNat) (0, 0)).1))) <|
   grd (Rg64 (((f_0.places.getD (((f_0.g.bars.getD ((x7).toNat) (0, 0)).2).toNat) (0, 0)).2) - ((f_0.places.getD (((f_0.g.bars.getD ((x7).toNat) (0, 0)).1).toNat) (0, 0)).2))) <|
   grd (0 ≤ ((2 : Int) * ((f_0.g.bars.getD ((x7).toNat) (0, 0)).2)) ∧ ((2 : Int) * ((f_0.g.bars.getD ((x7).toNat) (0, 0)).2)) < ((List.replicate ((((2 : Int) * f_0.g.n)).toNat) (0 : Int)).length : Int)) <|
   grd (0 ≤ ((2 : Int) * ((f_0.g.bars.getD ((x7).toNat) (0, 0)).2)) ∧ ((2 : Int) * ((f_0.g.bars.getD ((x7).toNat) (0, 0)).2)) < ((((List.replicate ((((2 : Int) * f_0.g.n)).toNat) (0 : Int)).set ((((2 : Int) * ((f_0.g.bars.getD ((x7).toNat) (0, 0)).1))).toNat) (((f_0.places.getD (((f_0.g.bars.getD ((x7).toNat) (0, 0)).1).toNat) (0, 0)).1) - ((f_0.places.getD (((f_0.g.bars.getD ((x7).toNat) (0, 0)).2).toNat) (0, 0)).1))).set (((((2 : Int) * ((f_0.g.bars.getD ((x7).toNat) (0, 0)).1)) + (1 : Int))).toNat) (((f_0.places.getD (((f_0.g.bars.getD ((x7).toNat) (0, 0)).1).toNat) (0, 0)).2) - ((f_0.places.getD (((f_0.g.bars.getD ((x7).toNat) (0, 0)).2).toNat) (0, 0)).2))).length : Int)) <|
   grd (0 ≤ (((2 : Int) * ((f_0.g.bars.getD ((x7).toNat) (0, 0)).2)) + (1 : Int)) ∧ (((2 : Int) * ((f_0.g.bars.getD ((x7).toNat) (0, 0)).2)) + (1 : Int)) < ((List.replicate ((((2 : Int) * f_0.g.n)).toNat) (0 : Int)).length : Int)) <|
   grd (0 ≤ (((2 : Int) * ((f_0.g.bars.getD ((x7).toNat) (0, 0)).2)) + (1 : Int)) ∧ (((2 : Int) * ((f_0.g.bars.getD ((x7).toNat) (0, 0)).2)) + (1 : Int)) < (((((List.replicate ((((2 : Int) * f_0.g.n)).toNat) (0 : Int)).set ((((2 : Int) * ((f_0.g.bars.getD ((x7).toNat) (0, 0)).1))).toNat) (((f_0.places.getD (((f_0.g.bars.getD ((x7).toNat) (0, 0)).1).toNat) (0, 0)).1) - ((f_0.places.getD (((f_0.g.bars.getD ((x7).toNat) (0, 0)).2).toNat) (0, 0)).1))).set (((((2 : Int) * ((f_0.g.bars.getD ((x7).toNat) (0, 0)).1)) + (1 : Int))).toNat) (((f_0.places.getD (((f_0.g.bars.getD ((x7).toNat) (0, 0)).1).toNat) (0, 0)).2) - ((f_0.places.getD (((f_0.g.bars.getD ((x7).toNat) (0, 0)).2).toNat) (0, 0)).2))).set ((((2 : Int) * ((f_0.g.bars.getD ((x7).toNat) (0, 0)).2))).toNat) (((f_0.places.getD (((f_0.g.bars.getD ((x7).toNat) (0, 0)).2).toNat) (0, 0)).1) - ((f_0.places.getD (((f_0.g.bars.getD ((x7).toNat) (0, 0)).1).toNat) (0, 0)).1))).length : Int)) <|
   grd ((List.replicate ((((2 : Int) * f_0.g.n)).toNat) (0 : Int)).length = (((((List.replicate ((((2 : Int) * f_0.g.n)).toNat) (0 : Int)).set ((((2 : Int) * ((f_0.g.bars.getD ((x7).toNat) (0, 0)).1))).toNat) (((f_0.places.getD (((f_0.g.bars.getD ((x7).toNat) (0, 0)).1).toNat) (0, 0)).1) - ((f_0.places.getD (((f_0.g.bars.getD ((x7).toNat) (0, 0)).2).toNat) (0, 0)).1))).set (((((2 : Int) * ((f_0.g.bars.getD ((x7).toNat) (0, 0)).1)) + (1 : Int))).toNat) (((f_0.places.getD (((f_0.g.bars.getD ((x7).toNat) (0, 0)).1).toNat) (0, 0)).2) - ((f_0.places.getD (((f_0.g.bars.getD ((x7).toNat) (0, 0)).2).toNat) (0, 0)).2))).set ((((2 : Int) * ((f_0.g.bars.getD ((x7).toNat) (0, 0)).2))).toNat) (((f_0.places.getD (((f_0.g.bars.getD ((x7).toNat) (0, 0)).2).toNat) (0, 0)).1) - ((f_0.places.getD (((f_0.g.bars.getD ((x7).toNat) (0, 0)).1).toNat) (0, 0)).1))).set (((((2 : Int) * ((f_0.g.bars.getD ((x7).toNat) (0, 0)).2)) + (1 : Int))).toNat) (((f_0.places.getD (((f_0.g.bars.getD ((x7).toNat) (0, 0)).2).toNat) (0, 0)).2) - ((f_0.places.getD (((f_0.g.bars.getD ((x7).toNat) (0, 0)).1).toNat) (0, 0)).2))).length) <|
   grd (l6.length + 1 ≤ 4294967296) <|
   grd (Rg64 (x7 + (1 : Int))) <|
   I_RigidityMatrix_l1 N f_0 k n ((l6 ++ ([(((((List.replicate ((((2 : Int) * f_0.g.n)).toNat) (0 : Int)).set ((((2 : Int) * ((f_0.g.bars.getD ((x7).toNat) (0, 0)).1))).toNat) (((f_0.places.getD (((f_0.g.bars.getD ((x7).toNat) (0, 0)).1).toNat) (0, 0)).1) - ((f_0.places.getD (((f_0.g.bars.getD ((x7).toNat) (0, 0)).2).toNat) (0, 0)).1))).set (((((2 : Int) * ((f_0.g.bars.getD ((x7).toNat) (0, 0)).1)) + (1 : Int))).toNat) (((f_0.places.getD (((f_0.g.bars.getD ((x7).toNat) (0, 0)).1).toNat) (0, 0)).2) - ((f_0.places.getD (((f_0.g.bars.getD ((x7).toNat) (0, 0)).2).toNat) (0, 0)).2))).set ((((2 : Int) * ((f_0.g.bars.getD ((x7).toNat) (0, 0)).2))).toNat) (((f_0.places.getD (((f_0.g.bars.getD ((x7).toNat) (0, 0)).2).toNat) (0, 0)).1) - ((f_0.places.getD (((f_0.g.bars.getD ((x7).toNat) (0, 0)).1).toNat) (0, 0)).1))).set (((((2 : Int) * ((f_0.g.bars.getD ((x7).toNat) (0, 0)).2)) + (1 : Int))).toNat) (((f_0.places.getD (((f_0.g.bars.getD ((x7).toNat) (0, 0)).2).toNat) (0, 0)).2) - ((f_0.places.getD (((f_0.g.bars.getD ((x7).toNat) (0, 0)).1).toNat) (0, 0)).2)))] : List (List Int))), (x7 + (1 : Int)))) (
   k l6)
def I_RigidityMatrix (N : Nat) (f_0 : Frm) : Option (List (List Int)) :=
 (I_IsFramework N f_0).bind fun v1 =>
 cnd (!v1) (
  some ([] : List (List Int))) (
  I_RigidityMatrix_l1 N f_0 (fun (l4 : List (List Int)) =>
     some l4) N (([] : List (List Int)), (0 : Int)))
set_option maxRecDepth 20000 in
set_option maxHeartbeats 1600000 in
theorem I_RigidityMatrix_w (N : Nat) (f_0 : Frm) (r : List (List Int)) (h : I_RigidityMatrix N f_0 = some r) : PCall Try.prog 49 [fD f_0] [(35, .intss r)] (.row 0 0 r.length) := by
 unfold I_RigidityMatrix at h
 refine pcall_intro (TT := TT) tt Try.func49 rfl rfl Try.ntmps49 (congrArg Array.toList Try.results49) rfl rfl fun w0 => ?_
 refine vSeq ?_
 refine vRegion ?_
 refine oBox rfl rfl rfl rfl rfl rfl rfl rfl rfl ?_
 refine oVal tt rfl rfl rfl rfl rfl trivial ?_
 refine vNil ?_
 change VC _ _ _ _
 refine vSeq ?_
 refine vRegion ?_
 refine oEmpty tt (wNone rfl) rfl rfl rfl rfl ?_
 refine oVal tt rfl rfl rfl rfl rfl trivial ?_
 refine vNil ?_
 change VC _ _ _ _
 iterate 2 refine vSeq ?_
 refine vRegion ?_
 refine oVal tt rfl rfl rfl rfl rfl trivial ?_
 obtain ⟨v1, hc1, h⟩ := bind_inv h
 refine oCall (I_IsFramework_w N f_0 v1 hc1) rfl rfl rfl rfl rfl rfl rfl rfl ⟨⟨rfl, rfl, rfl, trivial⟩, trivial⟩ ?_
 refine oVal tt rfl rfl rfl rfl rfl trivial ?_
 refine vNil ?_
 change VC _ _ _ _
 refine vCond rfl (fun hb2 => ?_) (fun hb2 => ?_)
 ·replace h := cnd_t hb2 h
  refine vSeq ?_
  refine vRegion ?_
  iterate 2 refine oVal tt rfl rfl rfl rfl rfl trivial ?_
  refine vNil ?_
  change VC _ _ _ _
  refine vNilT 2 9001 35 (.intss []) rfl rfl rfl rfl ?_
  refine vRet ?_
  change ∃ _, _
  cases h
  exact ⟨[9001], _, rfl, ⟨rfl, trivial⟩, rfl, (.eq rfl), rfl⟩
 ·replace h := cnd_f hb2 h
  refine vSkip ?_
  change VC _ _ _ _
  iterate 2 refine vSeq ?_
  refine vRegion ?_
  iterate 5 refine oVal tt rfl rfl rfl rfl rfl trivial ?_
  refine vNil ?_
  change VC _ _ _ _
  refine vJoin (F := fun k => I_RigidityMatrix_l1 N f_0 k) h (α := List (List Int)) (J := fun (l4 : List (List Int)) => (⟨[(3, .row 84 0 l4.length)], [(84, some (35, .intss l4))], []⟩ : PS)) ?_ ?_
  ·rintro l4 h
   show VC _ _ _ (⟨[(3, .row 84 0 l4.length)], [(84, some (35, .intss l4))], []⟩ : PS)
   refine vSeq ?_
   refine vRegion ?_
   iterate 2 refine oVal tt rfl rfl rfl rfl rfl trivial ?_
   refine vNil ?_
   change VC _ _ _ _
   refine vRet ?_
   change ∃ _, _
   cases h
   exact ⟨[84], _, rfl, ⟨rfl, trivial⟩, rfl, (.eq rfl), rfl⟩
  ·intro k h
   refine vBlock ?_
   refine vNilT 3 84 35 (.intss []) rfl rfl rfl rfl ?_
   refine vLoopS (α := (List (List Int)) × Int) (fun | (l6, x7) => (⟨[(1, .ptr 1 0), (3, .row 84 0 l6.length), (16, .ro false (.pairs f_0.g.bars)), (17, .int (f_0.g.bars.length : Int)), (18, .int x7)], [(84, some (35, .intss l6))], [(1, some [.int f_0.g.n, .ro false (.pairs f_0.g.bars), .ro false (.pairs f_0.places)])]⟩ : PS)) (I_RigidityMatrix_l1 N f_0 k) h (En.of ⟨rfl, rfl, rfl, rfl, rfl, trivial⟩ ⟨rfl, trivial⟩ ⟨rfl, trivial⟩) (fun _ => rfl) ?_
   rintro n ⟨l6, x7⟩ h
   rw [I_RigidityMatrix_l1] at h
   show VC _ _ _ (⟨[(1, .ptr 1 0), (3, .row 84 0 l6.length), (16, .ro false (.pairs f_0.g.bars)), (17, .int (f_0.g.bars.length : Int)), (18, .int x7)], [(84, some (35, .intss l6))], [(1, some [.int f_0.g.n, .ro false (.pairs f_0.g.bars), .ro false (.pairs f_0.places)])]⟩ : PS)
   refine vSeq ?_
   refine vRegion ?_
   refine oVal tt rfl rfl rfl rfl rfl trivial ?_
   refine vNil ?_
   change VC _ _ _ _
   refine vSeq ?_
   refine vCond rfl (fun hb3 => ?_) (fun hb3 => ?_)
   ·replace h := cnd_t hb3 h
    refine vSkip ?_
    change VC _ _ _ _
    refine vSeq ?_
    refine vBlock ?_
    refine vSeq ?_
    refine vRegion ?_
    obtain ⟨hg4, h⟩ := grd_inv h
    refine oVal tt rfl rfl rfl rfl rfl hg4 ?_
    refine oVal tt rfl rfl rfl rfl rfl trivial ?_
    refine oAlloc tt rfl rfl rfl rfl rfl rfl rfl rfl rfl ?_
    refine oStore tt rfl rfl rfl rfl rfl rfl rfl rfl rfl rfl rfl ⟨trivial, trivial, trivial⟩ ?_
    refine vNil ?_
    change VC _ _ _ _
    refine vSeq ?_
    refine vRegion ?_
    iterate 3 refine oVal tt rfl rfl rfl rfl rfl trivial ?_
    obtain ⟨hg5, h⟩ := grd_inv h
    refine oVal tt rfl rfl rfl rfl rfl hg5 ?_
    obtain ⟨hg6, h⟩ := grd_inv h
    refine oMake tt rfl rfl rfl rfl rfl rfl rfl rfl rfl rfl rfl hg6 ?_
    refine oVal tt rfl rfl rfl rfl rfl trivial ?_
    refine vNil ?_
    change VC _ _ _ _
    refine vSeq ?_
    refine vRegionN 15 [12, 13, 1140000007] [0, 1, 0, 4, 15, 31, 0, 64, 0, 256, 960, 1984, 0, 0, 12351, 32767] (by kernel_rfl) (by kernel_rfl) (by kernel_rfl) (by kernel_rfl) (by kernel_rfl) rfl (by rfl) ?_
    iterate 4 refine nVal tt rfl (wNone rfl) rfl rfl rfl rfl rfl trivial ?_
    obtain ⟨hg7, h⟩ := grd_inv h
    refine nVal tt rfl (wNone rfl) rfl rfl rfl rfl rfl hg7 ?_
    iterate 5 refine nVal tt rfl (wNone rfl) rfl rfl rfl rfl rfl trivial ?_
    obtain ⟨hg8, h⟩ := grd_inv h
    refine nVal tt rfl (wNone rfl) rfl rfl rfl rfl rfl hg8 ?_
    refine nVal tt rfl (wNone rfl) rfl rfl rfl rfl rfl trivial ?_
    iterate 2 refine nAlloc tt (wNone rfl) rfl rfl rfl rfl rfl rfl rfl rfl rfl rfl ?_
    refine nStoreB tt (wNone rfl) rfl rfl rfl rfl rfl rfl rfl rfl rfl rfl rfl rfl ?_
    refine nNil ?_
    change VO _ _ _ _ _
    refine oStore tt rfl rfl rfl rfl rfl rfl rfl rfl rfl rfl rfl ⟨trivial, trivial, trivial⟩ ?_
    refine vNil ?_
    change VC _ _ _ _
    refine vSeq ?_
    refine vRegionN 21 [1200000026] [0, 0, 2, 6, 0, 0, 32, 96, 224, 0, 512, 0, 2048, 7680, 0, 16384, 0, 65536, 245760, 15887, 540175, 2097151, 4194303] (by kernel_rfl) (by kernel_rfl) (by kernel_rfl) (by kernel_rfl) (by kernel_rfl) rfl (by rfl) ?_
    iterate 3 refine nVal tt rfl (wNone rfl) rfl rfl rfl rfl rfl trivial ?_
    obtain ⟨hg9, h⟩ := grd_inv h
    refine nVal tt rfl (wNone rfl) rfl rfl rfl rfl rfl hg9 ?_
    iterate 3 refine nVal tt rfl (wNone rfl) rfl rfl rfl rfl rfl trivial ?_
    refine nVal tt rfl (wNone rfl) rfl rfl rfl rfl rfl hg9 ?_
    obtain ⟨hg10, h⟩ := grd_inv h
    refine nVal tt rfl (wNone rfl) rfl rfl rfl rfl rfl hg10 ?_
    iterate 4 refine nVal tt rfl (wNone rfl) rfl rfl rfl rfl rfl trivial ?_
    obtain ⟨hg11, h⟩ := grd_inv h
    refine nVal tt rfl (wNone rfl) rfl rfl rfl rfl rfl hg11 ?_
    iterate 4 refine nVal tt rfl (wNone rfl) rfl rfl rfl rfl rfl trivial ?_
    obtain ⟨hg12, h⟩ := grd_inv h
    refine nVal tt rfl (wNone rfl) rfl rfl rfl rfl rfl hg12 ?_
    obtain ⟨hg13, h⟩ := grd_inv h
    refine nVal tt rfl (wNone rfl) rfl rfl rfl rfl rfl hg13 ?_
    refine nStoreR tt (wNone rfl) rfl rfl rfl rfl rfl rfl rfl rfl rfl rfl rfl rfl rfl hg13 ?_
    refine nNil ?_
    change VO _ _ _ _ _
    obtain ⟨hg14, h⟩ := grd_inv h
    refine oVal tt rfl rfl rfl rfl rfl hg14 ?_
    obtain ⟨hg15, h⟩ := grd_inv h
    refine oStore tt rfl rfl rfl rfl rfl rfl rfl rfl rfl rfl ⟨_, _, rfl, hg15.1, hg15.2⟩ ⟨hg15, trivial⟩ ?_
    refine vNil ?_
    change VC _ _ _ _
    refine vSeq ?_
    refine vRegionN 21 [1200000026] [0, 0, 2, 6, 0, 0, 32, 96, 224, 0, 512, 0, 2048, 7680, 0, 16384, 0, 65536, 245760, 15887, 540175, 2097151, 4194303] (by kernel_rfl) (by kernel_rfl) (by kernel_rfl) (by kernel_rfl) (by kernel_rfl) rfl (by rfl) ?_
    iterate 3 refine nVal tt rfl (wNone rfl) rfl rfl rfl rfl rfl trivial ?_
    obtain ⟨hg16, h⟩ := grd_inv h
    refine nVal tt rfl (wNone rfl) rfl rfl rfl rfl rfl hg16 ?_
    iterate 3 refine nVal tt rfl (wNone rfl) rfl rfl rfl rfl rfl trivial ?_
    refine nVal tt rfl (wNone rfl) rfl rfl rfl rfl rfl hg16 ?_
    obtain ⟨hg17, h⟩ := grd_inv h
    refine nVal tt rfl (wNone rfl) rfl rfl rfl rfl rfl hg17 ?_
    iterate 4 refine nVal tt rfl (wNone rfl) rfl rfl rfl rfl rfl trivial ?_
    obtain ⟨hg18, h⟩ := grd_inv h
    refine nVal tt rfl (wNone rfl) rfl rfl rfl rfl rfl hg18 ?_
    iterate 4 refine nVal tt rfl (wNone rfl) rfl rfl rfl rfl rfl trivial ?_
    obtain ⟨hg19, h⟩ := grd_inv h
    refine nVal tt rfl (wNone rfl) rfl rfl rfl rfl rfl hg19 ?_
    obtain ⟨hg20, h⟩ := grd_inv h
    refine nVal tt rfl (wNone rfl) rfl rfl rfl rfl rfl hg20 ?_
    obtain ⟨hg21, h⟩ := grd_inv h
    refine nStoreR tt (wNone rfl) rfl rfl rfl rfl rfl rfl rfl rfl rfl rfl rfl rfl rfl hg21 ?_
    refine nNil ?_
    change VO _ _ _ _ _
    obtain ⟨hg22, h⟩ := grd_inv h
    refine oVal tt rfl rfl rfl rfl rfl hg22 ?_
    obtain ⟨hg23, h⟩ := grd_inv h
    refine oStore tt rfl rfl rfl rfl rfl rfl rfl rfl rfl rfl ⟨_, _, rfl, hg23.1, hg23.2⟩ ⟨hg23, trivial⟩ ?_
    refine vNil ?_
    change VC _ _ _ _
    refine vRegion ?_
    iterate 2 refine oVal tt rfl rfl rfl rfl rfl trivial ?_
    obtain ⟨hg24, h⟩ := grd_inv h
    refine oFreeze (t := 82) rfl rfl rfl hg24 ?_
    refine oBuild tt rfl rfl rfl rfl rfl rfl rfl rfl rfl rfl rfl ?_
    obtain ⟨hg25, h⟩ := grd_inv h
    refine oAppend tt rfl rfl rfl rfl rfl rfl rfl rfl rfl rfl rfl rfl rfl rfl rfl rfl (Nat.le_of_eq (Nat.zero_add _)) hg25 ?_
    refine oVal tt rfl rfl rfl rfl rfl trivial ?_
    refine vNil ?_
    change VC _ _ _ _
    refine vRegion ?_
    obtain ⟨hg26, h⟩ := grd_inv h
    refine oVal tt rfl rfl rfl rfl rfl hg26 ?_
    refine oVal tt rfl rfl rfl rfl rfl trivial ?_
    refine vNil ?_
    change ∃ _, _
    exact ⟨((l6 ++ ([(((((List.replicate ((((2 : Int) * f_0.g.n)).toNat) (0 : Int)).set ((((2 : Int) * ((f_0.g.bars.getD ((x7).toNat) (0, 0)).1))).toNat) (((f_0.places.getD (((f_0.g.bars.getD ((x7).toNat) (0, 0)).1).toNat) (0, 0)).1) - ((f_0.places.getD (((f_0.g.bars.getD ((x7).toNat) (0, 0)).2).toNat) (0, 0)).1))).set (((((2 : Int) * ((f_0.g.bars.getD ((x7).toNat) (0, 0)).1)) + (1 : Int))).toNat) (((f_0.places.getD (((f_0.g.bars.getD ((x7).toNat) (0, 0)).1).toNat) (0, 0)).2) - ((f_0.places.getD (((f_0.g.bars.getD ((x7).toNat) (0, 0)).2).toNat) (0, 0)).2))).set ((((2 : Int) * ((f_0.g.bars.getD ((x7).toNat) (0, 0)).2))).toNat) (((f_0.places.getD (((f_0.g.bars.getD ((x7).toNat) (0, 0)).2).toNat) (0, 0)).1) - ((f_0.places.getD (((f_0.g.bars.getD ((x7).toNat) (0, 0)).1).toNat) (0, 0)).1))).set (((((2 : Int) * ((f_0.g.bars.getD ((x7).toNat) (0, 0)).2)) + (1 : Int))).toNat) (((f_0.places.getD (((f_0.g.bars.getD ((x7).toNat) (0, 0)).2).toNat) (0, 0)).2) - ((f_0.places.getD (((f_0.g.bars.getD ((x7).toNat) (0, 0)).1).toNat) (0, 0)).2)))] : List (List Int))), (x7 + (1 : Int))), (En.of ⟨rfl, rfl, rfl, rfl, rfl, trivial⟩ ⟨rfl, trivial⟩ ⟨rfl, trivial⟩), h⟩
   ·replace h := cnd_f hb3 h
    refine vExit ?_
    change ∃ _, _
    exact ⟨l6, (En.of ⟨rfl, trivial⟩ ⟨rfl, trivial⟩ trivial), h⟩
end Go.Proofs.Ytkklfgcelmeccaa
namespace Go.Proofs.Ytkklfgcelmeccaa
open Go.RowKit Go.Deep
def I_reduced_l3 (N : Nat) (columns_1 : Int) (l288 : List (List Int)) (l289 : List Int) (last290 : Int) (c291 : Int) (p339 : Int) (l368 : List (List Int)) (x369 : Int) (k : (List (List Int)) → Option ((List (List Int)) × (List Int) × Int)) : Nat → ((List (List Int)) × Int) → Option ((List (List Int)) × (List Int) × Int)
 | 0, _ => none
 | n + 1, (l380, x381) =>
  cnd (decide (x381 < columns_1)) (
   grd (0 ≤ x369 ∧ x369 < (l380.length : Int)) <|
   grd (0 ≤ x381 ∧ x381 < ((l380.getD ((x369).toNat) []).length : Int)) <|
   grd (Rg64 (((((l288.set (((l289.length : Int)).toNat) (l288.getD ((p339).toNat) [])).set ((p339).toNat) (l288.getD (((l289.length : Int)).toNat) [])).getD (((l289.length : Int)).toNat) []).getD ((c291).toNat) 0) * ((l380.getD ((x369).toNat) []).getD ((x381).toNat) 0))) <|
   grd (0 ≤ (l289.length : Int) ∧ (l289.length : Int) < (l380.length : Int)) <|
   grd (0 ≤ x381 ∧ x381 < ((l380.getD (((l289.length : Int)).toNat) []).length : Int)) <|
   grd (Rg64 (((l368.getD ((x369).toNat) []).getD ((c291).toNat) 0) * ((l380.getD (((l289.length : Int)).toNat) []).getD ((x381).toNat) 0))) <|
   grd (Rg64 ((((((l288.set (((l289.length : Int)).toNat) (l288.getD ((p339).toNat) [])).set ((p339).toNat) (l288.getD (((l289.length : Int)).toNat) [])).getD (((l289.length : Int)).toNat) []).getD ((c291).toNat) 0) * ((l380.getD ((x369).toNat) []).getD ((x381).toNat) 0)) - (((l368.getD ((x369).toNat) []).getD ((c291).toNat) 0) * ((l380.getD (((l289.length : Int)).toNat) []).getD ((x381).toNat) 0)))) <|
   grd (last290 ≠ 0 ∧ Rg64 (Int.tdiv ((((((l288.set (((l289.length : Int)).toNat) (l288.getD ((p339).toNat) [])).set ((p339).toNat) (l288.getD (((l289.length : Int)).toNat) [])).getD (((l289.length : Int)).toNat) []).getD ((c291).toNat) 0) * ((l380.getD ((x369).toNat) []).getD ((x381).toNat) 0)) - (((l368.getD ((x369).toNat) []).getD ((c291).toNat) 0) * ((l380.getD (((l289.length : Int)).toNat) []).getD ((x381).toNat) 0))) last290)) <|
   grd (Rg64 (x381 + (1 : Int))) <|
   I_reduced_l3 N columns_1 l288 l289 last290 c291 p339 l368 x369 k n ((l380.set ((x369).toNat) ((l380.getD ((x369).toNat) []).set ((x381).toNat) (Int.tdiv ((((((l288.set (((l289.length : Int)).toNat) (l288.getD ((p339).toNat) [])).set ((p339).toNat) (l288.getD (((l289.length : Int)).toNat) [])).getD (((l289.length : Int)).toNat) []).getD ((c291).toNat) 0) * ((l380.getD ((x369).toNat) []).getD ((x381).toNat) 0)) - (((l368.getD ((x369).toNat) []).getD ((c291).toNat) 0) * ((l380.getD (((l289.length : Int)).toNat) []).getD ((x381).toNat) 0))) last290))), (x381 + (1 : Int)))) (
   k l380)
def I_reduced_l2 (N : Nat) (columns_1 : Int) (v1 : List (List Int)) (l288 : List (List Int)) (l289 : List Int) (last290 : Int) (c291 : Int) (p339 : Int) (k : (List (List Int)) → Option ((List (List Int)) × (List Int) × Int)) : Nat → ((List (List Int)) × Int) → Option ((List (List Int)) × (List Int) × Int)
 | 0, _ => none
 | n + 1, (l368, x369) =>
  cnd (decide (x369 < (v1.length : Int))) (
   cnd (x369 == (l289.length : Int)) (
    grd (Rg64 (x369 + (1 : Int))) <|
    I_reduced_l2 N columns_1 v1 l288 l289 last290 c291 p339 k n (l368, (x369 + (1 : Int)))) (
    grd (0 ≤ x369 ∧ x369 < (v1.length : Int)) <|
    grd (0 ≤ x369 ∧ x369 < (l368.length : Int)) <|
    grd (0 ≤ c291 ∧ c291 < ((l368.getD ((x369).toNat) []).length : Int)) <|
    I_reduced_l3 N columns_1 l288 l289 last290 c291 p339 l368 x369 (fun (l378 : List (List Int)) =>
       grd (Rg64 (x369 + (1 : Int))) <|
       I_reduced_l2 N columns_1 v1 l288 l289 last290 c291 p339 k n (l378, (x369 + (1 : Int)))) N (l368, (0 : Int)))) (
   k l368)
def I_reduced_l4 (N : Nat) (v1 : List (List Int)) (l288 : List (List Int)) (c291 : Int) (k : Int → Option ((List (List Int)) × (List Int) × Int)) : Nat → Int → Option ((List (List Int)) × (List Int) × Int)
 | 0, _ => none
 | n + 1, p383 =>
  cnd (decide (p383 < (v1.length : Int))) (
   grd (0 ≤ p383 ∧ p383 < (v1.length : Int)) <|
   grd (0 ≤ p383 ∧ p383 < (l288.length : Int)) <|
   grd (0 ≤ c291 ∧ c291 < ((l288.getD ((p383).toNat) []).length : Int)) <|
   cnd (((l288.getD ((p383).toNat) []).getD ((c291).toNat) 0) == (0 : Int)) (
    grd (Rg64 (p383 + (1 : Int))) <|
    I_reduced_l4 N v1 l288 c291 k n (p383 + (1 : Int))) (
    k p383)) (
   k p383)
def I_reduced_l1 (N : Nat) (columns_1 : Int) (v1 : List (List Int)) (k : ((List (List Int)) × (List Int) × Int) → Option ((List (List Int)) × (List Int) × Int)) : Nat → ((List (List Int)) × (List Int) × Int × Int) → Option ((List (List Int)) × (List Int) × Int)
 | 0, _ => none
 | n + 1, (l288, l289, last290, c291) =>
  cnd (decide (c291 < columns_1)) (
   cnd (decide ((l289.length : Int) < (v1.length : Int))) (
    I_reduced_l4 N v1 l288 c291 (fun (p339 : Int) =>
       cnd (p339 == (v1.length : Int)) (
        grd (Rg64 (c291 + (1 : Int))) <|
        I_reduced_l1 N columns_1 v1 k n (l288, l289, last290, (c291 + (1 : Int)))) (
        grd (0 ≤ p339 ∧ p339 < (v1.length : Int)) <|
        grd (0 ≤ p339 ∧ p339 < (l288.length : Int)) <|
        grd (0 ≤ (l289.length : Int) ∧ (l289.length : Int) < (v1.length : Int)) <|
        grd (0 ≤ (l289.length : Int) ∧ (l289.length : Int) < (l288.length : Int)) <|
        grd (0 ≤ (l289.length : Int) ∧ (l289.length : Int) < (((l288.set (((l289.length : Int)).toNat) (l288.getD ((p339).toNat) [])).set ((p339).toNat) (l288.getD (((l289.length : Int)).toNat) [])).length : Int)) <|
        grd (0 ≤ c291 ∧ c291 < ((((l288.set (((l289.length : Int)).toNat) (l288.getD ((p339).toNat) [])).set ((p339).toNat) (l288.getD (((l289.length : Int)).toNat) [])).getD (((l289.length : Int)).toNat) []).length : Int)) <|
        I_reduced_l2 N columns_1 v1 l288 l289 last290 c291 p339 (fun (l360 : List (List Int)) =>
           grd (l289.length + 1 ≤ 4294967296) <|
           grd (Rg64 (c291 + (1 : Int))) <|
           I_reduced_l1 N columns_1 v1 k n (l360, (l289 ++ ([c291] : List Int)), ((((l288.set (((l289.length : Int)).toNat) (l288.getD ((p339).toNat) [])).set ((p339).toNat) (l288.getD (((l289.length : Int)).toNat) [])).getD (((l289.length : Int)).toNat) []).getD ((c291).toNat) 0), (c291 + (1 : Int)))) N (((l288.set (((l289.length : Int)).toNat) (l288.getD ((p339).toNat) [])).set ((p339).toNat) (l288.getD (((l289.length : Int)).toNat) [])), (0 : Int)))) N (l289.length : Int)) (
    k (l288, l289, last290))) (
   k (l288, l289, last290))
def I_reduced (N : Nat) (m_0 : List (List Int)) (columns_1 : Int) : Option ((List (List Int)) × (List Int) × Int) :=
 (I_copyLists N m_0).bind fun v1 =>
 I_reduced_l1 N columns_1 v1 (fun (x : (List (List Int)) × (List Int) × Int) =>
   match x with
   | (l191, l192, last193) =>
    grd (v1.length = l191.length) <|
    some (l191, l192, last193)) N (v1, ([] : List Int), (1 : Int), (0 : Int))
set_option maxRecDepth 20000 in
set_option maxHeartbeats 1600000 in
theorem I_reduced_w (N : Nat) (m_0 : List (List Int)) (columns_1 : Int) (r : (List (List Int)) × (List Int) × Int) (h : I_reduced N m_0 columns_1 = some r) : PCall Try.prog 83 [.ro false (.intss m_0), .int columns_1] [(3, .ints r.2.1)] (.tup [.ro true (.intss r.1), .row 0 0 r.2.1.length, .int r.2.2]) := by
 unfold I_reduced at h
 refine pcall_intro (TT := TT) tt Try.func83 rfl rfl Try.ntmps83 (congrArg Array.toList Try.results83) rfl rfl fun w0 => ?_
 refine vSeq ?_
 refine vRegion ?_
 iterate 3 refine oVal tt rfl rfl rfl rfl rfl trivial ?_
 refine vNil ?_
 change VC _ _ _ _
 refine vSeq ?_
 refine vRegion ?_
 refine oVal tt rfl rfl rfl rfl rfl trivial ?_
 obtain ⟨v1, hc1, h⟩ := bind_inv h
 refine oCallD 10 (I_copyLists_w N m_0 v1 hc1) rfl rfl rfl rfl rfl rfl rfl rfl rfl rfl rfl (fun _ h => by cases h) ⟨rfl, trivial⟩ ?_
 refine oVal tt rfl rfl rfl rfl rfl trivial ?_
 refine vNil ?_
 change VC _ _ _ _
 refine vSeq ?_
 refine vRegion ?_
 refine oEmpty tt (wNone rfl) rfl rfl rfl rfl ?_
 refine oVal tt rfl rfl rfl rfl rfl trivial ?_
 refine vNil ?_
 change VC _ _ _ _
 refine vSeq ?_
 refine vRegion ?_
 refine oVal tt rfl rfl rfl rfl rfl trivial ?_
 refine vNil ?_
 change VC _ _ _ _
 iterate 2 refine vSeq ?_
 refine vRegion ?_
 refine oVal tt rfl rfl rfl rfl rfl trivial ?_
 refine vNil ?_
 change VC _ _ _ _
 refine vJoin (F := fun k => I_reduced_l1 N columns_1 v1 k) h (α := (List (List Int)) × (List Int) × Int) (J := fun | (l191, l192, last193) => (⟨[(7, .row 1180 0 v1.length), (8, .row 127 0 l192.length), (9, .int last193)], [(1180, some (35, dR 10 (.intss l191))), (8589934602, some (3, dF (.intss l191))), (127, some (3, .ints l192))], []⟩ : PS)) ?_ ?_
 ·rintro ⟨l191, l192, last193⟩ h
  show VC _ _ _ (⟨[(7, .row 1180 0 v1.length), (8, .row 127 0 l192.length), (9, .int last193)], [(1180, some (35, dR 10 (.intss l191))), (8589934602, some (3, dF (.intss l191))), (127, some (3, .ints l192))], []⟩ : PS)
  refine vSeq ?_
  refine vRegion ?_
  iterate 6 refine oVal tt rfl rfl rfl rfl rfl trivial ?_
  refine vNil ?_
  change VC _ _ _ _
  obtain ⟨hg2, h⟩ := grd_inv h
  refine vEn (En.freezeD 4 1180 10 (q := (.intss l191)) rfl rfl rfl rfl hg2 rfl rfl) ?_
  refine vRet ?_
  change ∃ _, _
  cases h
  exact ⟨[127], _, rfl, ⟨rfl, trivial⟩, rfl, (.eq rfl), rfl⟩
 ·intro k h
  refine vBlock ?_
  refine vNilT 8 127 3 (.ints []) rfl rfl rfl rfl ?_
  refine vLoopS (α := (List (List Int)) × (List Int) × Int × Int) (fun | (l288, l289, last290, c291) => (⟨[(1, .int columns_1), (7, .row 1180 0 v1.length), (8, .row 127 0 l289.length), (9, .int last290), (10, .int c291)], [(1180, some (35, dR 10 (.intss l288))), (8589934602, some (3, dF (.intss l288))), (127, some (3, .ints l289))], []⟩ : PS)) (I_reduced_l1 N columns_1 v1 k) h (En.of ⟨rfl, rfl, rfl, rfl, rfl, trivial⟩ ⟨rfl, rfl, rfl, trivial⟩ trivial) (fun _ => rfl) ?_
  rintro n ⟨l288, l289, last290, c291⟩ h
  rw [I_reduced_l1] at h
  show VC _ _ _ (⟨[(1, .int columns_1), (7, .row 1180 0 v1.length), (8, .row 127 0 l289.length), (9, .int last290), (10, .int c291)], [(1180, some (35, dR 10 (.intss l288))), (8589934602, some (3, dF (.intss l288))), (127, some (3, .ints l289))], []⟩ : PS)
  iterate 2 refine vSeq ?_
  refine vRegion ?_
  iterate 4 refine oVal tt rfl rfl rfl rfl rfl trivial ?_
  refine oSplit rfl rfl rfl (fun hb3 => ?_) (fun hb3 => ?_)
  ·replace h := cnd_t hb3 h
   iterate 5 refine oValG tt rfl rfl rfl rfl rfl hb3 rfl rfl rfl trivial ?_
   refine oPick rfl rfl rfl rfl rfl hb3 rfl ?_
   refine vNil ?_
   change VC _ _ _ _
   refine vCond rfl (fun hb4 => ?_) (fun hb4 => ?_)
   ·replace h := cnd_t hb4 h
    refine vSkip ?_
    change VC _ _ _ _
    refine vSeq ?_
    refine vBlock ?_
    refine vSeq ?_
    refine vRegion ?_
    iterate 3 refine oVal tt rfl rfl rfl rfl rfl trivial ?_
    refine vNil ?_
    change VC _ _ _ _
    refine vSeq ?_
    refine vRegion ?_
    iterate 2 refine oVal tt rfl rfl rfl rfl rfl trivial ?_
    refine vNil ?_
    change VC _ _ _ _
    refine vSeq ?_
    refine vJoin (F := fun k => I_reduced_l4 N v1 l288 c291 k) h (α := Int) (J := fun (p339 : Int) => (⟨[(1, .int columns_1), (7, .row 1180 0 v1.length), (8, .row 127 0 l289.length), (9, .int last290), (10, .int c291), (11, .int (l289.length : Int)), (12, .int p339)], [(1180, some (35, dR 10 (.intss l288))), (8589934602, some (3, dF (.intss l288))), (127, some (3, .ints l289))], []⟩ : PS)) ?_ ?_
    ·rintro p339 h
     show VC _ _ _ (⟨[(1, .int columns_1), (7, .row 1180 0 v1.length), (8, .row 127 0 l289.length), (9, .int last290), (10, .int c291), (11, .int (l289.length : Int)), (12, .int p339)], [(1180, some (35, dR 10 (.intss l288))), (8589934602, some (3, dF (.intss l288))), (127, some (3, .ints l289))], []⟩ : PS)
     iterate 2 refine vSeq ?_
     refine vRegion ?_
     iterate 4 refine oVal tt rfl rfl rfl rfl rfl trivial ?_
     refine vNil ?_
     change VC _ _ _ _
     refine vCond rfl (fun hb5 => ?_) (fun hb5 => ?_)
     ·replace h := cnd_t hb5 h
      refine vExit ?_
      change VC _ _ _ _
      refine vRegion ?_
      refine oVal tt rfl rfl rfl rfl rfl trivial ?_
      obtain ⟨hg6, h⟩ := grd_inv h
      refine oVal tt rfl rfl rfl rfl rfl hg6 ?_
      refine oVal tt rfl rfl rfl rfl rfl trivial ?_
      refine vNil ?_
      change ∃ _, _
      exact ⟨(l288, l289, last290, (c291 + (1 : Int))), (En.of ⟨rfl, rfl, rfl, rfl, rfl, trivial⟩ ⟨rfl, rfl, rfl, trivial⟩ trivial), h⟩
     ·replace h := cnd_f hb5 h
      refine vSkip ?_
      change VC _ _ _ _
      refine vSeq ?_
      refine vRegionN 14 [1130001180] [0, 0, 0, 0, 0, 0, 48, 112, 0, 0, 768, 1792, 4083, 8179, 16383, 32767] (by kernel_rfl) (by kernel_rfl) (by kernel_rfl) (by kernel_rfl) (by kernel_rfl) rfl (by rfl) ?_
      iterate 6 refine nVal tt rfl (wNone rfl) rfl rfl rfl rfl rfl trivial ?_
      obtain ⟨hg7, h⟩ := grd_inv h
      refine nVal tt rfl (wNone rfl) rfl rfl rfl rfl rfl hg7 ?_
      obtain ⟨hg8, h⟩ := grd_inv h
      refine nLoadD tt (wNone rfl) (.intss l288) rfl rfl rfl rfl rfl rfl rfl rfl rfl rfl rfl hg8 ?_
      iterate 2 refine nVal tt rfl (wNone rfl) rfl rfl rfl rfl rfl trivial ?_
      obtain ⟨hg9, h⟩ := grd_inv h
      refine nVal tt rfl (wNone rfl) rfl rfl rfl rfl rfl hg9 ?_
      obtain ⟨hg10, h⟩ := grd_inv h
      refine nLoadD tt (wNone rfl) (.intss l288) rfl rfl rfl rfl rfl rfl rfl rfl rfl rfl rfl hg10 ?_
      refine nVal tt rfl (wNone rfl) rfl rfl rfl rfl rfl hg9 ?_
      refine nStoreR tt (wNone rfl) rfl rfl rfl rfl rfl rfl rfl rfl rfl rfl rfl rfl rfl (by simpa [Sq.len, dR, idn_len, idr_len] using hg10) ?_
      refine nNil ?_
      change VO _ _ _ _ _
      refine oVal tt rfl rfl rfl rfl rfl hg7 ?_
      refine oStore tt rfl rfl rfl rfl rfl rfl rfl rfl rfl rfl ⟨_, _, rfl, hg8.1, (by simpa [Sq.len, dR, idn_len, idr_len] using hg8.2)⟩ ⟨(by simpa [Sq.len, dR, idn_len, idr_len] using hg8), trivial⟩ ?_
      refine vEnO (En.re 1180 10 rfl rfl (swI 10 l288 (by omega) (by omega)) rfl rfl rfl) ?_
      refine vNil ?_
      change VC _ _ _ _
      refine vSeq ?_
      refine vRegion ?_
      iterate 2 refine oVal tt rfl rfl rfl rfl rfl trivial ?_
      refine oVal tt rfl rfl rfl rfl rfl hg9 ?_
      obtain ⟨hg11, h⟩ := grd_inv h
      refine oLoadD tt (wNone rfl) (.intss ((l288.set (((l289.length : Int)).toNat) (l288.getD ((p339).toNat) [])).set ((p339).toNat) (l288.getD (((l289.length : Int)).toNat) []))) rfl rfl rfl rfl rfl rfl rfl rfl rfl hg11 ?_
      refine oVal tt rfl rfl rfl rfl rfl trivial ?_
      obtain ⟨hg12, h⟩ := grd_inv h
      refine oPureF (wNone rfl) (pIdxI tt (q := (.intss ((l288.set (((l289.length : Int)).toNat) (l288.getD ((p339).toNat) [])).set ((p339).toNat) (l288.getD (((l289.length : Int)).toNat) [])))) rfl rfl rfl rfl rfl rfl (by simp only [Sq.len, List.length_set, List.length_append, List.length_replicate] at *; omega) rfl hg12) rfl rfl ?_
      refine oPureF (wNone rfl) (pLoadI tt (q := (.intss ((l288.set (((l289.length : Int)).toNat) (l288.getD ((p339).toNat) [])).set ((p339).toNat) (l288.getD (((l289.length : Int)).toNat) [])))) rfl rfl rfl rfl rfl (by simp only [Sq.len, List.length_set, List.length_append, List.length_replicate] at *; omega) hg12 rfl) rfl rfl ?_
      refine oVal tt rfl rfl rfl rfl rfl trivial ?_
      refine vNil ?_
      change VC _ _ _ _
      iterate 2 refine vSeq ?_
      refine vRegion ?_
      iterate 3 refine oVal tt rfl rfl rfl rfl rfl trivial ?_
      refine vNil ?_
      change VC _ _ _ _
      refine vJoin (F := fun k => I_reduced_l2 N columns_1 v1 l288 l289 last290 c291 p339 k) h (α := List (List Int)) (J := fun (l360 : List (List Int)) => (⟨[(1, .int columns_1), (7, .row 1180 0 v1.length), (8, .row 127 0 l289.length), (10, .int c291), (13, .int ((((l288.set (((l289.length : Int)).toNat) (l288.getD ((p339).toNat) [])).set ((p339).toNat) (l288.getD (((l289.length : Int)).toNat) [])).getD (((l289.length : Int)).toNat) []).getD ((c291).toNat) 0))], [(1180, some (35, dR 10 (.intss l360))), (8589934602, some (3, dF (.intss l360))), (127, some (3, .ints l289))], []⟩ : PS)) ?_ ?_
      ·rintro l360 h
       show VC _ _ _ (⟨[(1, .int columns_1), (7, .row 1180 0 v1.length), (8, .row 127 0 l289.length), (10, .int c291), (13, .int ((((l288.set (((l289.length : Int)).toNat) (l288.getD ((p339).toNat) [])).set ((p339).toNat) (l288.getD (((l289.length : Int)).toNat) [])).getD (((l289.length : Int)).toNat) []).getD ((c291).toNat) 0))], [(1180, some (35, dR 10 (.intss l360))), (8589934602, some (3, dF (.intss l360))), (127, some (3, .ints l289))], []⟩ : PS)
       refine vSeq ?_
       refine vRegion ?_
       iterate 2 refine oVal tt rfl rfl rfl rfl rfl trivial ?_
       refine oBuild tt rfl rfl rfl rfl rfl rfl rfl rfl rfl rfl rfl ?_
       obtain ⟨hg13, h⟩ := grd_inv h
       refine oAppend tt rfl rfl rfl rfl rfl rfl rfl rfl rfl rfl rfl rfl rfl rfl rfl rfl (Nat.le_of_eq (Nat.zero_add _)) hg13 ?_
       refine oVal tt rfl rfl rfl rfl rfl trivial ?_
       refine vNil ?_
       change VC _ _ _ _
       refine vRegion ?_
       iterate 2 refine oVal tt rfl rfl rfl rfl rfl trivial ?_
       refine vNil ?_
       change VC _ _ _ _
       refine vRegion ?_
       refine oVal tt rfl rfl rfl rfl rfl trivial ?_
       obtain ⟨hg14, h⟩ := grd_inv h
       refine oVal tt rfl rfl rfl rfl rfl hg14 ?_
       refine oVal tt rfl rfl rfl rfl rfl trivial ?_
       refine vNil ?_
       change ∃ _, _
       exact ⟨(l360, (l289 ++ ([c291] : List Int)), ((((l288.set (((l289.length : Int)).toNat) (l288.getD ((p339).toNat) [])).set ((p339).toNat) (l288.getD (((l289.length : Int)).toNat) [])).getD (((l289.length : Int)).toNat) []).getD ((c291).toNat) 0), (c291 + (1 : Int))), (En.of ⟨rfl, rfl, rfl, rfl, rfl, trivial⟩ ⟨rfl, rfl, rfl, trivial⟩ trivial), h⟩
      ·intro k h
       refine vBlock ?_
       refine vLoopS (α := (List (List Int)) × Int) (fun | (l368, x369) => (⟨[(1, .int columns_1), (7, .row 1180 0 v1.length), (8, .row 127 0 l289.length), (9, .int last290), (10, .int c291), (11, .int (l289.length : Int)), (13, .int ((((l288.set (((l289.length : Int)).toNat) (l288.getD ((p339).toNat) [])).set ((p339).toNat) (l288.getD (((l289.length : Int)).toNat) [])).getD (((l289.length : Int)).toNat) []).getD ((c291).toNat) 0)), (77, .int (v1.length : Int)), (78, .int x369)], [(1180, some (35, dR 10 (.intss l368))), (8589934602, some (3, dF (.intss l368))), (127, some (3, .ints l289))], []⟩ : PS)) (I_reduced_l2 N columns_1 v1 l288 l289 last290 c291 p339 k) h (En.of ⟨rfl, rfl, rfl, rfl, rfl, rfl, rfl, rfl, rfl, trivial⟩ ⟨rfl, rfl, rfl, trivial⟩ trivial) (fun _ => rfl) ?_
       rintro n ⟨l368, x369⟩ h
       rw [I_reduced_l2] at h
       show VC _ _ _ (⟨[(1, .int columns_1), (7, .row 1180 0 v1.length), (8, .row 127 0 l289.length), (9, .int last290), (10, .int c291), (11, .int (l289.length : Int)), (13, .int ((((l288.set (((l289.length : Int)).toNat) (l288.getD ((p339).toNat) [])).set ((p339).toNat) (l288.getD (((l289.length : Int)).toNat) [])).getD (((l289.length : Int)).toNat) []).getD ((c291).toNat) 0)), (77, .int (v1.length : Int)), (78, .int x369)], [(1180, some (35, dR 10 (.intss l368))), (8589934602, some (3, dF (.intss l368))), (127, some (3, .ints l289))], []⟩ : PS)
       refine vSeq ?_
       refine vRegion ?_
       refine oVal tt rfl rfl rfl rfl rfl trivial ?_
       refine vNil ?_
       change VC _ _ _ _
       refine vSeq ?_
       refine vCond rfl (fun hb15 => ?_) (fun hb15 => ?_)
       ·replace h := cnd_t hb15 h
        refine vSkip ?_
        change VC _ _ _ _
        refine vSeq ?_
        refine vBlock ?_
        refine vSeq ?_
        refine vRegion ?_
        iterate 2 refine oVal tt rfl rfl rfl rfl rfl trivial ?_
        refine vNil ?_
        change VC _ _ _ _
        iterate 2 refine vSeq ?_
        refine vRegion ?_
        iterate 3 refine oVal tt rfl rfl rfl rfl rfl trivial ?_
        refine vNil ?_
        change VC _ _ _ _
        refine vCond rfl (fun hb16 => ?_) (fun hb16 => ?_)
        ·replace h := cnd_t hb16 h
         refine vExit ?_
         change VC _ _ _ _
         refine vRegion ?_
         obtain ⟨hg17, h⟩ := grd_inv h
         refine oVal tt rfl rfl rfl rfl rfl hg17 ?_
         refine oVal tt rfl rfl rfl rfl rfl trivial ?_
         refine vNil ?_
         change ∃ _, _
         exact ⟨(l368, (x369 + (1 : Int))), (En.of ⟨rfl, rfl, rfl, rfl, rfl, rfl, rfl, rfl, rfl, trivial⟩ ⟨rfl, rfl, rfl, trivial⟩ trivial), h⟩
        ·replace h := cnd_f hb16 h
         refine vSkip ?_
         change VC _ _ _ _
         refine vSeq ?_
         refine vRegion ?_
         iterate 2 refine oVal tt rfl rfl rfl rfl rfl trivial ?_
         obtain ⟨hg18, h⟩ := grd_inv h
         refine oVal tt rfl rfl rfl rfl rfl hg18 ?_
         obtain ⟨hg19, h⟩ := grd_inv h
         refine oLoadD tt (wNone rfl) (.intss l368) rfl rfl rfl rfl rfl rfl rfl rfl rfl hg19 ?_
         refine oVal tt rfl rfl rfl rfl rfl trivial ?_
         obtain ⟨hg20, h⟩ := grd_inv h
         refine oPureF (wNone rfl) (pIdxI tt (q := (.intss l368)) rfl rfl rfl rfl rfl rfl (by simp only [Sq.len, List.length_set, List.length_append, List.length_replicate] at *; omega) rfl hg20) rfl rfl ?_
         refine oPureF (wNone rfl) (pLoadI tt (q := (.intss l368)) rfl rfl rfl rfl rfl (by simp only [Sq.len, List.length_set, List.length_append, List.length_replicate] at *; omega) hg20 rfl) rfl rfl ?_
         refine oVal tt rfl rfl rfl rfl rfl trivial ?_
         refine vNil ?_
         change VC _ _ _ _
         refine vSeq ?_
         refine vRegion ?_
         iterate 2 refine oVal tt rfl rfl rfl rfl rfl trivial ?_
         refine vNil ?_
         change VC _ _ _ _
         refine vJoin (F := fun k => I_reduced_l3 N columns_1 l288 l289 last290 c291 p339 l368 x369 k) h (α := List (List Int)) (J := fun (l378 : List (List Int)) => (⟨[(1, .int columns_1), (7, .row 1180 0 v1.length), (8, .row 127 0 l289.length), (9, .int last290), (10, .int c291), (11, .int (l289.length : Int)), (13, .int ((((l288.set (((l289.length : Int)).toNat) (l288.getD ((p339).toNat) [])).set ((p339).toNat) (l288.getD (((l289.length : Int)).toNat) [])).getD (((l289.length : Int)).toNat) []).getD ((c291).toNat) 0)), (77, .int (v1.length : Int)), (78, .int x369)], [(1180, some (35, dR 10 (.intss l378))), (8589934602, some (3, dF (.intss l378))), (127, some (3, .ints l289))], []⟩ : PS)) ?_ ?_
         ·rintro l378 h
          show VC _ _ _ (⟨[(1, .int columns_1), (7, .row 1180 0 v1.length), (8, .row 127 0 l289.length), (9, .int last290), (10, .int c291), (11, .int (l289.length : Int)), (13, .int ((((l288.set (((l289.length : Int)).toNat) (l288.getD ((p339).toNat) [])).set ((p339).toNat) (l288.getD (((l289.length : Int)).toNat) [])).getD (((l289.length : Int)).toNat) []).getD ((c291).toNat) 0)), (77, .int (v1.length : Int)), (78, .int x369)], [(1180, some (35, dR 10 (.intss l378))), (8589934602, some (3, dF (.intss l378))), (127, some (3, .ints l289))], []⟩ : PS)
          refine vRegion ?_
          obtain ⟨hg21, h⟩ := grd_inv h
          refine oVal tt rfl rfl rfl rfl rfl hg21 ?_
          refine oVal tt rfl rfl rfl rfl rfl trivial ?_
          refine vNil ?_
          change ∃ _, _
          exact ⟨(l378, (x369 + (1 : Int))), (En.of ⟨rfl, rfl, rfl, rfl, rfl, rfl, rfl, rfl, rfl, trivial⟩ ⟨rfl, rfl, rfl, trivial⟩ trivial), h⟩
         ·intro k h
          refine vBlock ?_
          refine vLoopS (α := (List (List Int)) × Int) (fun | (l380, x381) => (⟨[(1, .int columns_1), (7, .row 1180 0 v1.length), (8, .row 127 0 l289.length), (9, .int last290), (10, .int c291), (11, .int (l289.length : Int)), (13, .int ((((l288.set (((l289.length : Int)).toNat) (l288.getD ((p339).toNat) [])).set ((p339).toNat) (l288.getD (((l289.length : Int)).toNat) [])).getD (((l289.length : Int)).toNat) []).getD ((c291).toNat) 0)), (14, .int x369), (15, .int ((l368.getD ((x369).toNat) []).getD ((c291).toNat) 0)), (77, .int (v1.length : Int)), (78, .int x369), (91, .int columns_1), (92, .int x381)], [(1180, some (35, dR 10 (.intss l380))), (8589934602, some (3, dF (.intss l380))), (127, some (3, .ints l289))], []⟩ : PS)) (I_reduced_l3 N columns_1 l288 l289 last290 c291 p339 l368 x369 k) h (En.of ⟨rfl, rfl, rfl, rfl, rfl, rfl, rfl, rfl, rfl, rfl, rfl, rfl, rfl, trivial⟩ ⟨rfl, rfl, rfl, trivial⟩ trivial) (fun _ => rfl) ?_
          rintro n ⟨l380, x381⟩ h
          rw [I_reduced_l3] at h
          show VC _ _ _ (⟨[(1, .int columns_1), (7, .row 1180 0 v1.length), (8, .row 127 0 l289.length), (9, .int last290), (10, .int c291), (11, .int (l289.length : Int)), (13, .int ((((l288.set (((l289.length : Int)).toNat) (l288.getD ((p339).toNat) [])).set ((p339).toNat) (l288.getD (((l289.length : Int)).toNat) [])).getD (((l289.length : Int)).toNat) []).getD ((c291).toNat) 0)), (14, .int x369), (15, .int ((l368.getD ((x369).toNat) []).getD ((c291).toNat) 0)), (77, .int (v1.length : Int)), (78, .int x369), (91, .int columns_1), (92, .int x381)], [(1180, some (35, dR 10 (.intss l380))), (8589934602, some (3, dF (.intss l380))), (127, some (3, .ints l289))], []⟩ : PS)
          refine vSeq ?_
          refine vRegion ?_
          refine oVal tt rfl rfl rfl rfl rfl trivial ?_
          refine vNil ?_
          change VC _ _ _ _
          refine vSeq ?_
          refine vCond rfl (fun hb22 => ?_) (fun hb22 => ?_)
          ·replace h := cnd_t hb22 h
           refine vSkip ?_
           change VC _ _ _ _
           refine vSeq ?_
           refine vBlock ?_
           refine vSeq ?_
           refine vRegion ?_
           iterate 2 refine oVal tt rfl rfl rfl rfl rfl trivial ?_
           refine vNil ?_
           change VC _ _ _ _
           refine vRegionN 26 [] [0, 0, 3, 7, 0, 0, 0, 0, 192, 448, 0, 1984, 4032, 8160, 0, 0, 0, 98304, 229376, 0, 1015808, 2064384, 4177920, 8388576, 0, 33554400, 67108863, 134217727] (by kernel_rfl) (by kernel_rfl) (by kernel_rfl) (by kernel_rfl) (by kernel_rfl) rfl (by rfl) ?_
           iterate 2 refine nVal tt rfl (wNone rfl) rfl rfl rfl rfl rfl trivial ?_
           refine nVal tt rfl (wNone rfl) rfl rfl rfl rfl rfl hg18 ?_
           obtain ⟨hg23, h⟩ := grd_inv h
           refine nLoadD tt (wNone rfl) (.intss l380) rfl rfl rfl rfl rfl rfl rfl rfl rfl rfl rfl hg23 ?_
           iterate 4 refine nVal tt rfl (wNone rfl) rfl rfl rfl rfl rfl trivial ?_
           refine nVal tt rfl (wNone rfl) rfl rfl rfl rfl rfl hg18 ?_
           refine nLoadD tt (wNone rfl) (.intss l380) rfl rfl rfl rfl rfl rfl rfl rfl rfl rfl rfl hg23 ?_
           refine nVal tt rfl (wNone rfl) rfl rfl rfl rfl rfl trivial ?_
           obtain ⟨hg24, h⟩ := grd_inv h
           refine nPureF (wNone rfl) (pIdxI tt (q := (.intss l380)) rfl rfl rfl rfl rfl rfl (by simp only [Sq.len, List.length_set, List.length_append, List.length_replicate] at *; omega) rfl hg24) rfl rfl rfl ?_
           refine nPureF (wNone rfl) (pLoadI tt (q := (.intss l380)) rfl rfl rfl rfl rfl (by simp only [Sq.len, List.length_set, List.length_append, List.length_replicate] at *; omega) hg24 rfl) rfl rfl rfl ?_
           obtain ⟨hg25, h⟩ := grd_inv h
           refine nVal tt rfl (wNone rfl) rfl rfl rfl rfl rfl hg25 ?_
           iterate 3 refine nVal tt rfl (wNone rfl) rfl rfl rfl rfl rfl trivial ?_
           refine nVal tt rfl (wNone rfl) rfl rfl rfl rfl rfl hg9 ?_
           obtain ⟨hg26, h⟩ := grd_inv h
           refine nLoadD tt (wNone rfl) (.intss l380) rfl rfl rfl rfl rfl rfl rfl rfl rfl rfl rfl hg26 ?_
           refine nVal tt rfl (wNone rfl) rfl rfl rfl rfl rfl trivial ?_
           obtain ⟨hg27, h⟩ := grd_inv h
           refine nPureF (wNone rfl) (pIdxI tt (q := (.intss l380)) rfl rfl rfl rfl rfl rfl (by simp only [Sq.len, List.length_set, List.length_append, List.length_replicate] at *; omega) rfl hg27) rfl rfl rfl ?_
           refine nPureF (wNone rfl) (pLoadI tt (q := (.intss l380)) rfl rfl rfl rfl rfl (by simp only [Sq.len, List.length_set, List.length_append, List.length_replicate] at *; omega) hg27 rfl) rfl rfl rfl ?_
           obtain ⟨hg28, h⟩ := grd_inv h
           refine nVal tt rfl (wNone rfl) rfl rfl rfl rfl rfl hg28 ?_
           obtain ⟨hg29, h⟩ := grd_inv h
           refine nVal tt rfl (wNone rfl) rfl rfl rfl rfl rfl hg29 ?_
           refine nVal tt rfl (wNone rfl) rfl rfl rfl rfl rfl trivial ?_
           obtain ⟨hg30, h⟩ := grd_inv h
           refine nVal tt rfl (wNone rfl) rfl rfl rfl rfl rfl hg30 ?_
           refine nNil ?_
           change VO _ _ _ _ _
           refine oPureF (wNone rfl) (pIdxI tt (q := (.intss l380)) rfl rfl rfl rfl rfl rfl (by simp only [Sq.len, List.length_set, List.length_append, List.length_replicate] at *; omega) rfl hg24) rfl rfl ?_
           refine oStoreI 1180 (.intss (l380.set ((x369).toNat) ((l380.getD ((x369).toNat) []).set ((x381).toNat) (Int.tdiv ((((((l288.set (((l289.length : Int)).toNat) (l288.getD ((p339).toNat) [])).set ((p339).toNat) (l288.getD (((l289.length : Int)).toNat) [])).getD (((l289.length : Int)).toNat) []).getD ((c291).toNat) 0) * ((l380.getD ((x369).toNat) []).getD ((x381).toNat) 0)) - (((l368.getD ((x369).toNat) []).getD ((c291).toNat) 0) * ((l380.getD (((l289.length : Int)).toNat) []).getD ((x381).toNat) 0))) last290)))) tt (q := (.intss l380)) rfl rfl rfl rfl rfl rfl rfl rfl rfl rfl (by simp only [Sq.len, List.length_set, List.length_append, List.length_replicate] at *; omega) hg24 rfl (inI _ _ _ _ (by first | omega | (simp only [List.length_set, List.length_append, List.length_replicate] at *; omega)) (by simp)) ?_
           refine vNil ?_
           change VC _ _ _ _
           refine vRegion ?_
           obtain ⟨hg31, h⟩ := grd_inv h
           refine oVal tt rfl rfl rfl rfl rfl hg31 ?_
           refine oVal tt rfl rfl rfl rfl rfl trivial ?_
           refine vNil ?_
           change ∃ _, _
           exact ⟨((l380.set ((x369).toNat) ((l380.getD ((x369).toNat) []).set ((x381).toNat) (Int.tdiv ((((((l288.set (((l289.length : Int)).toNat) (l288.getD ((p339).toNat) [])).set ((p339).toNat) (l288.getD (((l289.length : Int)).toNat) [])).getD (((l289.length : Int)).toNat) []).getD ((c291).toNat) 0) * ((l380.getD ((x369).toNat) []).getD ((x381).toNat) 0)) - (((l368.getD ((x369).toNat) []).getD ((c291).toNat) 0) * ((l380.getD (((l289.length : Int)).toNat) []).getD ((x381).toNat) 0))) last290))), (x381 + (1 : Int))), (En.of ⟨rfl, rfl, rfl, rfl, rfl, rfl, rfl, rfl, rfl, rfl, rfl, rfl, rfl, trivial⟩ ⟨rfl, rfl, rfl, trivial⟩ trivial), h⟩
          ·replace h := cnd_f hb22 h
           refine vExit ?_
           change ∃ _, _
           exact ⟨l380, (En.of ⟨rfl, rfl, rfl, rfl, rfl, rfl, rfl, rfl, rfl, trivial⟩ ⟨rfl, rfl, rfl, trivial⟩ trivial), h⟩
       ·replace h := cnd_f hb15 h
        refine vExit ?_
        change ∃ _, _
        exact ⟨l368, (En.of ⟨rfl, rfl, rfl, rfl, rfl, trivial⟩ ⟨rfl, rfl, rfl, trivial⟩ trivial), h⟩
    ·intro k h
     refine vBlock ?_
     refine vLoopS (α := Int) (fun (p383 : Int) => (⟨[(1, .int columns_1), (7, .row 1180 0 v1.length), (8, .row 127 0 l289.length), (9, .int last290), (10, .int c291), (11, .int (l289.length : Int)), (12, .int p383)], [(1180, some (35, dR 10 (.intss l288))), (8589934602, some (3, dF (.intss l288))), (127, some (3, .ints l289))], []⟩ : PS)) (I_reduced_l4 N v1 l288 c291 k) h (En.of ⟨rfl, rfl, rfl, rfl, rfl, rfl, rfl, trivial⟩ ⟨rfl, rfl, rfl, trivial⟩ trivial) (fun _ => rfl) ?_
     rintro n p383 h
     rw [I_reduced_l4] at h
     show VC _ _ _ (⟨[(1, .int columns_1), (7, .row 1180 0 v1.length), (8, .row 127 0 l289.length), (9, .int last290), (10, .int c291), (11, .int (l289.length : Int)), (12, .int p383)], [(1180, some (35, dR 10 (.intss l288))), (8589934602, some (3, dF (.intss l288))), (127, some (3, .ints l289))], []⟩ : PS)
     iterate 2 refine vSeq ?_
     refine vRegion ?_
     iterate 5 refine oVal tt rfl rfl rfl rfl rfl trivial ?_
     refine oSplit rfl rfl rfl (fun hb32 => ?_) (fun hb32 => ?_)
     ·replace h := cnd_t hb32 h
      iterate 2 refine oValG tt rfl rfl rfl rfl rfl hb32 rfl rfl rfl trivial ?_
      obtain ⟨hg33, h⟩ := grd_inv h
      refine oValG tt rfl rfl rfl rfl rfl hb32 rfl rfl rfl hg33 ?_
      obtain ⟨hg34, h⟩ := grd_inv h
      refine oLoadD tt (wSome rfl rfl rfl rfl hb32) (.intss l288) rfl rfl rfl rfl rfl rfl rfl rfl rfl hg34 ?_
      refine oValG tt rfl rfl rfl rfl rfl hb32 rfl rfl rfl trivial ?_
      obtain ⟨hg35, h⟩ := grd_inv h
      refine oPureF (wSome rfl rfl rfl rfl hb32) (pIdxI tt (q := (.intss l288)) rfl rfl rfl rfl rfl rfl (by simp only [Sq.len, List.length_set, List.length_append, List.length_replicate] at *; omega) rfl hg35) rfl rfl ?_
      refine oPureF (wSome rfl rfl rfl rfl hb32) (pLoadI tt (q := (.intss l288)) rfl rfl rfl rfl rfl (by simp only [Sq.len, List.length_set, List.length_append, List.length_replicate] at *; omega) hg35 rfl) rfl rfl ?_
      refine oValG tt rfl rfl rfl rfl rfl hb32 rfl rfl rfl trivial ?_
      refine oPick rfl rfl rfl rfl rfl hb32 rfl ?_
      refine vNil ?_
      change VC _ _ _ _
      refine vCond rfl (fun hb36 => ?_) (fun hb36 => ?_)
      ·replace h := cnd_t hb36 h
       refine vSkip ?_
       change VC _ _ _ _
       refine vBlock ?_
       refine vRegion ?_
       refine oVal tt rfl rfl rfl rfl rfl trivial ?_
       obtain ⟨hg37, h⟩ := grd_inv h
       refine oVal tt rfl rfl rfl rfl rfl hg37 ?_
       refine oVal tt rfl rfl rfl rfl rfl trivial ?_
       refine vNil ?_
       change ∃ _, _
       exact ⟨(p383 + (1 : Int)), (En.of ⟨rfl, rfl, rfl, rfl, rfl, rfl, rfl, trivial⟩ ⟨rfl, rfl, rfl, trivial⟩ trivial), h⟩
      ·replace h := cnd_f hb36 h
       refine vExit ?_
       change ∃ _, _
       exact ⟨p383, (En.of ⟨rfl, rfl, rfl, rfl, rfl, rfl, rfl, trivial⟩ ⟨rfl, rfl, rfl, trivial⟩ trivial), h⟩
     ·replace h := cnd_f hb32 h
      iterate 8 refine oNoT rfl rfl rfl rfl hb32 rfl rfl ?_
      refine oPickF rfl rfl rfl rfl rfl hb32 rfl ?_
      refine vNil ?_
      change VC _ _ _ _
      refine vCondF rfl rfl ?_
      refine vExit ?_
      change ∃ _, _
      exact ⟨p383, (En.of ⟨rfl, rfl, rfl, rfl, rfl, rfl, rfl, trivial⟩ ⟨rfl, rfl, rfl, trivial⟩ trivial), h⟩
   ·replace h := cnd_f hb4 h
    refine vExit ?_
    change ∃ _, _
    exact ⟨(l288, l289, last290), (En.of ⟨rfl, rfl, rfl, trivial⟩ ⟨rfl, rfl, rfl, trivial⟩ trivial), h⟩
  ·replace h := cnd_f hb3 h
   iterate 5 refine oNoT rfl rfl rfl rfl hb3 rfl rfl ?_
   refine oPickF rfl rfl rfl rfl rfl hb3 rfl ?_
   refine vNil ?_
   change VC _ _ _ _
   refine vCondF rfl rfl ?_
   refine vExit ?_
   change ∃ _, _
   exact ⟨(l288, l289, last290), (En.of ⟨rfl, rfl, rfl, trivial⟩ ⟨rfl, rfl, rfl, trivial⟩ trivial), h⟩
def I_rank (N : Nat) (m_0 : List (List Int)) (columns_1 : Int) : Option (Int) :=
 (I_reduced N m_0 columns_1).bind fun v1 =>
 some (v1.2.1.length : Int)
set_option maxRecDepth 20000 in
set_option maxHeartbeats 1600000 in
theorem I_rank_w (N : Nat) (m_0 : List (List Int)) (columns_1 : Int) (r : Int) (h : I_rank N m_0 columns_1 = some r) : PCall Try.prog 50 [.ro false (.intss m_0), .int columns_1] [] (.int r) := by
 unfold I_rank at h
 refine pcall_intro (TT := TT) tt Try.func50 rfl rfl Try.ntmps50 (congrArg Array.toList Try.results50) rfl rfl fun w0 => ?_
 refine vSeq ?_
 refine vRegion ?_
 refine oVal tt rfl rfl rfl rfl rfl trivial ?_
 refine vNil ?_
 change VC _ _ _ _
 refine vSeq ?_
 refine vRegion ?_
 iterate 2 refine oVal tt rfl rfl rfl rfl rfl trivial ?_
 obtain ⟨v1, hc1, h⟩ := bind_inv h
 refine oCall (I_reduced_w N m_0 columns_1 v1 hc1) rfl rfl rfl rfl rfl rfl rfl rfl ⟨rfl, rfl, trivial⟩ ?_
 iterate 7 refine oVal tt rfl rfl rfl rfl rfl trivial ?_
 refine vNil ?_
 change VC _ _ _ _
 refine vSeq ?_
 refine vRegion ?_
 iterate 3 refine oVal tt rfl rfl rfl rfl rfl trivial ?_
 refine vNil ?_
 change VC _ _ _ _
 refine vRet ?_
 change ∃ _, _
 cases h
 exact ⟨[], _, rfl, trivial, rfl, (.eq rfl), rfl⟩
def I_LinkageFreedom_l2 (N : Nat) (v2 : List Int) (v3 : List (List Int)) (x46 : Int) (k : (List Int) → Option (Int)) : Nat → ((List Int) × Int) → Option (Int)
 | 0, _ => none
 | n + 1, (l57, x58) =>
  cnd (decide (x58 < (v2.length : Int))) (
   grd (0 ≤ x58 ∧ x58 < (v2.length : Int)) <|
   grd (Rg64 ((2 : Int) * (v2.getD ((x58).toNat) 0))) <|
   grd (0 ≤ ((2 : Int) * (v2.getD ((x58).toNat) 0)) ∧ ((2 : Int) * (v2.getD ((x58).toNat) 0)) < ((v3.getD ((x46).toNat) []).length : Int)) <|
   grd (Rg64 (((2 : Int) * (v2.getD ((x58).toNat) 0)) + (1 : Int))) <|
   grd (0 ≤ (((2 : Int) * (v2.getD ((x58).toNat) 0)) + (1 : Int)) ∧ (((2 : Int) * (v2.getD ((x58).toNat) 0)) + (1 : Int)) < ((v3.getD ((x46).toNat) []).length : Int)) <|
   grd (l57.length + 2 ≤ 4294967296) <|
   grd (Rg64 (x58 + (1 : Int))) <|
   I_LinkageFreedom_l2 N v2 v3 x46 k n ((l57 ++ ([((v3.getD ((x46).toNat) []).getD ((((2 : Int) * (v2.getD ((x58).toNat) 0))).toNat) 0), ((v3.getD ((x46).toNat) []).getD (((((2 : Int) * (v2.getD ((x58).toNat) 0)) + (1 : Int))).toNat) 0)] : List Int)), (x58 + (1 : Int)))) (
   k l57)
def I_LinkageFreedom_l1 (N : Nat) (v2 : List Int) (v3 : List (List Int)) (k : (List (List Int)) → Option (Int)) : Nat → ((List (List Int)) × Int) → Option (Int)
 | 0, _ => none
 | n + 1, (l45, x46) =>
  cnd (decide (x46 < (v3.length : Int))) (
   grd (0 ≤ x46 ∧ x46 < (v3.length : Int)) <|
   I_LinkageFreedom_l2 N v2 v3 x46 (fun (l55 : List Int) =>
      grd (l45.length + 1 ≤ 4294967296) <|
      grd (Rg64 (x46 + (1 : Int))) <|
      I_LinkageFreedom_l1 N v2 v3 k n ((l45 ++ ([l55] : List (List Int))), (x46 + (1 : Int)))) N (([] : List Int), (0 : Int))) (
   k l45)
def I_LinkageFreedom (N : Nat) (l_0 : Lnk) : Option (Int) :=
 (I_IsLinkage N l_0).bind fun v1 =>
 cnd (!v1) (
  some (-1 : Int)) (
  (I_FreeJoints N l_0).bind fun v2 =>
  (I_RigidityMatrix N l_0.f).bind fun v3 =>
  I_LinkageFreedom_l1 N v2 v3 (fun (l30 : List (List Int)) =>
     grd (Rg64 ((2 : Int) * (v2.length : Int))) <|
     (I_rank N l30 ((2 : Int) * (v2.length : Int))).bind fun v31 =>
     grd (Rg64 (((2 : Int) * (v2.length : Int)) - v31)) <|
     some (((2 : Int) * (v2.length : Int)) - v31)) N (([] : List (List Int)), (0 : Int)))
set_option maxRecDepth 20000 in
set_option maxHeartbeats 1600000 in
theorem I_LinkageFreedom_w (N : Nat) (l_0 : Lnk) (r : Int) (h : I_LinkageFreedom N l_0 = some r) : PCall Try.prog 15 [lD l_0] [] (.int r) := by
 unfold I_LinkageFreedom at h
 refine pcall_intro (TT := TT) tt Try.func15 rfl rfl Try.ntmps15 (congrArg Array.toList Try.results15) rfl rfl fun w0 => ?_
 refine vSeq ?_
 refine vRegion ?_
 refine oBox rfl rfl rfl rfl rfl rfl rfl rfl rfl ?_
 refine oVal tt rfl rfl rfl rfl rfl trivial ?_
 refine vNil ?_
 change VC _ _ _ _
 iterate 2 refine vSeq ?_
 refine vRegion ?_
 refine oVal tt rfl rfl rfl rfl rfl trivial ?_
 obtain ⟨v1, hc1, h⟩ := bind_inv h
 refine oCall (I_IsLinkage_w N l_0 v1 hc1) rfl rfl rfl rfl rfl rfl rfl rfl ⟨⟨rfl, rfl, rfl, rfl, trivial⟩, trivial⟩ ?_
 refine oVal tt rfl rfl rfl rfl rfl trivial ?_
 refine vNil ?_
 change VC _ _ _ _
 refine vCond rfl (fun hb2 => ?_) (fun hb2 => ?_)
 ·replace h := cnd_t hb2 h
  refine vSeq ?_
  refine vRegion ?_
  refine oVal tt rfl rfl rfl rfl rfl trivial ?_
  refine vNil ?_
  change VC _ _ _ _
  refine vRet ?_
  change ∃ _, _
  cases h
  exact ⟨[], _, rfl, trivial, rfl, (.eq rfl), rfl⟩
 ·replace h := cnd_f hb2 h
  refine vSkip ?_
  change VC _ _ _ _
  refine vSeq ?_
  refine vRegion ?_
  refine oVal tt rfl rfl rfl rfl rfl trivial ?_
  obtain ⟨v2, hc3, h⟩ := bind_inv h
  refine oCall (I_FreeJoints_w N l_0 v2 hc3) rfl rfl rfl rfl rfl rfl rfl rfl ⟨⟨rfl, rfl, rfl, rfl, trivial⟩, trivial⟩ ?_
  refine oVal tt rfl rfl rfl rfl rfl trivial ?_
  refine vNil ?_
  change VC _ _ _ _
  refine vSeq ?_
  refine vRegion ?_
  refine oEmpty tt (wNone rfl) rfl rfl rfl rfl ?_
  refine oVal tt rfl rfl rfl rfl rfl trivial ?_
  refine vNil ?_
  change VC _ _ _ _
  iterate 2 refine vSeq ?_
  refine vRegion ?_
  iterate 2 refine oVal tt rfl rfl rfl rfl rfl trivial ?_
  obtain ⟨v3, hc4, h⟩ := bind_inv h
  refine oCall (I_RigidityMatrix_w N l_0.f v3 hc4) rfl rfl rfl rfl rfl rfl rfl rfl ⟨⟨rfl, rfl, rfl, trivial⟩, trivial⟩ ?_
  iterate 2 refine oVal tt rfl rfl rfl rfl rfl trivial ?_
  refine vNil ?_
  change VC _ _ _ _
  refine vJoin (F := fun k => I_LinkageFreedom_l1 N v2 v3 k) h (α := List (List Int)) (J := fun (l30 : List (List Int)) => (⟨[(3, .row 1140 0 v2.length), (4, .row 49 0 l30.length)], [(1140, some (3, .ints v2)), (49, some (35, .intss l30))], []⟩ : PS)) ?_ ?_
  ·rintro l30 h
   show VC _ _ _ (⟨[(3, .row 1140 0 v2.length), (4, .row 49 0 l30.length)], [(1140, some (3, .ints v2)), (49, some (35, .intss l30))], []⟩ : PS)
   refine vSeq ?_
   refine vRegion ?_
   iterate 2 refine oVal tt rfl rfl rfl rfl rfl trivial ?_
   obtain ⟨hg5, h⟩ := grd_inv h
   refine oVal tt rfl rfl rfl rfl rfl hg5 ?_
   iterate 3 refine oVal tt rfl rfl rfl rfl rfl trivial ?_
   refine oVal tt rfl rfl rfl rfl rfl hg5 ?_
   obtain ⟨v31, hc6, h⟩ := bind_inv h
   refine oCall (I_rank_w N l30 ((2 : Int) * (v2.length : Int)) v31 hc6) rfl rfl rfl rfl rfl rfl rfl rfl ⟨(.inl ⟨rfl, rfl⟩), rfl, trivial⟩ ?_
   obtain ⟨hg7, h⟩ := grd_inv h
   refine oVal tt rfl rfl rfl rfl rfl hg7 ?_
   refine oVal tt rfl rfl rfl rfl rfl trivial ?_
   refine vNil ?_
   change VC _ _ _ _
   refine vRet ?_
   change ∃ _, _
   cases h
   exact ⟨[], _, rfl, trivial, rfl, (.eq rfl), rfl⟩
  ·intro k h
   refine vBlock ?_
   refine vNilT 4 49 35 (.intss []) rfl rfl rfl rfl ?_
   refine vLoopS (α := (List (List Int)) × Int) (fun | (l45, x46) => (⟨[(3, .row 1140 0 v2.length), (4, .row 49 0 l45.length), (18, .row 1180 0 v3.length), (19, .int (v3.length : Int)), (20, .int x46)], [(1140, some (3, .ints v2)), (49, some (35, .intss l45)), (1180, some (35, .intss v3))], []⟩ : PS)) (I_LinkageFreedom_l1 N v2 v3 k) h (En.of ⟨rfl, rfl, rfl, rfl, rfl, trivial⟩ ⟨rfl, rfl, rfl, trivial⟩ trivial) (fun _ => rfl) ?_
   rintro n ⟨l45, x46⟩ h
   rw [I_LinkageFreedom_l1] at h
   show VC _ _ _ (⟨[(3, .row 1140 0 v2.length), (4, .row 49 0 l45.length), (18, .row 1180 0 v3.length), (19, .int (v3.length : Int)), (20, .int x46)], [(1140, some (3, .ints v2)), (49, some (35, .intss l45)), (1180, some (35, .intss v3))], []⟩ : PS)
   refine vSeq ?_
   refine vRegion ?_
   refine oVal tt rfl rfl rfl rfl rfl trivial ?_
   refine vNil ?_
   change VC _ _ _ _
   refine vSeq ?_
   refine vCond rfl (fun hb8 => ?_) (fun hb8 => ?_)
   ·replace h := cnd_t hb8 h
    refine vSkip ?_
    change VC _ _ _ _
    refine vSeq ?_
    refine vBlock ?_
    refine vSeq ?_
    refine vRegion ?_
    obtain ⟨hg9, h⟩ := grd_inv h
    iterate 2 refine oVal tt rfl rfl rfl rfl rfl hg9 ?_
    refine oVal tt rfl rfl rfl rfl rfl trivial ?_
    refine vNil ?_
    change VC _ _ _ _
    refine vSeq ?_
    refine vRegion ?_
    refine oEmpty tt (wNone rfl) rfl rfl rfl rfl ?_
    refine oVal tt rfl rfl rfl rfl rfl trivial ?_
    refine vNil ?_
    change VC _ _ _ _
    iterate 2 refine vSeq ?_
    refine vRegion ?_
    iterate 3 refine oVal tt rfl rfl rfl rfl rfl trivial ?_
    refine vNil ?_
    change VC _ _ _ _
    refine vJoin (F := fun k => I_LinkageFreedom_l2 N v2 v3 x46 k) h (α := List Int) (J := fun (l55 : List Int) => (⟨[(3, .row 1140 0 v2.length), (4, .row 49 0 l45.length), (7, .row 44 0 l55.length), (18, .row 1180 0 v3.length), (19, .int (v3.length : Int)), (20, .int x46)], [(1140, some (3, .ints v2)), (49, some (35, .intss l45)), (44, some (3, .ints l55)), (1180, some (35, .intss v3))], []⟩ : PS)) ?_ ?_
    ·rintro l55 h
     show VC _ _ _ (⟨[(3, .row 1140 0 v2.length), (4, .row 49 0 l45.length), (7, .row 44 0 l55.length), (18, .row 1180 0 v3.length), (19, .int (v3.length : Int)), (20, .int x46)], [(1140, some (3, .ints v2)), (49, some (35, .intss l45)), (44, some (3, .ints l55)), (1180, some (35, .intss v3))], []⟩ : PS)
     refine vRegion ?_
     iterate 2 refine oVal tt rfl rfl rfl rfl rfl trivial ?_
     refine oFreeze (t := 47) rfl rfl rfl rfl ?_
     refine oBuild tt rfl rfl rfl rfl rfl rfl rfl rfl rfl rfl rfl ?_
     obtain ⟨hg10, h⟩ := grd_inv h
     refine oAppend tt rfl rfl rfl rfl rfl rfl rfl rfl rfl rfl rfl rfl rfl rfl rfl rfl (Nat.le_of_eq (Nat.zero_add _)) hg10 ?_
     refine oVal tt rfl rfl rfl rfl rfl trivial ?_
     refine vNil ?_
     change VC _ _ _ _
     refine vRegion ?_
     obtain ⟨hg11, h⟩ := grd_inv h
     refine oVal tt rfl rfl rfl rfl rfl hg11 ?_
     refine oVal tt rfl rfl rfl rfl rfl trivial ?_
     refine vNil ?_
     change ∃ _, _
     exact ⟨((l45 ++ ([l55] : List (List Int))), (x46 + (1 : Int))), (En.of ⟨rfl, rfl, rfl, rfl, rfl, trivial⟩ ⟨rfl, rfl, rfl, trivial⟩ trivial), h⟩
    ·intro k h
     refine vBlock ?_
     refine vNilT 7 44 3 (.ints []) rfl rfl rfl rfl ?_
     refine vLoopS (α := (List Int) × Int) (fun | (l57, x58) => (⟨[(3, .row 1140 0 v2.length), (4, .row 49 0 l45.length), (6, .ro true (.ints (v3.getD ((x46).toNat) []))), (7, .row 44 0 l57.length), (18, .row 1180 0 v3.length), (19, .int (v3.length : Int)), (20, .int x46), (25, .row 1140 0 v2.length), (26, .int (v2.length : Int)), (27, .int x58)], [(1140, some (3, .ints v2)), (49, some (35, .intss l45)), (44, some (3, .ints l57)), (1180, some (35, .intss v3))], []⟩ : PS)) (I_LinkageFreedom_l2 N v2 v3 x46 k) h (En.of ⟨rfl, rfl, rfl, rfl, rfl, rfl, rfl, rfl, rfl, rfl, trivial⟩ ⟨rfl, rfl, rfl, rfl, trivial⟩ trivial) (fun _ => rfl) ?_
     rintro n ⟨l57, x58⟩ h
     rw [I_LinkageFreedom_l2] at h
     show VC _ _ _ (⟨[(3, .row 1140 0 v2.length), (4, .row 49 0 l45.length), (6, .ro true (.ints (v3.getD ((x46).toNat) []))), (7, .row 44 0 l57.length), (18, .row 1180 0 v3.length), (19, .int (v3.length : Int)), (20, .int x46), (25, .row 1140 0 v2.length), (26, .int (v2.length : Int)), (27, .int x58)], [(1140, some (3, .ints v2)), (49, some (35, .intss l45)), (44, some (3, .ints l57)), (1180, some (35, .intss v3))], []⟩ : PS)
     refine vSeq ?_
     refine vRegion ?_
     refine oVal tt rfl rfl rfl rfl rfl trivial ?_
     refine vNil ?_
     change VC _ _ _ _
     refine vSeq ?_
     refine vCond rfl (fun hb12 => ?_) (fun hb12 => ?_)
     ·replace h := cnd_t hb12 h
      refine vSkip ?_
      change VC _ _ _ _
      refine vSeq ?_
      refine vBlock ?_
      refine vSeq ?_
      refine vRegion ?_
      obtain ⟨hg13, h⟩ := grd_inv h
      iterate 2 refine oVal tt rfl rfl rfl rfl rfl hg13 ?_
      refine oVal tt rfl rfl rfl rfl rfl trivial ?_
      refine vNil ?_
      change VC _ _ _ _
      refine vRegionN 13 [12] [0, 0, 0, 4, 14, 30, 0, 0, 128, 384, 960, 1984, 4094, 8191, 16383] (by kernel_rfl) (by kernel_rfl) (by kernel_rfl) (by kernel_rfl) (by kernel_rfl) rfl (by rfl) ?_
      iterate 3 refine nVal tt rfl (wNone rfl) rfl rfl rfl rfl rfl trivial ?_
      obtain ⟨hg14, h⟩ := grd_inv h
      refine nVal tt rfl (wNone rfl) rfl rfl rfl rfl rfl hg14 ?_
      obtain ⟨hg15, h⟩ := grd_inv h
      refine nVal tt rfl (wNone rfl) rfl rfl rfl rfl rfl hg15 ?_
      iterate 3 refine nVal tt rfl (wNone rfl) rfl rfl rfl rfl rfl trivial ?_
      refine nVal tt rfl (wNone rfl) rfl rfl rfl rfl rfl hg14 ?_
      obtain ⟨hg16, h⟩ := grd_inv h
      refine nVal tt rfl (wNone rfl) rfl rfl rfl rfl rfl hg16 ?_
      obtain ⟨hg17, h⟩ := grd_inv h
      refine nVal tt rfl (wNone rfl) rfl rfl rfl rfl rfl hg17 ?_
      refine nVal tt rfl (wNone rfl) rfl rfl rfl rfl rfl trivial ?_
      refine nBuild tt (wNone rfl) rfl rfl rfl rfl rfl rfl rfl rfl rfl rfl rfl rfl ?_
      refine nNil ?_
      change VO _ _ _ _ _
      obtain ⟨hg18, h⟩ := grd_inv h
      refine oAppend tt rfl rfl rfl rfl rfl rfl rfl rfl rfl rfl rfl rfl rfl rfl rfl rfl (Nat.le_of_eq (Nat.zero_add _)) hg18 ?_
      refine oVal tt rfl rfl rfl rfl rfl trivial ?_
      refine vNil ?_
      change VC _ _ _ _
      refine vRegion ?_
      obtain ⟨hg19, h⟩ := grd_inv h
      refine oVal tt rfl rfl rfl rfl rfl hg19 ?_
      refine oVal tt rfl rfl rfl rfl rfl trivial ?_
      refine vNil ?_
      change ∃ _, _
      exact ⟨((l57 ++ ([((v3.getD ((x46).toNat) []).getD ((((2 : Int) * (v2.getD ((x58).toNat) 0))).toNat) 0), ((v3.getD ((x46).toNat) []).getD (((((2 : Int) * (v2.getD ((x58).toNat) 0)) + (1 : Int))).toNat) 0)] : List Int)), (x58 + (1 : Int))), (En.of ⟨rfl, rfl, rfl, rfl, rfl, rfl, rfl, rfl, rfl, rfl, trivial⟩ ⟨rfl, rfl, rfl, rfl, trivial⟩ trivial), h⟩
     ·replace h := cnd_f hb12 h
      refine vExit ?_
      change ∃ _, _
      exact ⟨l57, (En.of ⟨rfl, rfl, rfl, rfl, rfl, rfl, trivial⟩ ⟨rfl, rfl, rfl, rfl, trivial⟩ trivial), h⟩
   ·replace h := cnd_f hb8 h
    refine vExit ?_
    change ∃ _, _
    exact ⟨l45, (En.of ⟨rfl, rfl, trivial⟩ ⟨rfl, rfl, trivial⟩ trivial), h⟩
end Go.Proofs.Ytkklfgcelmeccaa
namespace Go.Proofs.Ytkklfgcelmeccaa
variable {N : Nat}
theorem gcd_l (k : Int → Option Int) : ∀ (f a b fuel : Nat), b < 2 ^ f → 2 * f < fuel → S_GcdOf_l1 N k fuel ((a : Int), (b : Int)) = k ((Nat.gcd a b : Nat) : Int) := by
 have step : ∀ (a b fuel : Nat), 0 < b → S_GcdOf_l1 N k (fuel + 1) ((a : Int), (b : Int)) = S_GcdOf_l1 N k fuel ((b : Int), ((a % b : Nat) : Int)) := fun a b fuel hb => by
  have e : Int.tmod (a : Int) (b : Int) = ((a % b : Nat) : Int) := rfl
  rw [S_GcdOf_l1, cnd_dt (by omega), grd_pos (by omega), e]
 have fin : ∀ (a fuel : Nat), S_GcdOf_l1 N k (fuel + 1) ((a : Int), ((0 : Nat) : Int)) = k (a : Int) := fun a fuel => by
  rw [S_GcdOf_l1, cnd_df (by omega)]
 have hgr : ∀ a b : Nat, Nat.gcd a b = Nat.gcd b (a % b) := fun a b => by rw [Nat.gcd_comm a b, Nat.gcd_rec b a, Nat.gcd_comm b (a % b)]
 intro f
 induction f with
 | zero =>
  intro a b fuel h1 h2
  obtain ⟨fuel, rfl⟩ : ∃ g, fuel = g + 1 := ⟨fuel - 1, by omega⟩
  have : b = 0 := by rw [Nat.pow_zero] at h1; omega
  subst this
  rw [fin, Nat.gcd_zero_right]
 | succ f ih =>
  intro a b fuel h1 h2
  obtain ⟨fuel, rfl⟩ : ∃ g, fuel = g + 2 := ⟨fuel - 2, by omega⟩
  rcases Nat.eq_zero_or_pos b with hb | hb
  ·subst hb; rw [fin, Nat.gcd_zero_right]
  ·rw [step _ _ _ hb, hgr a b]
   have hlt : a % b < b := Nat.mod_lt _ hb
   generalize a % b = r at hlt
   rcases Nat.eq_zero_or_pos r with hr | hr
   ·subst hr; rw [fin, Nat.gcd_zero_right]
   ·rw [step _ _ _ hr, hgr b r]
    have h3 : b % r < r := Nat.mod_lt _ hr
    have h4 : b % r + r ≤ b := by
     have h5 := Nat.div_add_mod b r
     have h6 : 1 ≤ b / r := (Nat.le_div_iff_mul_le hr).2 (by omega)
     have h7 : r * 1 ≤ r * (b / r) := Nat.mul_le_mul_left _ h6
     omega
    rw [Nat.pow_succ] at h1
    exact ih r (b % r) fuel (by omega) (by omega)
theorem gcd_s (hN : 4000000 ≤ N) {a b : Int} (ha : -1000000000 ≤ a ∧ a ≤ 1000000000) (hb : -1000000000 ≤ b ∧ b ≤ 1000000000) : S_GcdOf N a b = some ((Nat.gcd a.natAbs b.natAbs : Nat) : Int) := by
 unfold S_GcdOf
 have h1 : inB a (-9000000000000000000) 9000000000000000000 = true := inB_true.2 (by omega)
 have h2 : inB b (-9000000000000000000) 9000000000000000000 = true := inB_true.2 (by omega)
 have e1 : max a (-a) = ((a.natAbs : Nat) : Int) := by omega
 have e2 : max b (-b) = ((b.natAbs : Nat) : Int) := by omega
 rw [l1In_s, Option.bind_some, h1, Bool.not_true, cnd_false, l1In_s, Option.bind_some, h2, Bool.not_true, cnd_false, grd_R (by omega) (by omega), grd_R (by omega) (by omega), e1, e2]
 have h30 : (2 : Nat) ^ 30 = 1073741824 := by decide
 exact gcd_l _ 30 _ _ _ (by rw [h30]; omega) (by omega)
def gcdF (g : Nat) (l : List Int) : Nat := l.foldl (fun g x => Nat.gcd g x.natAbs) g
theorem gcdF_dvd {d : Nat} : ∀ {l : List Int} {g : Nat}, d ∣ gcdF g l ↔ d ∣ g ∧ ∀ x ∈ l, d ∣ x.natAbs
 | [], g => by simp [gcdF]
 | x :: l, g => by
  have := gcdF_dvd (d := d) (l := l) (g := Nat.gcd g x.natAbs)
  unfold gcdF at this ⊢
  rw [List.foldl_cons, this, Nat.dvd_gcd_iff]
  simp only [List.mem_cons, forall_eq_or_imp, and_assoc]
theorem gcdF_le {B : Nat} : ∀ {l : List Int} {g : Nat}, g ≤ B → (∀ x ∈ l, x.natAbs ≤ B) → gcdF g l ≤ B
 | [], g, h, _ => h
 | x :: l, g, h, h2 => by
  unfold gcdF
  rw [List.foldl_cons]
  refine gcdF_le (l := l) ?_ fun y hy => h2 y (by simp [hy])
  have hx := h2 x (by simp)
  rcases Nat.eq_zero_or_pos g with h0 | h0
  ·subst h0; rw [Nat.gcd_zero_left]; exact hx
  ·exact Nat.le_trans (Nat.gcd_le_left _ h0) h
theorem dropE {α : Type} {l : List α} {i : Nat} (d : α) (hi : i < l.length) : l.drop i = l.getD i d :: l.drop (i + 1) := by
 rw [List.drop_eq_getElem_cons hi, List.getD_eq_getElem?_getD, List.getElem?_eq_getElem hi]; rfl
theorem memE {α : Type} {l : List α} {i : Nat} (d : α) (hi : i < l.length) : l.getD i d ∈ l := by
 rw [List.getD_eq_getElem?_getD, List.getElem?_eq_getElem hi]; exact List.getElem_mem hi
def Sml (v : List Int) : Prop := v.length ≤ 100 ∧ ∀ x ∈ v, -1000000000 ≤ x ∧ x ≤ 1000000000
theorem Sml.at {v : List Int} (h : Sml v) (i : Nat) : -1000000000 ≤ v.getD i 0 ∧ v.getD i 0 ≤ 1000000000 := by
 by_cases hi : i < v.length
 ·exact h.2 _ (memE 0 hi)
 ·rw [List.getD_eq_getElem?_getD, List.getElem?_eq_none (by omega)]; simp
theorem prim_l3 (hN : 4000000 ≤ N) {v : List Int} (hv : Sml v) (k : Int → Option (List Int)) : ∀ (fuel i g : Nat), i ≤ v.length → v.length < fuel + i → g ≤ 1000000000 → S_PrimitiveVector_l3 N v k fuel ((g : Int), (i : Int)) = k ((gcdF g (v.drop i) : Nat) : Int) := by
 have hl := hv.1
 intro fuel
 induction fuel with
 | zero => intro i g h1 h2; omega
 | succ fuel ih =>
  intro i g h1 h2 h3
  rw [S_PrimitiveVector_l3]
  by_cases hi : i < v.length
  ·have hx := hv.at i
   have h1' : inB (v.getD i 0) (-9000000000000000000) 9000000000000000000 = true := inB_true.2 (by omega)
   have hle : Nat.gcd g (v.getD i 0).natAbs ≤ 1000000000 := by
    rcases Nat.eq_zero_or_pos g with h0 | h0
    ·subst h0; rw [Nat.gcd_zero_left]; omega
    ·exact Nat.le_trans (Nat.gcd_le_left _ h0) h3
   rw [cnd_dt (by omega), grd_pos (by omega), show ((i : Int)).toNat = i from by omega, l1In_s, Option.bind_some, h1', Bool.not_true, cnd_false, gcd_s hN (by omega) hx, Option.bind_some, grd_R (by omega) (by omega), succ_cast, dropE 0 hi]
   have e : (((g : Int)).natAbs) = g := by omega
   rw [e]
   refine (ih (i + 1) _ (by omega) (by omega) hle).trans ?_
   rfl
  ·rw [cnd_df (by omega), show i = v.length from by omega, List.drop_length]; rfl
theorem prim_l2 (hN : 4000000 ≤ N) {v : List Int} (hv : Sml v) (k : Int → Option (List Int)) : ∀ (fuel i : Nat) (f : Int), i ≤ v.length → v.length < fuel + i → ∃ f' : Int, S_PrimitiveVector_l2 N v k fuel (f, (i : Int)) = k f' := by
 have hl := hv.1
 intro fuel
 induction fuel with
 | zero => intro i g h1 h2; omega
 | succ fuel ih =>
  intro i f h1 h2
  rw [S_PrimitiveVector_l2]
  by_cases hi : i < v.length
  ·rw [cnd_dt (by omega)]
   cases f == (0 : Int) with
   | true =>
    rw [cnd_true, grd_pos (by omega), grd_R (by omega) (by omega), succ_cast]
    exact ih (i + 1) _ (by omega) (by omega)
   | false =>
    rw [cnd_false, grd_R (by omega) (by omega), succ_cast]
    exact ih (i + 1) _ (by omega) (by omega)
  ·rw [cnd_df (by omega)]; exact ⟨f, rfl⟩
theorem prim_l1 (hN : 4000000 ≤ N) {v : List Int} (hv : Sml v) {g : Int} (hg : g ≠ 0) (k : List Int → Option (List Int)) : ∀ (fuel i : Nat) (L : List Int), i ≤ v.length → v.length < fuel + i → L.length = i → S_PrimitiveVector_l1 N v g k fuel (L, (i : Int)) = k (L ++ (v.drop i).map fun x => Int.tdiv x g) := by
 have hl := hv.1
 intro fuel
 induction fuel with
 | zero => intro i g h1 h2; omega
 | succ fuel ih =>
  intro i L h1 h2 h3
  rw [S_PrimitiveVector_l1]
  by_cases hi : i < v.length
  ·have hx := hv.at i
   have hq : Rg64 (Int.tdiv (v.getD i 0) g) := by
    have h5 := Int.natAbs_tdiv (v.getD i 0) g
    have h6 := Nat.div_le_self (v.getD i 0).natAbs g.natAbs
    have h7 : (Int.tdiv (v.getD i 0) g).natAbs = (v.getD i 0).natAbs / g.natAbs := h5
    constructor <;> omega
   rw [cnd_dt (by omega), grd_pos (by omega), show ((i : Int)).toNat = i from by omega, grd_pos ⟨hg, hq⟩, grd_pos (by omega), grd_R (by omega) (by omega), succ_cast, dropE 0 hi]
   refine (ih (i + 1) _ (by omega) (by omega) (by rw [List.length_append, List.length_singleton]; omega)).trans ?_
   rw [List.map_cons, List.append_assoc]; rfl
  ·rw [cnd_df (by omega), show i = v.length from by omega, List.drop_length, List.map_nil, List.append_nil]
def Prm (w : List Int) : Prop := (∀ x ∈ w, x = 0) ∨ ∀ d : Nat, (∀ x ∈ w, d ∣ x.natAbs) → d = 1
theorem prim_s (hN : 4000000 ≤ N) {v : List Int} (hv : Sml v) : ∃ (w : List Int) (u : Int), S_l9Clean N v = some w ∧ w.length = v.length ∧ u ≠ 0 ∧ (∀ i, v.getD i 0 = u * w.getD i 0) ∧ Prm w := by
 have hl := hv.1
 unfold S_l9Clean S_PrimitiveVector
 have h3 := prim_l3 hN hv (fun (g9 : Int) =>
    cnd (g9 == (0 : Int)) (
     grd (v.length ≤ 4294967296) <|
     some (([] : List Int) ++ v)) (
     S_PrimitiveVector_l2 N v (fun (first12 : Int) =>
        jn (fun (g13 : Int) =>
           S_PrimitiveVector_l1 N v g13 (fun (l16 : List Int) =>
              some l16) N (([] : List Int), (0 : Int))) fun k20 =>
         cnd (decide (first12 < (0 : Int))) (
          grd (Rg64 (-g9)) <|
          k20 (-g9)) (
          k20 g9)) N ((0 : Int), (0 : Int)))) N 0 0 (by omega) (by omega) (by omega)
 rw [List.drop_zero] at h3
 rw [show S_PrimitiveVector_l3 N v _ N ((0 : Int), (0 : Int)) = _ from h3]
 have hgd : ∀ x ∈ v, gcdF 0 v ∣ x.natAbs := (gcdF_dvd.1 (Nat.dvd_refl (gcdF 0 v))).2
 have hgl : gcdF 0 v ≤ 1000000000 := gcdF_le (by omega) fun x hx => by have := hv.2 x hx; omega
 by_cases h0 : gcdF 0 v = 0
 ·have hz : ∀ x ∈ v, x = 0 := fun x hx => by
   have := hgd x hx
   rw [h0, Nat.zero_dvd] at this; omega
  rw [h0]
  show ∃ (w : List Int) (u : Int), (grd (v.length ≤ 4294967296) (some (([] : List Int) ++ v))).bind _ = some w ∧ _
  rw [grd_pos (by omega), List.nil_append, Option.bind_some]
  exact ⟨v, 1, rfl, rfl, by decide, fun i => by rw [Int.one_mul], .inl hz⟩
 ·have hne : (((gcdF 0 v : Nat) : Int) == (0 : Int)) = false := by rw [beq_eq_false_iff_ne]; omega
  rw [hne, cnd_false]
  obtain ⟨f', hf⟩ := prim_l2 hN hv (fun (first12 : Int) =>
        jn (fun (g13 : Int) =>
           S_PrimitiveVector_l1 N v g13 (fun (l16 : List Int) =>
              some l16) N (([] : List Int), (0 : Int))) fun k20 =>
         cnd (decide (first12 < (0 : Int))) (
          grd (Rg64 (-((gcdF 0 v : Nat) : Int))) <|
          k20 (-((gcdF 0 v : Nat) : Int))) (
          k20 ((gcdF 0 v : Nat) : Int))) N 0 0 (by omega) (by omega)
  rw [show S_PrimitiveVector_l2 N v _ N ((0 : Int), (0 : Int)) = _ from hf, jn_def]
  have key : ∀ u : Int, (u = ((gcdF 0 v : Nat) : Int) ∨ u = -((gcdF 0 v : Nat) : Int)) → ∃ (w : List Int) (u' : Int), (S_PrimitiveVector_l1 N v u (fun (l16 : List Int) => some l16) N (([] : List Int), (0 : Int))).bind (fun v1 => some v1) = some w ∧ w.length = v.length ∧ u' ≠ 0 ∧ (∀ i, v.getD i 0 = u' * w.getD i 0) ∧ Prm w := fun u hu => by
   have hu0 : u ≠ 0 := by omega
   have h1 := prim_l1 hN hv hu0 (fun (l16 : List Int) => some l16) N 0 [] (by omega) (by omega) rfl
   rw [List.nil_append, List.drop_zero] at h1
   have hdv : ∀ x ∈ v, u ∣ x := fun x hx => by
    have := hgd x hx
    rw [← Int.natAbs_dvd_natAbs]
    have e : u.natAbs = gcdF 0 v := by omega
    rw [e]; exact this
   refine ⟨v.map fun x => Int.tdiv x u, u, by rw [show S_PrimitiveVector_l1 N v u _ N (([] : List Int), (0 : Int)) = _ from h1]; rfl, List.length_map .., hu0, fun i => ?_, .inr fun d hd => ?_⟩
   ·by_cases hi : i < v.length
    ·rw [List.getD_eq_getElem?_getD, List.getD_eq_getElem?_getD, List.getElem?_map, List.getElem?_eq_getElem hi]
     exact (Int.mul_tdiv_cancel' (hdv _ (List.getElem_mem hi))).symm
    ·rw [List.getD_eq_getElem?_getD, List.getD_eq_getElem?_getD, List.getElem?_map, List.getElem?_eq_none (by omega)]; simp
   ·have h5 : d * gcdF 0 v ∣ gcdF 0 v := gcdF_dvd.2 ⟨Nat.dvd_zero _, fun x hx => by
     have h6 := hd _ (List.mem_map.2 ⟨x, hx, rfl⟩)
     have h7 := congrArg Int.natAbs (Int.mul_tdiv_cancel' (hdv x hx))
     rw [Int.natAbs_mul] at h7
     have e : u.natAbs = gcdF 0 v := by omega
     rw [← h7, e, Nat.mul_comm d]
     exact Nat.mul_dvd_mul_left _ h6⟩
    have h8 := Nat.le_of_dvd (by omega) h5
    have h9 : d ≤ 1 := by
     apply Classical.byContradiction
     intro hc
     have : 2 * gcdF 0 v ≤ d * gcdF 0 v := Nat.mul_le_mul_right _ (by omega)
     omega
    rcases Nat.eq_zero_or_pos d with h10 | h10
    ·subst h10
     rw [Nat.zero_mul, Nat.zero_dvd] at h5; omega
    ·omega
  cases decide (f' < (0 : Int)) with
  | true =>
   rw [cnd_true, grd_R (by omega) (by omega)]
   exact key _ (.inr rfl)
  | false =>
   rw [cnd_false]
   exact key _ (.inl rfl)
theorem mul_bd3 {a b A B : Int} (h1 : -A ≤ a ∧ a ≤ A) (h2 : -B ≤ b ∧ b ≤ B) : -(A * B) ≤ a * b ∧ a * b ≤ A * B := by
 have hA : 0 ≤ A := by omega
 have hB : 0 ≤ B := by omega
 have k1 : 0 ≤ (A - a) * (B - b) := Int.mul_nonneg (by omega) (by omega)
 have k2 : 0 ≤ (A + a) * (B + b) := Int.mul_nonneg (by omega) (by omega)
 have k3 : 0 ≤ (A - a) * (B + b) := Int.mul_nonneg (by omega) (by omega)
 have k4 : 0 ≤ (A + a) * (B - b) := Int.mul_nonneg (by omega) (by omega)
 have e1 : (A - a) * (B - b) = A * B - A * b - a * B + a * b := by grind
 have e2 : (A + a) * (B + b) = A * B + A * b + a * B + a * b := by grind
 have e3 : (A - a) * (B + b) = A * B + A * b - a * B - a * b := by grind
 have e4 : (A + a) * (B - b) = A * B - A * b + a * B - a * b := by grind
 constructor <;> omega
theorem tdiv_bd7 {x g : Int} (h : -7000 ≤ x ∧ x ≤ 7000) : -7000 ≤ Int.tdiv x g ∧ Int.tdiv x g ≤ 7000 := by
 have h5 : (Int.tdiv x g).natAbs = x.natAbs / g.natAbs := Int.natAbs_tdiv x g
 have h6 := Nat.div_le_self x.natAbs g.natAbs
 constructor <;> omega
theorem without_l (hN : 4000000 ≤ N) {a r : List Int} (hl : a.length = r.length) (hl2 : a.length ≤ 100) (ha : ∀ i, -7000 ≤ a.getD i 0 ∧ a.getD i 0 ≤ 7000) (hr : ∀ i, -7000 ≤ r.getD i 0 ∧ r.getD i 0 ≤ 7000) {j : Nat} {g : Int} (hx : -7000 ≤ Int.tdiv (r.getD j 0) g ∧ Int.tdiv (r.getD j 0) g ≤ 7000) (hy : -7000 ≤ Int.tdiv (a.getD j 0) g ∧ Int.tdiv (a.getD j 0) g ≤ 7000) (k : List Int → Option (List Int)) : ∀ (fuel i : Nat) (L : List Int), i ≤ a.length → a.length < fuel + i → L.length = i →
  S_l9Without_l1 N a r (j : Int) g k fuel (L, (i : Int)) = k (L ++ ((List.range a.length).drop i).map fun q => a.getD q 0 * Int.tdiv (r.getD j 0) g - r.getD q 0 * Int.tdiv (a.getD j 0) g) := by
 intro fuel
 induction fuel with
 | zero => intro i g h1 h2; omega
 | succ fuel ih =>
  intro i L h1 h2 h3
  rw [S_l9Without_l1]
  by_cases hi : i < a.length
  ·have p1 := mul_bd3 (ha i) hx
   have p2 := mul_bd3 (hr i) hy
   have e : (List.range a.length).drop i = i :: (List.range a.length).drop (i + 1) := by
    rw [dropE 0 (by rw [List.length_range]; exact hi)]
    congr 1
    rw [List.getD_eq_getElem?_getD, List.getElem?_range hi]; rfl
   rw [cnd_dt (by omega), grd_pos (by omega), show ((i : Int)).toNat = i from by omega, show ((j : Int)).toNat = j from by omega, grd_R (by omega) (by omega), grd_pos (by omega), grd_R (by omega) (by omega), grd_R (by omega) (by omega), grd_pos (by omega), grd_R (by omega) (by omega), succ_cast, e]
   refine (ih (i + 1) _ (by omega) (by omega) (by rw [List.length_append, List.length_singleton]; omega)).trans ?_
   rw [List.map_cons, List.append_assoc]; rfl
  ·rw [cnd_df (by omega), List.drop_of_length_le (by rw [List.length_range]; omega), List.map_nil, List.append_nil]
theorem rng_getD {l : Nat} {f : Nat → Int} {q : Nat} (hq : q < l) : ((List.range l).map f).getD q 0 = f q := by
 rw [List.getD_eq_getElem?_getD, List.getElem?_map, List.getElem?_range hq]; rfl
theorem without_s (hN : 4000000 ≤ N) {a r : List Int} (hl : a.length = r.length) (hl2 : a.length ≤ 100) (ha : ∀ i, -7000 ≤ a.getD i 0 ∧ a.getD i 0 ≤ 7000) (hr : ∀ i, -7000 ≤ r.getD i 0 ∧ r.getD i 0 ≤ 7000) {j : Nat} (hj : j < a.length) (hrj : r.getD j 0 ≠ 0) :
  ∃ (w : List Int) (z : Int), S_l9Without N a r (j : Int) = some w ∧ w.length = a.length ∧ z ≠ 0 ∧ (∀ q, q < a.length → a.getD q 0 * r.getD j 0 - r.getD q 0 * a.getD j 0 = z * w.getD q 0) ∧ Prm w := by
 have haj := ha j
 have hrj' := hr j
 obtain ⟨g, hg⟩ : ∃ g : Nat, Nat.gcd (a.getD j 0).natAbs (r.getD j 0).natAbs = g := ⟨_, rfl⟩
 have hg0 : 0 < g := by rw [← hg]; exact Nat.gcd_pos_of_pos_right _ (by omega)
 have hga : (g : Int) ∣ a.getD j 0 := by rw [← Int.natAbs_dvd_natAbs]; show g ∣ _; rw [← hg]; exact Nat.gcd_dvd_left _ _
 have hgr : (g : Int) ∣ r.getD j 0 := by rw [← Int.natAbs_dvd_natAbs]; show g ∣ _; rw [← hg]; exact Nat.gcd_dvd_right _ _
 have ex := Int.mul_tdiv_cancel' hgr
 have ey := Int.mul_tdiv_cancel' hga
 have bx := tdiv_bd7 (x := r.getD j 0) (g := (g : Int)) hrj'
 have by' := tdiv_bd7 (x := a.getD j 0) (g := (g : Int)) haj
 unfold S_l9Without
 rw [grd_pos (by omega), grd_pos (by omega), show ((j : Int)).toNat = j from by omega, gcd_s hN (by omega) (by omega), Option.bind_some, hg, grd_pos ⟨by omega, by omega, by omega⟩, grd_pos ⟨by omega, by omega, by omega⟩]
 rw [show S_l9Without_l1 N a r (j : Int) (g : Int) _ N (([] : List Int), (0 : Int)) = _ from without_l hN hl hl2 (fun i => by have := ha i; omega) (fun i => by have := hr i; omega) (by omega) (by omega) (fun (l4 : List Int) => (S_l9Clean N l4).bind fun v5 => some v5) N 0 [] (by omega) (by omega) rfl]
 rw [List.nil_append, List.drop_zero]
 have hs : Sml ((List.range a.length).map fun q => a.getD q 0 * Int.tdiv (r.getD j 0) (g : Int) - r.getD q 0 * Int.tdiv (a.getD j 0) (g : Int)) := by
  refine ⟨by rw [List.length_map, List.length_range]; exact hl2, fun x hx => ?_⟩
  obtain ⟨q, hq, rfl⟩ := List.mem_map.1 hx
  have p1 := mul_bd3 (ha q) bx
  have p2 := mul_bd3 (hr q) by'
  omega
 obtain ⟨w, u, w1, w2, w3, w4, w5⟩ := prim_s hN hs
 rw [List.length_map, List.length_range] at w2
 refine ⟨w, (g : Int) * u, by rw [w1]; rfl, w2, Int.mul_ne_zero (by omega) w3, fun q hq => ?_, w5⟩
 have h1 := w4 q
 rw [rng_getD hq] at h1
 rw [Int.mul_assoc, ← h1]
 generalize Int.tdiv (r.getD j 0) (g : Int) = x at *
 generalize Int.tdiv (a.getD j 0) (g : Int) = y at *
 rw [← ex, ← ey]
 grind
end Go.Proofs.Ytkklfgcelmeccaa
namespace Go.Proofs.Ytkklfgcelmeccaa
variable {N : Nat}
def at2 (A : List (List Int)) (i q : Nat) : Int := (A.getD i []).getD q 0
def det2 (x y : Nat → Int) (p q : Nat) : Int := x p * y q - x q * y p
def det3 (x y z : Nat → Int) (p q r : Nat) : Int := x p * det2 y z q r - x q * det2 y z p r + x r * det2 y z p q
def det4 (x y z w : Nat → Int) (p q r s : Nat) : Int := x p * det3 y z w q r s - x q * det3 y z w p r s + x r * det3 y z w p q s - x s * det3 y z w p q r
theorem det2_bd {x y : Nat → Int} {p q : Nat} (hx : ∀ q, -4 ≤ x q ∧ x q ≤ 4) (hy : ∀ q, -4 ≤ y q ∧ y q ≤ 4) : -32 ≤ det2 x y p q ∧ det2 x y p q ≤ 32 := by
 have h1 := mul_bd3 (hx p) (hy q)
 have h2 := mul_bd3 (hx q) (hy p)
 unfold det2; omega
theorem det3_bd {x y z : Nat → Int} {p q r : Nat} (hx : ∀ q, -4 ≤ x q ∧ x q ≤ 4) (hy : ∀ q, -4 ≤ y q ∧ y q ≤ 4) (hz : ∀ q, -4 ≤ z q ∧ z q ≤ 4) : -384 ≤ det3 x y z p q r ∧ det3 x y z p q r ≤ 384 := by
 have h1 := mul_bd3 (hx p) (det2_bd (p := q) (q := r) hy hz)
 have h2 := mul_bd3 (hx q) (det2_bd (p := p) (q := r) hy hz)
 have h3 := mul_bd3 (hx r) (det2_bd (p := p) (q := q) hy hz)
 unfold det3; omega
theorem det4_bd {x y z w : Nat → Int} {p q r s : Nat} (hx : ∀ q, -4 ≤ x q ∧ x q ≤ 4) (hy : ∀ q, -4 ≤ y q ∧ y q ≤ 4) (hz : ∀ q, -4 ≤ z q ∧ z q ≤ 4) (hw : ∀ q, -4 ≤ w q ∧ w q ≤ 4) : -6144 ≤ det4 x y z w p q r s ∧ det4 x y z w p q r s ≤ 6144 := by
 have h1 := mul_bd3 (hx p) (det3_bd (p := q) (q := r) (r := s) hy hz hw)
 have h2 := mul_bd3 (hx q) (det3_bd (p := p) (q := r) (r := s) hy hz hw)
 have h3 := mul_bd3 (hx r) (det3_bd (p := p) (q := q) (r := s) hy hz hw)
 have h4 := mul_bd3 (hx s) (det3_bd (p := p) (q := q) (r := r) hy hz hw)
 unfold det4; omega
theorem d2_12 (x y : Nat → Int) (p c q : Nat) : det2 x y p c * x q - x c * det2 x y p q = x p * det2 x y q c := by unfold det2; grind
theorem d2_23 (x y z : Nat → Int) (p c q : Nat) : det2 x y p c * det2 x z p q - det2 x z p c * det2 x y p q = x p * det3 x y z p c q := by unfold det3 det2; grind
theorem d3_0 (x y z : Nat → Int) (p q c t : Nat) : det3 x y z p q c * det2 x y t q - det2 x y c q * det3 x y z p q t = det2 x y p q * det3 x y z t q c := by unfold det3 det2; grind
theorem d3_1 (x y z : Nat → Int) (p q c t : Nat) : det3 x y z p q c * det2 x y p t - det2 x y p c * det3 x y z p q t = det2 x y p q * det3 x y z p t c := by unfold det3 det2; grind
theorem d3_4 (x y z w : Nat → Int) (p q c t : Nat) : det3 x y z p q c * det3 x y w p q t - det3 x y w p q c * det3 x y z p q t = det2 x y p q * det4 x y z w p q c t := by unfold det4 det3 det2; grind
def Bar (R C : Nat) (b : Nat → Nat → Int) (k c0 c1 c2 : Nat) (last : Int) (a : Nat → Nat → Int) : Prop :=
 match k with
 | 0 => last = 1 ∧ ∀ i q, i < R → q < C → a i q = b i q
 | 1 => last = b 0 c0 ∧ ∀ i q, i < R → q < C → a i q = if i = 0 then b 0 q else det2 (b 0) (b i) c0 q
 | 2 => last = det2 (b 0) (b 1) c0 c1 ∧ ∀ i q, i < R → q < C → a i q = if i = 0 then det2 (b 0) (b 1) q c1 else if i = 1 then det2 (b 0) (b 1) c0 q else det3 (b 0) (b 1) (b i) c0 c1 q
 | 3 => last = det3 (b 0) (b 1) (b 2) c0 c1 c2 ∧ ∀ i q, i < R → q < C → a i q = if i = 0 then det3 (b 0) (b 1) (b 2) q c1 c2 else if i = 1 then det3 (b 0) (b 1) (b 2) c0 q c2 else if i = 2 then det3 (b 0) (b 1) (b 2) c0 c1 q else det4 (b 0) (b 1) (b 2) (b i) c0 c1 c2 q
 | _ => True
def Sm4 (b : Nat → Nat → Int) : Prop := ∀ i q, -4 ≤ b i q ∧ b i q ≤ 4
theorem Bar.bd {R C : Nat} {b : Nat → Nat → Int} (hb : Sm4 b) {k c0 c1 c2 : Nat} {last : Int} {a : Nat → Nat → Int} (h : Bar R C b k c0 c1 c2 last a) (hk : k ≤ 3) {i q : Nat} (hi : i < R) (hq : q < C) : -6144 ≤ a i q ∧ a i q ≤ 6144 := by
 match k, hk, h with
 | 0, _, h => rw [h.2 i q hi hq]; have := hb i q; omega
 | 1, _, h =>
  rw [h.2 i q hi hq]
  split
  ·have := hb 0 q; omega
  ·have := det2_bd (p := c0) (q := q) (hb 0) (hb i); omega
 | 2, _, h =>
  rw [h.2 i q hi hq]
  split
  ·have := det2_bd (p := q) (q := c1) (hb 0) (hb 1); omega
  ·split
   ·have := det2_bd (p := c0) (q := q) (hb 0) (hb 1); omega
   ·have := det3_bd (p := c0) (q := c1) (r := q) (hb 0) (hb 1) (hb i); omega
 | 3, _, h =>
  rw [h.2 i q hi hq]
  split
  ·have := det3_bd (p := q) (q := c1) (r := c2) (hb 0) (hb 1) (hb 2); omega
  ·split
   ·have := det3_bd (p := c0) (q := q) (r := c2) (hb 0) (hb 1) (hb 2); omega
   ·split
    ·have := det3_bd (p := c0) (q := c1) (r := q) (hb 0) (hb 1) (hb 2); omega
    ·have := det4_bd (p := c0) (q := c1) (r := c2) (s := q) (hb 0) (hb 1) (hb 2) (hb i); omega
def Ord (C k c0 c1 c2 c : Nat) : Prop := (1 ≤ k → c0 < c) ∧ (2 ≤ k → c0 < c1 ∧ c1 < c) ∧ (3 ≤ k → c1 < c2 ∧ c2 < c) ∧ c < C ∧ C ≤ 4
theorem d3_pp (x y z : Nat → Int) (p r : Nat) : det3 x y z p p r = 0 := by unfold det3 det2; grind
theorem d3_pqp (x y z : Nat → Int) (p q : Nat) : det3 x y z p q p = 0 := by unfold det3 det2; grind
theorem d3_pqq (x y z : Nat → Int) (p q : Nat) : det3 x y z p q q = 0 := by unfold det3 det2; grind
theorem d4_a (x y z w : Nat → Int) (p q r : Nat) : det4 x y z w p q r p = 0 := by unfold det4 det3 det2; grind
theorem d4_b (x y z w : Nat → Int) (p q r : Nat) : det4 x y z w p q r q = 0 := by unfold det4 det3 det2; grind
theorem d4_c (x y z w : Nat → Int) (p q r : Nat) : det4 x y z w p q r r = 0 := by unfold det4 det3 det2; grind
theorem n10 : ¬ ((1 : Nat) = 0) := by decide
theorem n20 : ¬ ((2 : Nat) = 0) := by decide
theorem n21 : ¬ ((2 : Nat) = 1) := by decide
theorem n30 : ¬ ((3 : Nat) = 0) := by decide
theorem n31 : ¬ ((3 : Nat) = 1) := by decide
theorem n32 : ¬ ((3 : Nat) = 2) := by decide
theorem Bar.step {R C : Nat} {b : Nat → Nat → Int} {k c0 c1 c2 c : Nat} {last : Int} {a : Nat → Nat → Int} (h : Bar R C b k c0 c1 c2 last a) (hk : k ≤ 3) (hkR : k < R) (ho : Ord C k c0 c1 c2 c) :
  ∃ (a' : Nat → Nat → Int) (d0 d1 d2 : Nat), (∀ i q, i < R → q < C → i ≠ k → a k c * a i q - a i c * a k q = last * a' i q) ∧ (∀ q, q < C → a' k q = a k q) ∧ Bar R C b (k + 1) d0 d1 d2 (a k c) a' ∧
   ((1 ≤ k → d0 = c0) ∧ (k = 0 → d0 = c) ∧ (2 ≤ k → d1 = c1) ∧ (k = 1 → d1 = c) ∧ (3 ≤ k → d2 = c2) ∧ (k = 2 → d2 = c)) := by
 obtain ⟨o1, o2, o3, o4, o5⟩ := ho
 match k, hk, h with
 | 0, _, h =>
  obtain ⟨h1, h2⟩ := h
  refine ⟨fun i q => if i = 0 then b 0 q else det2 (b 0) (b i) c q, c, 0, 0, fun i q hi hq hne => ?_, fun q hq => ?_, ⟨?_, fun i q hi hq => rfl⟩, by omega⟩
  ·dsimp only
   rw [h2 0 c hkR o4, h2 i q hi hq, h2 i c hi o4, h2 0 q hkR hq, h1, if_neg hne]
   unfold det2; grind
  ·dsimp only; rw [if_pos rfl, h2 0 q hkR hq]
  ·rw [h2 0 c hkR o4]
 | 1, _, h =>
  obtain ⟨h1, h2⟩ := h
  have o1 := o1 (by omega)
  refine ⟨fun i q => if i = 0 then det2 (b 0) (b 1) q c else if i = 1 then det2 (b 0) (b 1) c0 q else det3 (b 0) (b 1) (b i) c0 c q, c0, c, 0, fun i q hi hq hne => ?_, fun q hq => ?_, ⟨?_, fun i q hi hq => rfl⟩, by omega⟩
  ·dsimp only
   rw [h2 1 c hkR o4, h2 i q hi hq, h2 i c hi o4, h2 1 q hkR hq, h1]
   simp only [if_neg n10]
   by_cases hi0 : i = 0
   ·simp only [if_pos hi0]; exact d2_12 _ _ _ _ _
   ·simp only [if_neg hi0, if_neg hne]; exact d2_23 _ _ _ _ _ _
  ·dsimp only; rw [h2 1 q hkR hq]; simp only [if_neg n10, if_true]
  ·rw [h2 1 c hkR o4]; simp only [if_neg n10]
 | 2, _, h =>
  obtain ⟨h1, h2⟩ := h
  refine ⟨fun i q => if i = 0 then det3 (b 0) (b 1) (b 2) q c1 c else if i = 1 then det3 (b 0) (b 1) (b 2) c0 q c else if i = 2 then det3 (b 0) (b 1) (b 2) c0 c1 q else det4 (b 0) (b 1) (b 2) (b i) c0 c1 c q, c0, c1, c, fun i q hi hq hne => ?_, fun q hq => ?_, ⟨?_, fun i q hi hq => rfl⟩, by omega⟩
  ·dsimp only
   rw [h2 2 c hkR o4, h2 i q hi hq, h2 i c hi o4, h2 2 q hkR hq, h1]
   simp only [if_neg n20, if_neg n21]
   by_cases hi0 : i = 0
   ·simp only [if_pos hi0]; exact d3_0 _ _ _ _ _ _ _
   ·simp only [if_neg hi0]
    by_cases hi1 : i = 1
    ·simp only [if_pos hi1]; exact d3_1 _ _ _ _ _ _ _
    ·simp only [if_neg hi1, if_neg hne]; exact d3_4 _ _ _ _ _ _ _ _
  ·dsimp only; rw [h2 2 q hkR hq]; simp only [if_neg n20, if_neg n21, if_true]
  ·rw [h2 2 c hkR o4]; simp only [if_neg n20, if_neg n21]
 | 3, _, h =>
  obtain ⟨h1, h2⟩ := h
  have p0 := o1 (by omega)
  have p1 := o2 (by omega)
  have p2 := o3 (by omega)
  clear o1 o2 o3
  have q3 : c = 3 := by omega
  have q2 : c2 = 2 := by omega
  have q1 : c1 = 1 := by omega
  have q0 : c0 = 0 := by omega
  have hC : C = 4 := by omega
  subst q0 q1 q2 q3
  clear p0 p1 p2
  refine ⟨fun i q => if i = 3 then a 3 q else if i = q then a 3 3 else 0, 0, 1, 2, fun i q hi hq hne => ?_, fun q hq => ?_, trivial, by omega⟩
  ·dsimp only
   rw [if_neg hne]
   have z3 : q ≠ 3 → a 3 q = 0 := fun hq3 => by
    rw [h2 3 q hkR hq]
    simp only [if_neg n30, if_neg n31, if_neg n32]
    obtain h | h | h : q = 0 ∨ q = 1 ∨ q = 2 := by omega
    all_goals (subst h; first | rw [d4_a] | rw [d4_b] | rw [d4_c])
   by_cases hq3 : q = 3
   ·subst hq3
    rw [if_neg hne, Int.mul_zero]; grind
   ·rw [z3 hq3, Int.mul_zero, Int.sub_zero]
    by_cases hiq : i = q
    ·subst hiq
     rw [if_pos rfl, h1, h2 i i hi hq]
     obtain h | h | h : i = 0 ∨ i = 1 ∨ i = 2 := by omega
     ·subst h; simp only [if_true]; exact Int.mul_comm _ _
     ·subst h; simp only [if_neg n10, if_true]; exact Int.mul_comm _ _
     ·subst h; simp only [if_neg n20, if_neg n21, if_true]; exact Int.mul_comm _ _
    ·rw [if_neg hiq, Int.mul_zero]
     have z : a i q = 0 := by
      rw [h2 i q hi hq]
      by_cases i0 : i = 0
      ·simp only [if_pos i0]
       obtain h | h : q = 1 ∨ q = 2 := by omega
       ·subst h; rw [d3_pp]
       ·subst h; rw [d3_pqp]
      ·by_cases i1 : i = 1
       ·simp only [if_neg i0, if_pos i1]
        obtain h | h : q = 0 ∨ q = 2 := by omega
        ·subst h; rw [d3_pp]
        ·subst h; rw [d3_pqq]
       ·by_cases i2 : i = 2
        ·simp only [if_neg i0, if_neg i1, if_pos i2]
         obtain h | h : q = 0 ∨ q = 1 := by omega
         ·subst h; rw [d3_pqp]
         ·subst h; rw [d3_pqq]
        ·simp only [if_neg i0, if_neg i1, if_neg i2]
         obtain h | h | h : q = 0 ∨ q = 1 ∨ q = 2 := by omega
         all_goals (subst h; first | rw [d4_a] | rw [d4_b] | rw [d4_c])
     rw [z, Int.mul_zero]
  ·dsimp only; rw [if_pos rfl]
theorem Bar.swap {R C : Nat} {b : Nat → Nat → Int} {k c0 c1 c2 : Nat} {last : Int} {a : Nat → Nat → Int} (h : Bar R C b k c0 c1 c2 last a) {p : Nat} (hkp : k ≤ p) (hp : p < R) :
  Bar R C (fun i => if i = k then b p else if i = p then b k else b i) k c0 c1 c2 last (fun i => if i = k then a p else if i = p then a k else a i) := by
 match k, h with
 | 0, h =>
  refine ⟨h.1, fun i q hi hq => ?_⟩
  dsimp only
  by_cases hk : i = 0
  ·simp only [if_pos hk]; rw [h.2 p q hp hq]
  ·simp only [if_neg hk]
   by_cases hip : i = p
   ·simp only [if_pos hip]; rw [h.2 0 q (by omega) hq]
   ·simp only [if_neg hip]; rw [h.2 i q hi hq]
 | 1, h =>
  have e0 : (if (0 : Nat) = 1 then b p else if 0 = p then b 1 else b 0) = b 0 := by rw [if_neg (show ¬ ((0 : Nat) = 1) by decide), if_neg (show ¬ (0 = p) by omega)]
  refine ⟨by rw [h.1]; dsimp only; rw [e0], fun i q hi hq => ?_⟩
  dsimp only
  rw [e0]
  by_cases hk : i = 1
  ·simp only [if_pos hk, if_neg (show ¬ (i = 0) by omega)]; rw [h.2 p q hp hq]; simp only [if_neg (show ¬ (p = 0) by omega)]
  ·simp only [if_neg hk]
   by_cases hip : i = p
   ·simp only [if_pos hip, if_neg (show ¬ (i = 0) by omega)]; rw [h.2 1 q (by omega) hq]; simp only [if_neg (show ¬ ((1 : Nat) = 0) by decide)]
   ·simp only [if_neg hip]; rw [h.2 i q hi hq]
 | 2, h =>
  have e0 : (if (0 : Nat) = 2 then b p else if 0 = p then b 2 else b 0) = b 0 := by rw [if_neg (show ¬ ((0 : Nat) = 2) by decide), if_neg (show ¬ (0 = p) by omega)]
  have e1 : (if (1 : Nat) = 2 then b p else if 1 = p then b 2 else b 1) = b 1 := by rw [if_neg (show ¬ ((1 : Nat) = 2) by decide), if_neg (show ¬ (1 = p) by omega)]
  refine ⟨by rw [h.1]; dsimp only; rw [e0, e1], fun i q hi hq => ?_⟩
  dsimp only
  rw [e0, e1]
  by_cases hk : i = 2
  ·simp only [if_pos hk, if_neg (show ¬ (i = 0) by omega), if_neg (show ¬ (i = 1) by omega)]; rw [h.2 p q hp hq]; simp only [if_neg (show ¬ (p = 0) by omega), if_neg (show ¬ (p = 1) by omega)]
  ·simp only [if_neg hk]
   by_cases hip : i = p
   ·simp only [if_pos hip, if_neg (show ¬ (i = 0) by omega), if_neg (show ¬ (i = 1) by omega)]; rw [h.2 2 q (by omega) hq]; simp only [if_neg (show ¬ ((2 : Nat) = 0) by decide), if_neg (show ¬ ((2 : Nat) = 1) by decide)]
   ·simp only [if_neg hip]; rw [h.2 i q hi hq]
 | 3, h =>
  have e0 : (if (0 : Nat) = 3 then b p else if 0 = p then b 3 else b 0) = b 0 := by rw [if_neg (show ¬ ((0 : Nat) = 3) by decide), if_neg (show ¬ (0 = p) by omega)]
  have e1 : (if (1 : Nat) = 3 then b p else if 1 = p then b 3 else b 1) = b 1 := by rw [if_neg (show ¬ ((1 : Nat) = 3) by decide), if_neg (show ¬ (1 = p) by omega)]
  have e2 : (if (2 : Nat) = 3 then b p else if 2 = p then b 3 else b 2) = b 2 := by rw [if_neg (show ¬ ((2 : Nat) = 3) by decide), if_neg (show ¬ (2 = p) by omega)]
  refine ⟨by rw [h.1]; dsimp only; rw [e0, e1, e2], fun i q hi hq => ?_⟩
  dsimp only
  rw [e0, e1, e2]
  by_cases hk : i = 3
  ·simp only [if_pos hk, if_neg (show ¬ (i = 0) by omega), if_neg (show ¬ (i = 1) by omega), if_neg (show ¬ (i = 2) by omega)]; rw [h.2 p q hp hq]; simp only [if_neg (show ¬ (p = 0) by omega), if_neg (show ¬ (p = 1) by omega), if_neg (show ¬ (p = 2) by omega)]
  ·simp only [if_neg hk]
   by_cases hip : i = p
   ·simp only [if_pos hip, if_neg (show ¬ (i = 0) by omega), if_neg (show ¬ (i = 1) by omega), if_neg (show ¬ (i = 2) by omega)]; rw [h.2 3 q (by omega) hq]; simp only [if_neg (show ¬ ((3 : Nat) = 0) by decide), if_neg (show ¬ ((3 : Nat) = 1) by decide), if_neg (show ¬ ((3 : Nat) = 2) by decide)]
   ·simp only [if_neg hip]; rw [h.2 i q hi hq]
 | k + 4, h => exact trivial
theorem Bar.ext {R C : Nat} {b : Nat → Nat → Int} {k c0 c1 c2 : Nat} {last : Int} {a a2 : Nat → Nat → Int} (h : Bar R C b k c0 c1 c2 last a) (he : ∀ i q, i < R → q < C → a2 i q = a i q) : Bar R C b k c0 c1 c2 last a2 := by
 match k, h with
 | 0, h => exact ⟨h.1, fun i q hi hq => by rw [he i q hi hq]; exact h.2 i q hi hq⟩
 | 1, h => exact ⟨h.1, fun i q hi hq => by rw [he i q hi hq]; exact h.2 i q hi hq⟩
 | 2, h => exact ⟨h.1, fun i q hi hq => by rw [he i q hi hq]; exact h.2 i q hi hq⟩
 | 3, h => exact ⟨h.1, fun i q hi hq => by rw [he i q hi hq]; exact h.2 i q hi hq⟩
 | k + 4, h => exact trivial
theorem mult_of {C : Nat} {W : List Int} (hW : W.length = C) (hP : Prm W) {x : Nat → Int} {last w : Int} (hl : last ≠ 0) (hw : w ≠ 0) (h : ∀ q, q < C → last * x q = w * W.getD q 0) : ∃ u : Int, u ≠ 0 ∧ ∀ q, q < C → x q = u * W.getD q 0 := by
 rcases hP with hz | hp
 ·refine ⟨1, by decide, fun q hq => ?_⟩
  have e : W.getD q 0 = 0 := hz _ (memE 0 (by omega))
  have h1 := h q hq
  rw [e, Int.mul_zero] at h1
  rw [e, Int.mul_zero]
  exact (Int.mul_eq_zero.1 h1).resolve_left hl
 ·have hg : 0 < Nat.gcd last.natAbs w.natAbs := Nat.gcd_pos_of_pos_left _ (by omega)
  have h1 : last.natAbs / Nat.gcd last.natAbs w.natAbs = 1 := by
   refine hp _ fun y hy => ?_
   obtain ⟨q, hq, rfl⟩ := List.mem_iff_getElem.1 hy
   have h2 := h q (by omega)
   have e : W.getD q 0 = W[q] := by rw [List.getD_eq_getElem?_getD, List.getElem?_eq_getElem hq]; rfl
   rw [e] at h2
   have h3 : last.natAbs ∣ w.natAbs * (W[q]).natAbs := by
    rw [← Int.natAbs_mul, ← h2, Int.natAbs_mul]; exact Nat.dvd_mul_right _ _
   have hc := Nat.coprime_div_gcd_div_gcd hg
   have h4 : last.natAbs / Nat.gcd last.natAbs w.natAbs ∣ w.natAbs / Nat.gcd last.natAbs w.natAbs * (W[q]).natAbs := by
    obtain ⟨c, hcc⟩ := h3
    refine ⟨c, ?_⟩
    have a1 := Nat.div_mul_cancel (Nat.gcd_dvd_left last.natAbs w.natAbs)
    have a2 := Nat.div_mul_cancel (Nat.gcd_dvd_right last.natAbs w.natAbs)
    refine Nat.eq_of_mul_eq_mul_right hg ?_
    calc w.natAbs / Nat.gcd last.natAbs w.natAbs * (W[q]).natAbs * Nat.gcd last.natAbs w.natAbs = (w.natAbs / Nat.gcd last.natAbs w.natAbs * Nat.gcd last.natAbs w.natAbs) * (W[q]).natAbs := by rw [Nat.mul_assoc, Nat.mul_comm (W[q]).natAbs, ← Nat.mul_assoc]
     _ = last.natAbs * c := by rw [a2, hcc]
     _ = last.natAbs / Nat.gcd last.natAbs w.natAbs * c * Nat.gcd last.natAbs w.natAbs := by rw [Nat.mul_assoc, Nat.mul_comm c, ← Nat.mul_assoc, a1]
   exact hc.dvd_of_dvd_mul_left h4
  have h5 : last ∣ w := by
   rw [← Int.natAbs_dvd_natAbs]
   have a1 := Nat.div_mul_cancel (Nat.gcd_dvd_left last.natAbs w.natAbs)
   rw [h1, Nat.one_mul] at a1
   rw [← a1]
   exact Nat.gcd_dvd_right _ _
  obtain ⟨u, rfl⟩ := h5
  refine ⟨u, fun e => hw (by rw [e, Int.mul_zero]), fun q hq => ?_⟩
  have h2 := h q hq
  rw [Int.mul_assoc] at h2
  exact Int.eq_of_mul_eq_mul_left hl h2
theorem mult_bd {u s x : Int} (hu : u ≠ 0) (h : x = u * s) {B : Int} (hx : -B ≤ x ∧ x ≤ B) : -B ≤ s ∧ s ≤ B := by
 have h1 : x.natAbs = u.natAbs * s.natAbs := by rw [h, Int.natAbs_mul]
 have h2 : 1 * s.natAbs ≤ u.natAbs * s.natAbs := Nat.mul_le_mul_right _ (by omega)
 omega
end Go.Proofs.Ytkklfgcelmeccaa
