/- make, append, a row given away, calls, and what a function is called for. No program in sight. -/
import Derived.Test.YtlmlfbjcpajinaaVj
namespace Go.Proofs.Ytlmlfbjcpajinaa
open Go.RowKit Go.Deep
set_option linter.unusedSimpArgs false
set_option linter.unusedVariables false

theorem Sq.take_len (q : Sq) : q.take q.len = q := by cases q <;> simp [Sq.take, Sq.len]
theorem Sq.zeros_ok (k : Sq) (n : Nat) : (k.zeros n).len = n ∧ (k.zeros n).sz = k.sz := by cases k <;> simp [Sq.zeros, Sq.len, Sq.sz]
theorem Sq.zeros_elem (k : Sq) (n i : Nat) (h : i < n) {M : Mp} {A : Bool → Nat → Prop} {w : World} {j : Nat} {d : D} (hd : ((k.zeros n).elem true i)[j]? = some d) : VR M A w d (k.zero1.toArray.getD j undef) := by
  have nilr : ∀ q : Sq, q.len = 0 → VR M A w (.ro true q) (.slice none 0 0) := fun q hq => by
    have := VR.ro (M := M) (A := A) (w := w) true q none 0 0 0 (fun _ _ => undef) (by omega) (by omega) (by omega) (by intro i j d hi; omega) (by intro i j d hi; omega)
    rwa [hq] at this
  cases k <;> simp only [Sq.zeros, Sq.elem, List.getD_eq_getElem?_getD, List.getElem?_replicate, h, if_true, Option.getD_some] at hd <;> rcases j with _ | _ | j <;> simp at hd <;> subst hd <;> simp [Sq.zero1] <;>
    first | exact .int _ | exact .bool _ | exact .val _ rfl | exact nilr _ rfl

section
variable {C : Cx} {ops : Array Oper} {K : PS → Prop} {o : Oper} {rest : List Oper} {s s' : PS} {TT : List (Nat × Ty)}
theorem sMake (hT : TTOK C.P TT) {t e : TypeId} {k : Sq} {by' b : Nat} {x y : Operand} {n : Int} (hop : o.op = .makeSlice t x y) (hd : o.dst = some b) (hy : look TT t = some (.sl e k by')) (hx : s.ev x = .int n) (hyy : s.ev y = .int n)
    (hb : Nat.ble by' 32 = true) (hn : Nat.blt b C.n = true) (hf : Fresh s noB (isR b)) (hob : 0 ≤ n ∧ n ≤ 4294967296) (h : K ((s.setR b (some (e, k.zeros n.toNat))).put (some b) (.row b 0 (k.zeros n.toNat).len))) : Step C o s K := ⟨fun M a w Q K' hr hk => by
  have hty := hT t _ hy
  have hty' := hty
  obtain ⟨hu, _, i, hi, hsz, hby, z, hz, hzc⟩ := hty
  have e1 := hr.ev x
  have e2 := hr.ev y
  rw [hx] at e1
  rw [hyy] at e2
  have hb' := Nat.le_of_ble_eq_true hb
  obtain ⟨m, rfl⟩ : ∃ m : Nat, n = (m : Int) := ⟨n.toNat, by omega⟩
  have hmm : m ≤ 4294967296 := by omega
  obtain ⟨w', hrun, hown, hgr⟩ := run_make_full (P := C.P) w w.heap.size t e i z k.sz hu hi hz hsz .i64 .i64 m (by rw [hby]; have := Nat.mul_le_mul hb' hmm; omega) (by unfold maxLen; omega) (Nat.le_refl _)
  have hzs : z.cells.size = k.sz := by rw [hzc]; cases k <;> rfl
  have hheap : ∃ cur, w'.heap[w.heap.size]? = some (.cells cur e (0, 0)) ∧ cur.size = m * k.sz ∧ cur.toList = (madeCells z.cells (m * k.sz)).toList := by
    rcases hown.2 with ⟨h1, _⟩ | ⟨g, cap, cur, h1, _, h2, h3, h4, h5, h6⟩
    · cases h1
    · cases h1
      refine ⟨cur, h2, h5, ?_⟩
      rw [← h6, List.take_of_length_le (by simp [h5])]
  obtain ⟨cur, g1, g2, g3⟩ := hheap
  obtain ⟨z1, z2⟩ := Sq.zeros_ok k m
  obtain ⟨M', h1, h2⟩ := hr.newRow (r := b) (m := m) (e := e) (q := k.zeros m) (cur := cur) (w' := w') z1 (by unfold maxLen; omega) (by rw [z2]; exact g2) g1 hgr.os hgr.tape hgr.output hgr.size (fun k hk => hgr.block k hk (by simp)) (fun i j d hi hd => by
    have hj : j < k.sz := by rw [← z2, ← Sq.elem_len true (k.zeros m) i]; exact (List.getElem?_eq_some_iff.1 hd).1
    have hlt : i * k.sz + j < m * k.sz := by
      have : (i + 1) * k.sz ≤ m * k.sz := Nat.mul_le_mul_right _ hi
      rw [Nat.add_mul, Nat.one_mul] at this; omega
    have hget : cur.getD (i * (k.zeros m).sz + j) undef = k.zero1.toArray.getD j undef := by
      have hc : cur = madeCells z.cells (m * k.sz) := by rw [← Array.toList_inj]; exact g3
      have hzz : k.zero1.toArray.size = k.sz := by rw [← hzc, hzs]
      rw [z2, hc, ← hzc]
      have hmod : (i * k.sz + j) % k.sz = j := by rw [Nat.mul_comm, Nat.mul_add_mod, Nat.mod_eq_of_lt hj]
      simp [madeCells, hlt, hzs, hmod, hj]
    rw [hget]
    exact Sq.zeros_elem k m i hi hd) hf
  have hrun' : (execOp a.eval o).run C.P w = .ok (.value (.slice (some ⟨w.heap.size, 0, none⟩) m m)) w' := by
    unfold execOp
    rw [hop]
    simp only [Sem.run_bind, e1.int_inv, e2.int_inv, hrun, Result.andThen_ok]
    rfl
  unfold Oper.wp
  rw [hrun']
  refine hk M' _ _ _ h ?_
  rw [hd]
  simp only [Int.toNat_natCast, z1]
  exact h1.put hn h2⟩

theorem run_app {P : Program} {w w' : World} {a : Act} {o : Oper} {x y : Operand} {t : TypeId} {v : Value} (hop : o.op = .call { callee := .builtin .append, args := #[x, y], argTypes := #[t, t] })
    (h : (Builtin.append_ #[t, t] o.type #[a.eval x, a.eval y]).run P w = .ok v w') : (execOp a.eval o).run P w = .ok (.value v) w' := by
  unfold execOp
  rw [hop]
  show ((do let d ← resolve a.eval _ o.type; invoke d.target d.args : Sem Next)).run P w = _
  simp only [resolve, List.map_toArray, List.map_cons, List.map_nil]
  show ((do pure (Next.value (← Builtin.append_ #[t, t] o.type #[a.eval x, a.eval y])) : Sem Next)).run P w = _
  rw [Sem.run_bind, h]
  rfl

/-- append onto the whole of a row -/
theorem sAppend (hT : TTOK C.P TT) {t e : TypeId} {k q q2 q' : Sq} {by' b r m : Nat} {x y : Operand} {dy : D} {ob : Prop} (hop : o.op = .call { callee := .builtin .append, args := #[x, y], argTypes := #[t, t] }) (hd : o.dst = some b) (hy : look TT t = some (.sl e k by'))
    (hx : s.ev x = .row r 0 m) (hr : s.r r = some (e, q)) (hk : Nat.beq k.sz q.sz = true) (hyy : s.ev y = dy) (hs : srcSq s dy = some (ob, q2)) (happ : q.app q2 = some q') (hb : Nat.ble by' 32 = true) (hn : Nat.blt b C.n = true)
    (hm : m = q.len) (hob : ob) (hbd : q.len + q2.len ≤ 4294967296) (h : K (((s.kill r).setR r (some (e, q'))).put (some b) (.row r 0 q'.len))) : Step C o s K := ⟨fun M a w Q K' hrl hkk => by
  have e1 := hrl.ev x
  have e2 := hrl.ev y
  rw [hx] at e1
  rw [hyy] at e2
  obtain ⟨news, hsrc⟩ := src_ok hrl e2 hs hob
  subst hm
  have hb' := Nat.le_of_ble_eq_true hb
  obtain ⟨v', w', M', h1, h2, h3⟩ := append_ok (P := C.P) (ty := o.type) hrl (hT t _ hy) (Nat.eq_of_beq_eq_true hk) hr e1 (Nat.le_refl _) hsrc (by rw [Sq.take_len]; exact happ) (by have := Nat.mul_le_mul hbd hb'; omega) (by unfold maxLen; omega)
  unfold Oper.wp
  rw [run_app hop h1]
  refine hkk M' _ _ _ h ?_
  rw [hd]
  rw [← (Sq.app_ok happ).1] at h3
  exact h2.put hn h3⟩
/-- append onto the first m of a row -/
theorem sAppendP (hT : TTOK C.P TT) {t e : TypeId} {k q q2 q' : Sq} {by' b r m : Nat} {x y : Operand} {dy : D} {ob : Prop} (hop : o.op = .call { callee := .builtin .append, args := #[x, y], argTypes := #[t, t] }) (hd : o.dst = some b) (hy : look TT t = some (.sl e k by'))
    (hx : s.ev x = .row r 0 m) (hr : s.r r = some (e, q)) (hk : Nat.beq k.sz q.sz = true) (hyy : s.ev y = dy) (hs : srcSq s dy = some (ob, q2)) (happ : (q.take m).app q2 = some q') (hb : Nat.ble by' 32 = true) (hn : Nat.blt b C.n = true)
    (hm : m ≤ q.len) (hob : ob) (hbd : m + q2.len ≤ 4294967296) (h : K (((s.kill r).setR r (some (e, q'))).put (some b) (.row r 0 q'.len))) : Step C o s K := ⟨fun M a w Q K' hrl hkk => by
  have e1 := hrl.ev x
  have e2 := hrl.ev y
  rw [hx] at e1
  rw [hyy] at e2
  obtain ⟨news, hsrc⟩ := src_ok hrl e2 hs hob
  have hb' := Nat.le_of_ble_eq_true hb
  obtain ⟨v', w', M', h1, h2, h3⟩ := append_ok (P := C.P) (ty := o.type) hrl (hT t _ hy) (Nat.eq_of_beq_eq_true hk) hr e1 hm hsrc happ (by have := Nat.mul_le_mul hbd hb'; omega) (by unfold maxLen; omega)
  unfold Oper.wp
  rw [run_app hop h1]
  refine hkk M' _ _ _ h ?_
  rw [hd]
  have hl := (Sq.app_ok happ).1
  rw [Sq.len_take, Nat.min_eq_left hm] at hl
  rw [← hl] at h3
  exact h2.put hn h3⟩

/-- a nil row, named -/
theorem Rel.nilRow {w0 : World} {O0 : Nat → Prop} {n : Nat} {M : Mp} {s : PS} {a : Act} {w : World} (h : Rel w0 O0 n M s a w) {r : Nat} {e : TypeId} {q : Sq} (hq : q.len = 0) (hf : Fresh s noB (isR r)) :
    ∃ M', Rel w0 O0 n M' (s.setR r (some (e, q))) a w ∧ VR M' (Ow (Fs w0 O0) M') w (.row r 0 0) (.slice none 0 0) := by
  let N := rowN r none
  have hNo : ∀ k, ¬ N.owned k := by
    rintro k (⟨b, hb⟩ | ⟨y, c, z, hy⟩)
    · cases hb
    · simp only [N, rowN] at hy
      split at hy <;> cases hy
  have hN : New N (Ow (Fs w0 O0) M) w w [(r, some (e, q))] := by
    refine ⟨rfl, rfl, rfl, Nat.le_refl _, fun _ _ => rfl, fun _ => rfl, fun y e' q' hy => ?_, fun y hy => ?_, fun k hk => (hNo k hk).elim, fun y y' k c z c' z' h1 h2 => (hNo k (.inr ⟨y, c, z, h1⟩)).elim⟩
    · rw [look_one] at hy
      split at hy
      · rename_i hry; cases hy; exact .inl ⟨by simp [N, rowN, hry], hq⟩
      · cases hy
    · simp only [N, rowN]
      split
      · rename_i hyr; exact absurd (by rw [look_one, if_pos hyr.symm]) (hy (e, q))
      · rfl
  have hfr : Fresh s (fun _ => false) (fun y => (look [(r, some (e, q))] y).isSome) := by
    have : (fun y => (look [(r, some (e, q))] y).isSome) = isR r := by
      funext y
      simp only [look, isR]
      cases Nat.beq r y <;> rfl
    rw [this]; exact hf
  obtain ⟨M', h1, h2⟩ := h.newRows hN (fun f k hk hA => ⟨⟨hNo k, hA.1⟩, hA.2⟩) hfr
  refine ⟨M', h1, h2 _ _ (by simp [ment, mentA, mentS, look, Nat.beq_refl]) (.row _ _ _ _ rfl fun x hx => ?_)⟩
  simp [N, rowN] at hx
  subst hx
  exact ⟨rfl, rfl, rfl⟩
/-- append onto nil -/
theorem sAppendNil (hT : TTOK C.P TT) {t e : TypeId} {k q2 q' : Sq} {by' b : Nat} {x y : Operand} {dy : D} {ob : Prop} (hop : o.op = .call { callee := .builtin .append, args := #[x, y], argTypes := #[t, t] }) (hd : o.dst = some b) (hy : look TT t = some (.sl e k by'))
    (hx : s.ev x = .nil) (hk0 : Nat.beq k.len 0 = true) (hf : Fresh s noB (isR b)) (hyy : s.ev y = dy) (hs : srcSq (s.setR b (some (e, k))) dy = some (ob, q2)) (happ : k.app q2 = some q') (hb : Nat.ble by' 32 = true) (hn : Nat.blt b C.n = true)
    (hob : ob) (hbd : q2.len ≤ 4294967296) (h : K ((((s.setR b (some (e, k))).kill b).setR b (some (e, q'))).put (some b) (.row b 0 q'.len))) : Step C o s K := ⟨fun M a w Q K' hrl hkk => by
  have e1 := hrl.ev x
  rw [hx] at e1
  have hkl := Nat.eq_of_beq_eq_true hk0
  obtain ⟨M1, hr1, hv1⟩ := hrl.nilRow (r := b) (e := e) (q := k) hkl hf
  have e2 := hr1.ev y
  have hyy' : (s.setR b (some (e, k))).ev y = dy := by rw [← hyy]; cases y <;> rfl
  rw [hyy'] at e2
  obtain ⟨news, hsrc⟩ := src_ok hr1 e2 hs hob
  have hb' := Nat.le_of_ble_eq_true hb
  have hbd' : k.len + q2.len ≤ 4294967296 := by omega
  obtain ⟨v', w', M', h1, h2, h3⟩ := append_ok (P := C.P) (ty := o.type) hr1 (hT t _ hy) rfl (r := b) (q := k) (by rw [PS.r_setR, if_pos rfl]) hv1 (Nat.zero_le _) hsrc (q' := q') (by rw [← hkl, Sq.take_len]; exact happ) (by rw [Nat.zero_add]; have := Nat.mul_le_mul hbd hb'; omega) (by unfold maxLen; omega)
  rw [← e1.nil_inv] at h1
  unfold Oper.wp
  rw [run_app hop h1]
  refine hkk M' _ _ _ h ?_
  rw [hd]
  have hl := (Sq.app_ok happ).1
  rw [hkl] at hl
  rw [← hl] at h3
  exact h2.put hn h3⟩

/-- A row given away: the slot t names it, and it is only read from here on. -/
theorem Rel.freeze {w0 : World} {O0 : Nat → Prop} {n : Nat} {M : Mp} {s : PS} {a : Act} {w : World} (h : Rel w0 O0 n M s a w) {t r m : Nat} {e : TypeId} {q : Sq} (ht : s.t t = .row r 0 m) (hr : s.r r = some (e, q)) (hm : m = q.len) :
    ∃ M', Rel w0 O0 n M' (((s.kill r).setR r none).put (some t) (.ro true q)) a w := by
  subst hm
  let M' : Mp := ⟨M.β, fun y => if y = r then none else M.γ y⟩
  have hown : ∀ k, M'.owned k → M.owned k := by
    rintro k (⟨b, hb⟩ | ⟨y, c, z, hy⟩)
    · exact .inl ⟨b, hb⟩
    · simp only [M'] at hy
      split at hy
      · cases hy
      · exact .inr ⟨y, c, z, hy⟩
  have hA : ∀ f b, b < w.heap.size → Ow (Fs w0 O0) M f b → Ow (Fs w0 O0) M' f b ∧ b < w.heap.size ∧ w.heap[b]? = w.heap[b]? := fun f b h1 h2 => ⟨⟨fun h3 => h2.1 (hown b h3), h2.2⟩, h1, rfl⟩
  have hγ : ∀ y z, y ≠ r → M'.γ y = some z → M.γ y = some z := fun y z h1 h2 => by simpa [M', h1] using h2
  have hβ : ∀ b k, M'.β b = some k → M.β b = some k := fun _ _ h => h
  have hlt : t < n ∨ n ≤ t := by omega
  have hv : VR M' (Ow (Fs w0 O0) M') w (.ro true q) (a.tmps.getD t undef) := by
    have h0 := h.tmp t
    rw [ht] at h0
    generalize a.tmps.getD t undef = v at h0 ⊢
    cases h0 with
    | row _ _ _ _ g1 g2 =>
      rcases h.row r e q hr with ⟨hg, h0⟩ | ⟨g, cap, cur, hg, hh, hl, hmx, hcs, hc⟩
      · have := g2 _ hg
        simp only [RowV] at this
        obtain ⟨rfl, _, _⟩ := this
        have := VR.ro (M := M') (A := Ow (Fs w0 O0) M') (w := w) true q none 0 0 0 (fun _ _ => undef) (by omega) (by omega) (by omega) (by intro i j d hi; omega) (by intro i j d hi; omega)
        rwa [h0] at this
      · have := g2 _ hg
        simp only [RowV] at this
        obtain ⟨h1, ao, h2, h3⟩ := this
        have h4 := h3 (.inr trivial)
        rw [Nat.zero_mul] at h4
        subst h2
        refine .ro true q ao _ g 0 (fun i j => cur.getD (i * q.sz + j) undef) (by omega) (by omega) (fun _ => ⟨h4, (Array.getElem?_eq_some_iff.1 hh).1, ?_, fun _ => ?_⟩) (fun i j d hi hd => ?_) (fun i j d hi hd => (hc i j d hi hd).elem_any hd hA)
        · rintro (⟨b, hb⟩ | ⟨y, c, z, hy⟩)
          · exact h.inj3 _ _ _ _ _ hb hg
          · simp only [M'] at hy
            split at hy
            · cases hy
            · rename_i hyr; exact hyr (h.inj2 _ _ _ _ _ _ _ hy hg)
        · exact h.low _ (.inr ⟨r, _, _, hg⟩)
        · have hj : j < q.sz := by rw [← Sq.elem_len true q i]; exact (List.getElem?_eq_some_iff.1 hd).1
          have hlt : i * q.sz + j < cur.size := by
            rw [hcs]
            have h4 : (i + 1) * q.sz ≤ cap * q.sz := Nat.mul_le_mul_right _ (by omega)
            rw [Nat.add_mul, Nat.one_mul] at h4; omega
          rw [Nat.zero_add, cell_of_row w g _ cur e (0, 0) hh]
          simp [hlt]
  refine ⟨M', h.fr, h.dfr, h.sz, fun x => ?_, fun b cs hb => ?_, fun b hb => ?_, fun y e' p hy => ?_, fun y hy => ?_, fun k hk => h.low k (hown k hk), h.inj1, fun y y' k c z c' z' h1 h2 => ?_, fun b y k c z h1 h2 => ?_⟩
  · rw [PS.t_put]
    by_cases hx : some t = some x
    · rw [if_pos hx]; cases hx; exact hv
    · rw [if_neg hx]
      have : ((s.kill r).setR r none).t x = kl r (s.t x) := PS.t_kill s r x
      rw [this]; exact VR.kl hA hγ hβ (h.tmp x)
  · have hb' : (s.kill r).b b = some cs := hb
    rw [PS.b_kill] at hb'
    obtain ⟨cs0, h0, rfl⟩ := Option.map_eq_some_iff.1 hb'
    obtain ⟨k, cur, e2, a1, a2, a3, a4⟩ := h.box b cs0 h0
    refine ⟨k, cur, e2, a1, a2, by simpa using a3, fun j d hd => ?_⟩
    rw [List.getElem?_map] at hd
    obtain ⟨d0, h1, rfl⟩ := Option.map_eq_some_iff.1 hd
    exact VR.klS hA hγ hβ (a4 j d0 h1)
  · have hb' : (s.kill r).b b = none := hb
    rw [PS.b_kill] at hb'
    exact h.boxn b (by simpa using hb')
  · have hy : ((s.kill r).setR r none).r y = some (e', p) := hy
    rw [PS.r_setR] at hy
    by_cases hyr : r = y
    · rw [if_pos hyr] at hy; cases hy
    · rw [if_neg hyr] at hy
      rcases h.row y e' p hy with ⟨h1, h2⟩ | ⟨g, cap, cur, h1, h2, h3, h4, h5, h6⟩
      · exact .inl ⟨by simp [M', Ne.symm hyr, h1], h2⟩
      · exact .inr ⟨g, cap, cur, by simp [M', Ne.symm hyr, h1], h2, h3, h4, h5, fun i j d hi' hd => (h6 i j d hi' hd).elem_any hd hA⟩
  · have hy : ((s.kill r).setR r none).r y = none := hy
    rw [PS.r_setR] at hy
    by_cases hyr : r = y
    · simp [M', hyr]
    · rw [if_neg hyr] at hy
      simpa [M', Ne.symm hyr] using h.rown y hy
  · simp only [M'] at h1 h2
    split at h1 <;> split at h2 <;> first | (cases h1; done) | (cases h2; done) | exact h.inj2 _ _ _ _ _ _ _ h1 h2
  · simp only [M'] at h2
    split at h2
    · cases h2
    · exact h.inj3 _ _ _ _ _ h1 h2
theorem vFreeze {t r m : Nat} {e : TypeId} {q : Sq} (ht : s.t t = .row r 0 m) (hr : s.r r = some (e, q)) (hm : m = q.len) (h : VO C ops K rest (((s.kill r).setR r none).put (some t) (.ro true q))) : VO C ops K rest s := ⟨fun M a w Q hrl hq => by
  obtain ⟨M', h'⟩ := hrl.freeze ht hr hm
  exact h.out M' a w Q h' hq⟩
end
end Go.Proofs.Ytlmlfbjcpajinaa
