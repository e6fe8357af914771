/- Empty slices, appends onto them in any order, maps. -/
import Derived.Test.YtkpmijmlbpdknaaM4
namespace Go.Proofs.Ytkpmijmlbpdknaa
open Go.RowKit Go.Deep
set_option linter.unusedSimpArgs false
set_option linter.unusedVariables false

section
variable {C : Cx} {ops : Array Oper} {K : PS → Prop} {o : Oper} {rest : List Oper} {s s' : PS} {TT : List (Nat × Ty)} {tm : List (Nat × D)} {rw' : List (Nat × Option (TypeId × Sq))} {bx : List (Nat × Option (List D))} {cr B : List Nat} {j : Nat}
/-- a slice without elements, written out -/
theorem sEmpty (hT : TTOK C.P TT) {t e : TypeId} {k : Sq} {by' b : Nat} (hop : o.op = .buildSlice t 0 #[]) (hd : o.dst = some b) (hy : look TT t = some (.sl e k by')) (hn : Nat.blt b C.n = true) (h : K (s.put (some b) .nil)) : Step C o s K := ⟨fun M a w Q K' hr hk => by
  have hrun : (execOp a.eval o).run C.P w = .ok (.value (.slice (some ⟨w.heap.size, 0, none⟩) 0 0)) (w.alloc (.cells #[] e)) := by
    have := run_buildSlice (hT t _ hy) w 0 #[] #[] (by omega) (fun cells hc => by
      have : cells = #[] := by apply Array.eq_empty_of_size_eq_zero; simpa using hc
      subst this; rfl)
    unfold execOp
    rw [hop]
    show ((do pure (Next.value (← Instr.buildSlice t 0 ((#[] : Array (Nat × Operand)).map fun (p : Nat × Operand) => (p.1, a.eval p.2)))) : Sem Next)).run C.P w = _
    rw [show (#[] : Array (Nat × Operand)).map (fun (p : Nat × Operand) => (p.1, a.eval p.2)) = #[] from by simp, Sem.run_bind, this]
    rfl
  unfold Oper.wp
  rw [hrun]
  have h1 : Rel C.w0 C.O0 C.n M s a (w.alloc (.cells #[] e)) := hr.later rfl rfl rfl (by simp) fun k h1 => Below.heap_alloc w _ k h1
  exact hk M _ _ _ h (by rw [hd]; exact h1.put hn (.nil _))⟩
theorem klS_id {r : Nat} {d : D} (h : mentS noB (isR r) d = false) : klS r d = d := by
  have hb : ∀ x, isR r x = false → Nat.beq x r = false := fun x hx => by
    cases hh : Nat.beq x r with
    | false => rfl
    | true => rw [Nat.eq_of_beq_eq_true hh] at hx; simp [isR, Nat.beq_refl] at hx
  cases d <;> simp only [mentS] at h <;> try rfl
  · simp [klS, hb _ h]
  · simp [klS, hb _ h]
  · cases h
  · cases h
theorem klA_id {r : Nat} {d : D} (h : mentA noB (isR r) d = false) : klA r d = d := by
  cases d with
  | agg l =>
    simp only [mentA, List.any_eq_false] at h
    simp only [klA]
    congr 1
    conv => rhs; rw [← List.map_id l]
    exact List.map_congr_left fun x hx => klS_id (by simpa using h x hx)
  | _ => exact klS_id (by simpa only [mentA] using h)
theorem kl_id {r : Nat} {d : D} (h : ment noB (isR r) d = false) : kl r d = d := by
  cases d with
  | tup l =>
    simp only [ment, List.any_eq_false] at h
    simp only [kl]
    congr 1
    conv => rhs; rw [← List.map_id l]
    exact List.map_congr_left fun x hx => klA_id (by simpa using h x hx)
  | _ => exact klA_id (by simpa only [ment] using h)
/-- append onto an empty slice: a new row -/
theorem sAppNil (hT : TTOK C.P TT) {t e : TypeId} {k q2 q' : Sq} {by' b : Nat} {x y : Operand} {f : Bool} (hop : o.op = .call { callee := .builtin .append, args := #[x, y], argTypes := #[t, t] }) (hd : o.dst = some b) (hy : look TT t = some (.sl e k by'))
    (hx : s.ev x = .nil) (hk0 : Nat.beq k.len 0 = true) (hf : Fresh s noB (isR b)) (hyy : s.ev y = .ro f q2) (hs : ∀ s, srcSq s (.ro f q2) = some (True, q2)) (happ : k.app q2 = some q') (hb : Nat.ble by' 32 = true) (hn : Nat.blt b C.n = true)
    (hbd : q2.len ≤ 4294967296) (h : K ((s.setR b (some (e, q'))).put (some b) (.row b 0 q'.len))) : Step C o s K := ⟨fun M a w Q K' hrl hkk => by
  have e1 := hrl.ev x
  rw [hx] at e1
  have hkl := Nat.eq_of_beq_eq_true hk0
  have hb1000 : b < 1000000 := by have h1000 := hrl.nle; rw [Nat.blt_eq] at hn; omega
  obtain ⟨ao1, hao1⟩ := e1.nil_inv
  obtain ⟨M1, hr1, hv1'⟩ := hrl.nilRow (r := b) (e := e) (q := k) hkl hf hb1000
  have e2 := hr1.ev y
  have hyy' : (s.setR b (some (e, k))).ev y = .ro f q2 := by rw [← hyy]; cases y <;> rfl
  rw [hyy'] at e2
  obtain ⟨news, hsrc⟩ := src_ok hr1 e2 (hs _) trivial
  have hb' := Nat.le_of_ble_eq_true hb
  have hbd' : k.len + q2.len ≤ 4294967296 := by omega
  obtain ⟨v', w', M', h1, h2, h3, _⟩ := append_ok (P := C.P) (ty := o.type) hr1 (hT t _ hy) rfl (r := b) (q := k) (by rw [PS.r_setR, if_pos rfl]) (hv1' ao1) (Nat.zero_le _) hsrc (q' := q') (by rw [← hkl, Sq.take_len]; exact happ) (by rw [Nat.zero_add]; have := Nat.mul_le_mul hbd hb'; omega) (by unfold maxLen; omega) hb1000
  rw [← hao1] at h1
  unfold Oper.wp
  rw [run_app hop h1]
  refine hkk M' _ _ _ h ?_
  rw [hd]
  have hl := (Sq.app_ok happ).1
  rw [hkl] at hl
  rw [← hl] at h3
  have h4 := h2.put (o := some b) hn h3
  refine h4.same (fun x => ?_) (fun r => ?_) (fun c => ?_)
  · rw [PS.t_put, PS.t_put]
    split
    · rfl
    · have : (((s.setR b (some (e, k))).kill b).setR b (some (e, q'))).t x = kl b (s.t x) := PS.t_kill (s.setR b (some (e, k))) b x
      rw [this, kl_id (hf.t x)]; rfl
  · rw [PS.r_put, PS.r_put, PS.r_setR, PS.r_setR]
    split
    · rfl
    · rename_i hne
      have : ((s.setR b (some (e, k))).kill b).r r = (s.setR b (some (e, k))).r r := rfl
      rw [this, PS.r_setR, if_neg hne]
  · rw [PS.b_put, PS.b_put]
    have : (((s.setR b (some (e, k))).kill b).setR b (some (e, q'))).b c = (s.b c).map fun cs => cs.map (klS b) := PS.b_kill (s.setR b (some (e, k))) b c
    rw [this]
    have hsb : (s.setR b (some (e, q'))).b c = s.b c := rfl
    rw [hsb]
    cases hc : s.b c with
    | none => rfl
    | some cs =>
      simp only [Option.map_some]
      congr 1
      conv => lhs; rw [← List.map_id cs]
      exact (List.map_congr_left fun d hd' => klS_id (hf.b c cs hc d hd')).symm⟩

theorem oStepW (hw : Wanted C ops o s) (h : Step C o s (VO C ops K rest)) : VO C ops K (o :: rest) s := by
  rcases hw with hg | ⟨j, want, t, b, hg, hd, ht, hs, hb⟩
  · exact vOp hg h
  · exact vOpG hg hd ht hs hb h
theorem oEmpty (hT : TTOK C.P TT) (hw : Wanted C ops o ⟨tm, rw', bx⟩) {t e : TypeId} {k : Sq} {by' b : Nat} (hop : o.op = .buildSlice t 0 #[]) (hd : o.dst = some b) (hy : look TT t = some (.sl e k by')) (hn : Nat.blt b C.n = true) (h : VO C ops K rest ⟨(b, .nil) :: tm, rw', bx⟩) : VO C ops K (o :: rest) ⟨tm, rw', bx⟩ :=
  oStepW hw (sEmpty hT hop hd hy hn h)
theorem nEmpty (hT : TTOK C.P TT) (hw : Wanted C ops o ⟨tm, rw', bx⟩) {t e : TypeId} {k : Sq} {by' b : Nat} (hop : o.op = .buildSlice t 0 #[]) (hd : o.dst = some b) (hy : look TT t = some (.sl e k by')) (hn : Nat.blt b C.n = true)
    (hck : chkE ops cr B j ⟨.nil, [], []⟩ = true) (h : QN C ops cr B K (j + 1) rest ⟨(b, .nil) :: tm, rw', bx⟩) : QN C ops cr B K j (o :: rest) ⟨tm, rw', bx⟩ :=
  nStep (e := ⟨.nil, [], []⟩) hw hck (fun s1 hag => sEmpty hT hop hd hy hn (by rw [hd]; rfl)) (by rw [hd]; exact h)
theorem oAppNil (hT : TTOK C.P TT) (hw : Wanted C ops o ⟨tm, rw', bx⟩) {t e : TypeId} {k q2 q' q'' : Sq} {by' b m' : Nat} {x y : Operand} {f : Bool} (hop : o.op = .call { callee := .builtin .append, args := #[x, y], argTypes := #[t, t] }) (hd : o.dst = some b) (hy : look TT t = some (.sl e k by'))
    (hx : (PS.ev ⟨tm, rw', bx⟩ x) = .nil) (hk0 : Nat.beq k.len 0 = true) (hf : frB ⟨tm, rw', bx⟩ noB (isR b) = true) (hyy : (PS.ev ⟨tm, rw', bx⟩ y) = .ro f q2) (hs : ∀ s, srcSq s (.ro f q2) = some (True, q2)) (happ : k.app q2 = some q') (hb : Nat.ble by' 32 = true) (hn : Nat.blt b C.n = true)
    (hq' : fcQ q' some = some q'') (hm' : lenK q' some = some m') (hbd : q2.len ≤ 4294967296) (h : VO C ops K rest ⟨(b, .row b 0 m') :: tm, (b, some (e, q'')) :: rw', bx⟩) : VO C ops K (o :: rest) ⟨tm, rw', bx⟩ := by
  rw [fcQ_eq] at hq'
  rw [lenK_eq] at hm'
  cases hq'
  cases hm'
  exact oStepW hw (sAppNil hT hop hd hy hx hk0 (frB_ok hf) hyy hs happ hb hn hbd h)
theorem nAppNil (hT : TTOK C.P TT) (hw : Wanted C ops o ⟨tm, rw', bx⟩) {t e : TypeId} {k q2 q' q'' : Sq} {by' b m' : Nat} {x y : Operand} {f : Bool} (hop : o.op = .call { callee := .builtin .append, args := #[x, y], argTypes := #[t, t] }) (hd : o.dst = some b) (hy : look TT t = some (.sl e k by'))
    (hx : (PS.ev ⟨tm, rw', bx⟩ x) = .nil) (hk0 : Nat.beq k.len 0 = true) (hcr : cr.contains j = true) (hnm : nm ops j b = true) (hyy : (PS.ev ⟨tm, rw', bx⟩ y) = .ro f q2) (hs : ∀ s, srcSq s (.ro f q2) = some (True, q2)) (happ : k.app q2 = some q') (hb : Nat.ble by' 32 = true) (hn : Nat.blt b C.n = true)
    (hq' : fcQ q' some = some q'') (hm' : lenK q' some = some m') (hck : chkE ops cr B j ⟨.row b 0 m', [(b, some (e, q''))], []⟩ = true) (hbd : q2.len ≤ 4294967296) (h : QN C ops cr B K (j + 1) rest ⟨(b, .row b 0 m') :: tm, (b, some (e, q'')) :: rw', bx⟩) : QN C ops cr B K j (o :: rest) ⟨tm, rw', bx⟩ := by
  rw [fcQ_eq] at hq'
  rw [lenK_eq] at hm'
  cases hq'
  cases hm'
  refine nStep (e := ⟨.row b 0 _, [(b, some (e, _))], []⟩) hw hck (fun s1 hag => ?_) (by rw [hd]; exact h)
  have e1 := hag.ev x (by rw [hop]; simp [Op.operands, Call.operands])
  have e2 := hag.ev y (by rw [hop]; simp [Op.operands, Call.operands])
  exact sAppNil hT hop hd hy (e1.trans hx) hk0 (fresh_sub (hag.fr hcr) (fun x hx => by cases hx) (fun x hx => by rw [← Nat.eq_of_beq_eq_true hx]; exact hnm)) (e2.trans hyy) hs happ hb hn hbd (by rw [hd]; rfl)

/-- another text for the length of a row that a box holds -/
theorem vRowB {C : Cx} {c : Code} {Q : Exit → PS → Prop} (b i r : Nat) {n n' : Nat} {tm : List (Nat × D)} {rw' : List (Nat × Option (TypeId × Sq))} {bx : List (Nat × Option (List D))} {cs cs' : List D} (hb : (PS.b ⟨tm, rw', bx⟩ b) = some cs) (hi : cs[i]? = some (.row r 0 n)) (hn : n = n') (hcs : fcL (cs.set i (.row r 0 n')) some = some cs')
    (h : VC C c Q ⟨tm, rw', (b, some cs') :: bx⟩) : VC C c Q ⟨tm, rw', bx⟩ := by
  rw [fcL_eq] at hcs
  cases hcs
  subst hn
  have e : cs.set i (.row r 0 n) = cs := by
    apply List.ext_getElem?
    intro j
    rw [List.getElem?_set]
    split
    · rename_i hij
      subst hij
      rw [hi]
      have := (List.getElem?_eq_some_iff.1 hi).1
      simp [this]
    · rfl
  rw [e] at h
  refine ⟨fun M a w hr => h.out M a w (hr.same (fun _ => rfl) (fun _ => rfl) fun x => ?_)⟩
  by_cases hx : b = x
  · subst hx; simp only [PS.b, look_cons_self]; exact hb.symm
  · simp only [PS.b, look_cons_ne hx]

theorem bsplit {p : Prop} (b : Bool) (h1 : b = true → p) (h2 : b = false → p) : p := by cases b; exact h2 rfl; exact h1 rfl
/-! ### appends, stores and calls that write, in a region that draws its order -/
theorem Step.same (h : Step C o s (fun s' => ∃ s'', K s'' ∧ (∀ x, s''.t x = s'.t x) ∧ (∀ r, s''.r r = s'.r r) ∧ ∀ b, s''.b b = s'.b b)) : Step C o s K := ⟨fun M a w Q K' hr hk =>
  h.out M a w Q K' hr fun M' s' a' w' ⟨s'', h1, h2, h3, h4⟩ hr' => hk M' s'' a' w' h1 (hr'.same h2 h3 h4)⟩
theorem Step.weak {K2 : PS → Prop} (h : Step C o s K2) (hk : ∀ s', K2 s' → K s') : Step C o s K := ⟨fun M a w Q K' hr hK => h.out M a w Q K' hr fun M' s' a' w' h1 hr' => hK M' s' a' w' (hk s' h1) hr'⟩
/-- append onto a row, which has another name from then on -/
theorem sAppMove (hT : TTOK C.P TT) {t e : TypeId} {k q q2 q' : Sq} {by' b r m : Nat} {x y : Operand} {dy : D} {ob : Prop} (hop : o.op = .call { callee := .builtin .append, args := #[x, y], argTypes := #[t, t] }) (hd : o.dst = some b) (hy : look TT t = some (.sl e k by'))
    (hx : s.ev x = .row r 0 m) (hr : s.r r = some (e, q)) (hk : Nat.beq k.sz q.sz = true) (hyy : s.ev y = dy) (hs : srcSq s dy = some (ob, q2)) (happ : q.app q2 = some q') (hb : Nat.ble by' 32 = true) (hn : Nat.blt b C.n = true) (hf : Fresh s noB (isR b)) (hbr : Nat.beq b r = false)
    (hm : m = q.len) (hob : ob) (hbd : q.len + q2.len ≤ 4294967296) (hlo : Nat.ble r 999999 = true) : Step C o s (fun s' => s' = s.ap (some b) ⟨.row b 0 q'.len, [(b, some (e, q')), (r, none)], []⟩) := ⟨fun M a w Q K' hrl hkk => by
  have e1 := hrl.ev x
  have e2 := hrl.ev y
  rw [hx] at e1
  rw [hyy] at e2
  obtain ⟨news, hsrc⟩ := src_ok hrl e2 hs hob
  subst hm
  have hb' := Nat.le_of_ble_eq_true hb
  have hne : b ≠ r := fun e => by subst e; rw [Nat.beq_refl] at hbr; cases hbr
  have hb1000 : b < 1000000 := by have h1000 := hrl.nle; rw [Nat.blt_eq] at hn; omega
  have hr1000 : r < 1000000 := by have := Nat.le_of_ble_eq_true hlo; omega
  obtain ⟨v', w', M', h1, h2, h3, h4⟩ := append_ok (P := C.P) (ty := o.type) hrl (hT t _ hy) (Nat.eq_of_beq_eq_true hk) hr e1 (Nat.le_refl _) hsrc (by rw [Sq.take_len]; exact happ) (by have := Nat.mul_le_mul hbd hb'; omega) (by unfold maxLen; omega) hr1000
  unfold Oper.wp
  rw [run_app hop h1]
  let M2 : Mp := ⟨M.β, fun y => if y = b then M'.γ r else if y = r then none else M.γ y⟩
  have o1 : ∀ k, M2.owned k → M'.owned k := by
    rintro k (⟨c, hc⟩ | ⟨y, c, z, hy'⟩)
    · exact .inl ⟨c, by rw [h4.β]; exact hc⟩
    · simp only [M2] at hy'
      split at hy'
      · exact .inr ⟨r, c, z, hy'⟩
      · split at hy'
        · cases hy'
        · rename_i _ hyr; exact .inr ⟨y, c, z, by rw [h4.γ y hyr]; exact hy'⟩
  have hA : ∀ f k, k < w.heap.size → Ow (Fs C.w0 C.O0) M f k → Ow (Fs C.w0 C.O0) M2 f k ∧ k < w'.heap.size ∧ w'.heap[k]? = w.heap[k]? := fun f k g1 g2 => by
    obtain ⟨g3, g4, g5⟩ := h4.old f k g1 g2
    exact ⟨⟨fun ho => g3.1 (o1 k ho), g3.2⟩, g4, g5⟩
  have hA' : ∀ f k, k < w'.heap.size → Ow (Fs C.w0 C.O0) M' f k → Ow (Fs C.w0 C.O0) M2 f k ∧ k < w'.heap.size ∧ w'.heap[k]? = w'.heap[k]? := fun f k g1 g2 => ⟨⟨fun ho => g2.1 (o1 k ho), g2.2⟩, g1, rfl⟩
  have hγ : ∀ y z, isR b y = false → M2.γ y = some z → M.γ y = some z := fun y z g1 g2 => by
    simp only [M2] at g2
    split at g2
    · rename_i hyb; subst hyb; simp [isR, Nat.beq_refl] at g1
    · split at g2
      · cases g2
      · exact g2
  have hrow : ∀ y, y ≠ b → y ≠ r → M2.γ y = M.γ y := fun y g1 g2 => by simp [M2, g1, g2]
  have hoth : ∀ y c z k, y ≠ r → M.γ y = some (some (k, c, z)) → w'.heap[k]? = w.heap[k]? := fun y c z k g1 g2 => h4.oth k (.inr ⟨y, c, z, g2⟩) fun c' z' g3 => g1 (hrl.inj2 _ _ _ _ _ _ _ g2 g3)
  have hR : Rel C.w0 C.O0 C.n M2 ⟨s.tmp, (b, some (e, q')) :: (r, none) :: s.row, s.box⟩ a w' := by
    refine ⟨h2.fr, hrl.dfr, hrl.sz, fun x => ?_, fun c cs hc => ?_, fun c hc => hrl.boxn c hc, fun y e' p hy' => ?_, fun y hy' => ?_, fun k hk' => h2.low k (o1 k hk'), hrl.inj1, fun y y' k c z c' z' g1 g2 => ?_, fun c y k c' z g1 g2 => ?_, hrl.nle, hrl.fxb, fun y u u' g1 g2 => ?_⟩
    · exact VR.new (b := noB) (r := isR b) hA hγ (fun _ _ _ h => h) (hf.t x) (hrl.tmp x)
    · obtain ⟨k, cur, e', g1, g2, g3, g4⟩ := hrl.box c cs hc
      refine ⟨k, cur, e', g1, (h4.oth k (.inl ⟨c, g1⟩) fun c' z' g5 => hrl.inj3 _ _ _ _ _ g1 g5).trans g2, g3, fun i d hi => ?_⟩
      have hm' := hf.b c cs hc d (List.mem_of_getElem? hi)
      exact VR.newS (b := noB) (r := isR b) hA hγ (fun _ _ _ h => h) hm' (g4 i d hi)
    · by_cases hyb : y = b
      · subst hyb
        simp only [PS.r, look_cons_self, Option.some.injEq, Prod.mk.injEq] at hy'
        obtain ⟨rfl, rfl⟩ := hy'
        have hM : M2.γ y = M'.γ r := by simp [M2]
        rcases h2.row r e q' (by rw [PS.r_setR, if_pos rfl]) with ⟨g1, g2⟩ | ⟨g, cap, cur, g1, g2, g3, g4, g5, g6⟩
        · exact .inl ⟨hM.trans g1, g2⟩
        · exact .inr ⟨g, cap, cur, hM.trans g1, g2, g3, g4, g5, fun i j d hi hd' => (g6 i j d hi hd').elem_any hd' hA'⟩
      · by_cases hyr : y = r
        · subst hyr; simp only [PS.r, look_cons_ne (Ne.symm hyb), look_cons_self] at hy'; cases hy'
        · have hy2 : s.r y = some (e', p) := by simp only [PS.r, look_cons_ne (Ne.symm hyb), look_cons_ne (Ne.symm hyr)] at hy'; exact hy'
          rcases hrl.row y e' p hy2 with ⟨g1, g2⟩ | ⟨g, cap, cur, g1, g2, g3, g4, g5, g6⟩
          · exact .inl ⟨(hrow y hyb hyr).trans g1, g2⟩
          · exact .inr ⟨g, cap, cur, (hrow y hyb hyr).trans g1, (hoth y _ _ g hyr g1).trans g2, g3, g4, g5, fun i j d hi hd' => (g6 i j d hi hd').elem_any hd' hA⟩
    · by_cases hyb : y = b
      · subst hyb; simp only [PS.r, look_cons_self] at hy'; cases hy'
      · by_cases hyr : y = r
        · simp [M2, hyr, Ne.symm hne]
        · simp only [PS.r, look_cons_ne (Ne.symm hyb), look_cons_ne (Ne.symm hyr)] at hy'
          rw [hrow y hyb hyr]; exact hrl.rown y hy'
    · have case : ∀ y k c z, M2.γ y = some (some (k, c, z)) → (y = b ∧ M'.γ r = some (some (k, c, z))) ∨ (y ≠ b ∧ y ≠ r ∧ M'.γ y = some (some (k, c, z))) := fun y k c z g => by
        simp only [M2] at g
        split at g
        · exact .inl ⟨by assumption, g⟩
        · split at g
          · cases g
          · rename_i h5 h6; exact .inr ⟨h5, h6, by rw [h4.γ y h6]; exact g⟩
      rcases case _ _ _ _ g1 with ⟨rfl, g3⟩ | ⟨g3, g4, g5⟩
      · rcases case _ _ _ _ g2 with ⟨rfl, _⟩ | ⟨_, g7, g8⟩
        · rfl
        · exact absurd (h2.inj2 _ _ _ _ _ _ _ g3 g8).symm g7
      · rcases case _ _ _ _ g2 with ⟨rfl, g6⟩ | ⟨_, _, g8⟩
        · exact absurd (h2.inj2 _ _ _ _ _ _ _ g5 g6) g4
        · exact h2.inj2 _ _ _ _ _ _ _ g5 g8
    · have g1' : M'.β c = some k := by rw [h4.β]; exact g1
      simp only [M2] at g2
      split at g2
      · exact h2.inj3 _ _ _ _ _ g1' g2
      · split at g2
        · cases g2
        · rename_i _ h6; exact h2.inj3 c y k c' z g1' (by rw [h4.γ y h6]; exact g2)
    · have g3 := C.O0.lor y u g1
      rw [hrow y (by omega) (by omega)] at g2
      exact hrl.fxr y u u' g1 g2
  refine hkk M2 _ _ _ rfl ?_
  rw [hd]
  have hl := (Sq.app_ok happ).1
  rw [← hl] at h3
  have hv : VR M2 (Ow (Fs C.w0 C.O0) M2) w' (.row b 0 q'.len) v' := by
    cases h3 with
    | row _ _ _ _ g1 g2 => exact .row _ _ _ _ g1 fun x hx => g2 x (by simpa [M2] using hx)
  exact hR.put (o := some b) hn hv⟩
theorem nAppMove (hT : TTOK C.P TT) (hw : Wanted C ops o ⟨tm, rw', bx⟩) {t e : TypeId} {k q q2 q' q'' : Sq} {by' b r m m' : Nat} {x y : Operand} {dy : D} {ob : Prop} (hop : o.op = .call { callee := .builtin .append, args := #[x, y], argTypes := #[t, t] }) (hd : o.dst = some b) (hy : look TT t = some (.sl e k by'))
    (hx : (PS.ev ⟨tm, rw', bx⟩ x) = .row r 0 m) (hr : (PS.r ⟨tm, rw', bx⟩ r) = some (e, q)) (hk : Nat.beq k.sz q.sz = true) (hyy : (PS.ev ⟨tm, rw', bx⟩ y) = dy) (hs : srcSq ⟨tm, rw', bx⟩ dy = some (ob, q2)) (happ : q.app q2 = some q') (hb : Nat.ble by' 32 = true) (hn : Nat.blt b C.n = true) (hcr : cr.contains j = true) (hnm : nm ops j b = true) (hbr : Nat.beq b r = false)
    (hlo : Nat.ble r 999999 = true) (hq' : fcQ q' some = some q'') (hm' : lenK q' some = some m') (hvis : visB ops cr B j ⟨tm, rw', bx⟩ [x, y] = true) (hck : chkE ops cr B j ⟨.row b 0 m', [(b, some (e, q'')), (r, none)], []⟩ = true) (hm : m = q.len) (hob : ob) (hbd : q.len + q2.len ≤ 4294967296)
    (h : QN C ops cr B K (j + 1) rest ⟨(b, .row b 0 m') :: tm, (b, some (e, q'')) :: (r, none) :: rw', bx⟩) : QN C ops cr B K j (o :: rest) ⟨tm, rw', bx⟩ := by
  rw [fcQ_eq] at hq'
  rw [lenK_eq] at hm'
  cases hq'
  cases hm'
  refine nStep (e := ⟨.row b 0 _, [(b, some (e, _)), (r, none)], []⟩) hw hck (fun s1 hag => ?_) (by rw [hd]; exact h)
  have e1 := hag.ev x (by rw [hop]; simp [Op.operands, Call.operands])
  have e2 := hag.ev y (by rw [hop]; simp [Op.operands, Call.operands])
  have s1x := hag.same hvis x (by simp)
  have s1y := hag.same hvis y (by simp)
  rw [hx] at s1x
  rw [hyy] at s1y
  rw [hd]
  refine sAppMove hT hop hd hy (e1.trans hx) (by rw [s1x.row]; exact hr) hk (e2.trans hyy) ?_ happ hb hn (fresh_sub (hag.fr hcr) (fun x hx => by cases hx) (fun x hx => by rw [← Nat.eq_of_beq_eq_true hx]; exact hnm)) hbr hm hob hbd hlo
  cases dy <;> first | exact hs | (simp only [srcSq, s1y.row] at hs ⊢; exact hs)
/-- a call that writes what it is handed -/
theorem nMCall (hw : Wanted C ops o ⟨tm, rw', bx⟩) {rk rids bk bids pids : List Nat} {f : FuncId} {args : Array Operand} {ts : Array TypeId} {ds : List D} {r0 r1 : List (TypeId × Sq)} {b0 b1 : List (List D)} {d : D} (hp : MCall C.P f ds rk bk r0 r1 b0 b1 d) (rids bids pids : List Nat) {er : List (Nat × Option (TypeId × Sq))} {eb : List (Nat × Option (List D))} {b : Nat}
    (hop : o.op = .call { callee := .value (.func f), args := args, argTypes := ts }) (hd : o.dst = some b) (hn : Nat.blt b C.n = true) (hcr : cr.contains j = true)
    (hchk : mchk rk rids bk bids pids = true) (hown : (pids.all fun p => isInL rids p || nm ops j p) = true) (hvr : (rids.all fun r => !hidV ops cr B j r) = true) (hvb : (bids.all fun r => !hidV ops cr B j r) = true)
    (her : nfR (asL pids r1 ++ rids.map fun r => (r, none)) = some er) (heb : nfB (asL bids (b1.map fun cs => cs.map (renS (sgm bk bids) (sgm rk pids)))) = some eb) (hck : chkE ops cr B j ⟨d, er, eb⟩ = true)
    (hr : pairOk (PS.r ⟨tm, rw', bx⟩) rids r0) (hb : pairOk (PS.b ⟨tm, rw', bx⟩) bids (b0.map fun cs => cs.map (renS (sgm bk bids) (sgm rk rids)))) (hfit : fitsM rk rids bk bids ⟨tm, rw', bx⟩ args.toList ds) (h : QN C ops cr B K (j + 1) rest ⟨(b, d) :: tm, er ++ rw', eb ++ bx⟩) : QN C ops cr B K j (o :: rest) ⟨tm, rw', bx⟩ := by
  have her' := nfR_ok her
  have heb' := nfB_ok heb
  subst her' heb'
  refine nStep (e := ⟨d, _, _⟩) hw hck (fun s1 hag => ?_) (by rw [hd]; exact h)
  have hpr : ∀ {α : Type} {f g : Nat → Option α} {l : List Nat} {m : List α}, (∀ x ∈ l, g x = f x) → pairOk f l m → pairOk g l m := by
    intro α f g l
    induction l with
    | nil => intro m _ h; cases m; trivial; exact h.elim
    | cons x l ih =>
      intro m hx h
      cases m with
      | nil => exact h.elim
      | cons y m => exact ⟨(hx x (by simp)).trans h.1, ih (fun z hz => hx z (by simp [hz])) h.2⟩
  have hfm : ∀ {xs : List Operand} {ds : List D}, (∀ x ∈ xs, s1.ev x = PS.ev ⟨tm, rw', bx⟩ x) → fitsM rk rids bk bids ⟨tm, rw', bx⟩ xs ds → fitsM rk rids bk bids s1 xs ds := by
    intro xs
    induction xs with
    | nil => intro ds _ h; cases ds; trivial; exact h.elim
    | cons x l ih =>
      intro ds hx h
      cases ds with
      | nil => exact h.elim
      | cons y m => exact ⟨by rw [hx x (by simp)]; exact h.1, ih (fun z hz => hx z (by simp [hz])) h.2⟩
  simp only [List.all_eq_true] at hvr hvb hown
  rw [hd]
  refine Step.weak (sMCall (K := fun s' => s' = (s1.after rids pids r1 bids (b1.map fun cs => cs.map (renS (sgm bk bids) (sgm rk pids)))).put (some b) d) hop hp (by rw [hd]; exact hn) hchk ?_ (hpr (fun x hx => hag.r x (by simpa using hvr x hx)) hr) (hpr (fun x hx => hag.b x (by simpa using hvb x hx)) hb) (hfm (fun x hx => hag.ev x (by rw [hop]; simp only [Op.operands, Call.operands]; exact Array.mem_append.2 (.inr (by simpa using hx)))) hfit) (by rw [hd])) fun s' hs' => ?_
  · refine fresh_sub (hag.fr hcr) (fun x hx => by cases hx) fun x hx => ?_
    unfold newP at hx
    cases hm : mp pids rids x with
    | none => rw [hm] at hx; cases hx
    | some i =>
      rw [hm] at hx
      have := hown x (mp_mem hm).1
      rcases Bool.or_eq_true_iff.1 this with h1 | h1
      · exfalso
        simp only [mchk, Bool.and_eq_true] at hchk
        obtain ⟨k, hk⟩ := mp_some (l := pids) (m := rk) (by rw [← Nat.eq_of_beq_eq_true hchk.1.1.1.1.1.2]) (mp_mem hm).1
        obtain ⟨r', g1, _, g3⟩ := fixB_ok hchk.2 (Nat.eq_of_beq_eq_true hchk.1.1.1.1.1.1) (Nat.eq_of_beq_eq_true hchk.1.1.1.1.1.2) hchk.1.1.1.2 hk
        rw [hm] at g1
        cases g1
        rcases g3 with ⟨_, rfl⟩ | ⟨_, _, g4⟩
        · simp [Nat.beq_refl] at hx
        · rw [h1] at g4; cases g4
      · exact h1
  · rw [hs']
    simp [PS.ap, PS.after, PS.put, List.append_assoc]
/-- what a box holds after some cells were written, one behind the other -/
def updB (off : Nat) : List D → Nat → List D → Option (List D)
  | cs, _, [] => some cs
  | cs, k, d :: l => match d.one, Nat.blt (off + k) cs.length with | true, true => updB off (cs.set (off + k) d) (k + 1) l | _, _ => none
theorem updB_ok {b off : Nat} : ∀ {l : List D} {cs cs' : List D} {k : Nat} {s : PS}, s.b b = some cs → updB off cs k l = some cs' → ∃ (ob : Prop) (s' : PS), ob ∧ wrL s (.ptr b off) k l = some (ob, s') ∧ (∀ x, s'.t x = s.t x) ∧ (∀ r, s'.r r = s.r r) ∧ ∀ x, s'.b x = if b = x then some cs' else s.b x
  | [], cs, cs', k, s, hb, h => by
    simp only [updB, Option.some.injEq] at h
    subst h
    refine ⟨True, s, trivial, rfl, fun _ => rfl, fun _ => rfl, fun x => ?_⟩
    split
    · rename_i he; subst he; exact hb
    · rfl
  | d :: l, cs, cs', k, s, hb, h => by
    simp only [updB] at h
    split at h
    · rename_i h1 h2
      obtain ⟨ob, s', g1, g2, g3, g4, g5⟩ := updB_ok (s := s.setB b (cs.set (off + k) d)) (b := b) (by rw [PS.b_setB, if_pos rfl]) h
      refine ⟨True ∧ ob, s', ⟨trivial, g1⟩, ?_, g3, g4, fun x => ?_⟩
      · simp only [wrL, wr, h1, hb, h2, g2]
      · rw [g5 x, PS.b_setB]
        split <;> rfl
    · cases h
theorem nStoreB (hT : TTOK C.P TT) (hw : Wanted C ops o ⟨tm, rw', bx⟩) {t : TypeId} {p x : Operand} {y : Ty} {b off : Nat} {d : D} {cs cs1 cs' : List D} (hop : o.op = .store t p x) (hd : o.dst = none) (hy : look TT t = some y) (hp : (PS.ev ⟨tm, rw', bx⟩ p) = .ptr b off) (hx : (fcD (PS.ev ⟨tm, rw', bx⟩ x) some) = some d) (hfl : d.flat = true) (hsz : Nat.beq d.cells.length (tySize y) = true)
    (hb : (PS.b ⟨tm, rw', bx⟩ b) = some cs) (hu : updB off cs 0 d.cells = some cs1) (hcs : fcL cs1 some = some cs') (hvis : visB ops cr B j ⟨tm, rw', bx⟩ [p] = true) (hck : chkE ops cr B j ⟨.tup [], [], [(b, some cs')]⟩ = true)
    (h : QN C ops cr B K (j + 1) rest ⟨tm, rw', (b, some cs') :: bx⟩) : QN C ops cr B K j (o :: rest) ⟨tm, rw', bx⟩ := by
  rw [fcD_eq] at hx
  rw [fcL_eq] at hcs
  cases hx
  cases hcs
  refine nStep (e := ⟨.tup [], [], [(b, some _)]⟩) hw hck (fun s1 hag => ?_) (by rw [hd]; exact h)
  have e1 := hag.ev p (by rw [hop]; simp [Op.operands])
  have e2 := hag.ev x (by rw [hop]; simp [Op.operands])
  have s1p := hag.same hvis p (by simp)
  rw [hp] at s1p
  have hb1 : s1.b b = some cs := by rw [s1p.ptr]; exact hb
  obtain ⟨ob, s', g1, g2, g3, g4, g5⟩ := updB_ok (s := s1) (off := off) hb1 hu
  refine Step.same (sStore hT hop hd hy (e1.trans hp) e2 hfl hsz g2 (by simp [Live, hb1]) g1 ⟨_, rfl, fun x => ?_, fun r => ?_, fun c => ?_⟩)
  · rw [PS.t_ap, hd]; exact (g3 x).symm
  · rw [PS.r_ap, g4]; rfl
  · rw [PS.b_ap, g5]
    by_cases hc : b = c
    · subst hc; simp [look_cons_self]
    · simp [look_cons_ne hc, hc]
      rfl

/-! ### a field of a struct that is no variable -/
structure FieldOK (P : Program) (t : TypeId) (i off : Nat) : Prop where
  out : ∃ fs f, P.underlying t = some (.struct fs) ∧ fs[i]? = some f ∧ f.offset = off ∧ ∀ w, (isAgg f.type).run P w = .ok false w
theorem fld {P : Program} {t : TypeId} {i off : Nat} (h : (match P.underlying t with | some (.struct fs) => (match fs[i]? with | some f => Nat.beq f.offset off && (match P.underlying f.type with | some (.struct _) => false | some (.array _ _) => false | some _ => true | none => false) | none => false) | _ => false) = true) : FieldOK P t i off := by
  split at h
  · rename_i fs hu
    split at h
    · rename_i f hf
      simp only [Bool.and_eq_true] at h
      refine ⟨fs, f, hu, hf, Nat.eq_of_beq_eq_true h.1, fun w => ?_⟩
      have h2 := h.2
      split at h2
      · cases h2
      · cases h2
      · rename_i d h3 h4 h5
        unfold isAgg
        simp only [Sem.run_bind, Go.run_underlying h5, Result.andThen]
        cases d <;> first | rfl | exact absurd rfl (h3 _) | exact absurd rfl (h4 _ _)
      · cases h2
    · cases h
  · cases h
theorem pField {t : TypeId} {x : Operand} {i off : Nat} {l : List D} {d : D} (hF : FieldOK C.P t i off) (hop : o.op = .field t x i) (hx : s.ev x = .agg l) (hl : l[off]? = some d) : Pur C o s d :=
  ⟨fun s1 hs M ac w hr' => by
    obtain ⟨fs, f, hu, hf, hoff, hag⟩ := hF.out
    have h1 := hr'.ev x
    rw [hs x (by rw [hop]; simp [Op.operands]), hx] at h1
    obtain ⟨us, h2, h3, h4⟩ := h1.agg_inv
    have hlt : off < us.size := by rw [← h3]; exact (List.getElem?_eq_some_iff.1 hl).1
    refine ⟨us.getD off undef, ?_, h4 off d hl⟩
    have hrun : (Instr.field t (.agg us) i).run C.P w = .ok (us.getD off undef) w := by
      simp [Instr.field, Go.run_underlying hu, hf, asAgg, part, hag, hoff, hlt, go_sem]
    simp only [execOp, hop, h2]
    show ((do pure (Next.value (← Instr.field t (.agg us) i))) : Sem Next).run C.P w = _
    rw [Sem.run_bind, hrun]
    rfl⟩

/-! ### maps -/
/-- data that are no map -/
def noMapS : D → Bool
  | .map _ _ | .agg _ | .tup _ => false
  | _ => true
def noMapA : D → Bool
  | .agg l => l.all noMapS
  | d => noMapS d
def noMap : D → Bool
  | .tup l => l.all noMapA
  | d => noMapA d
section
variable {M : Mp} {A : Bool → Nat → Prop} {w : World} {b clock : Nat} {es : Array MapEntry} {ob : Obj}
theorem cell_map {a : Addr} {u : Value} (h : w.cell? a = some u) (hb : w.heap[b]? = some (.map es clock)) : a.block ≠ b := by
  rintro rfl
  simp [World.cell?, hb] at h
theorem heap_other (k : Nat) (hk : k ≠ b) : (w.heap.setIfInBounds b ob)[k]? = w.heap[k]? := by simp [Ne.symm hk]
theorem VR.mapS (hb : w.heap[b]? = some (.map es clock)) {d : D} {v : Value} (h : VR M A w d v) (hd : noMapS d = true) : VR M A { w with heap := w.heap.setIfInBounds b ob } d v := by
  have cel : ∀ {x : Addr} {u : Value}, w.cell? x = some u → ({ w with heap := w.heap.setIfInBounds b ob } : World).cell? x = some u := fun {x u} h => by
    rw [World.cell?_of_block (w := w) (heap_other x.block (cell_map h hb))]; exact h
  have key : ∀ d v, VR M A w d v → noMapS d = true → VR M A { w with heap := w.heap.setIfInBounds b ob } d v := by
    intro d v h
    induction h with
    | dead v => exact fun _ => .dead v
    | int n => exact fun _ => .int n
    | bool b => exact fun _ => .bool b
    | val v h => exact fun _ => .val v h
    | nil ao => exact fun _ => .nil ao
    | ro f q ao cap b' o u hn hc hao hu hv ih =>
      intro _
      refine .ro f q ao cap b' o u hn hc (fun h0 => ⟨(hao h0).1, by simpa using (hao h0).2.1, (hao h0).2.2⟩) (fun i j d hi hd => cel (hu i j d hi hd)) (fun i j d hi hd => ih i j d hi hd ?_)
      cases q <;> simp only [Sq.elem] at hd <;> rcases j with _ | _ | j <;> simp at hd <;> subst hd <;> rfl
    | row r off n v h1 h => exact fun _ => .row r off n v h1 h
    | ptr b off v h1 h => exact fun _ => .ptr b off v h1 h
    | eptr r i off v h => exact fun _ => .eptr r i off v h
    | rptr f q i off b' o u hb' hA' hu hv ih =>
      intro _
      refine .rptr f q i off b' o u (by simpa using hb') hA' (fun j d hd => cel (hu j d hd)) (fun j d hd => ih j d hd ?_)
      cases q <;> simp only [Sq.elem] at hd <;> rcases j with _ | _ | j <;> simp at hd <;> subst hd <;> rfl
    | agg l us hl h => intro h; cases h
    | tup l us hl h => intro h; cases h
    | clo f bs v h1 h => exact fun _ => .clo f bs v h1 h
    | map k l es clock h hl hk => intro h; cases h
    | any v h1 => exact fun _ => .any v h1
  exact key d v h hd
theorem VR.mapA (hb : w.heap[b]? = some (.map es clock)) {d : D} {v : Value} (h : VR M A w d v) (hd : noMapA d = true) : VR M A { w with heap := w.heap.setIfInBounds b ob } d v := by
  cases d with
  | agg l =>
    cases h with | agg _ us hl h =>
    simp only [noMapA, List.all_eq_true] at hd
    exact .agg _ us hl fun i d hi => (h i d hi).mapS hb (hd d (List.mem_of_getElem? hi))
  | _ => exact VR.mapS hb h (by simpa only [noMapA] using hd)
theorem VR.mapD (hb : w.heap[b]? = some (.map es clock)) {d : D} {v : Value} (h : VR M A w d v) (hd : noMap d = true) : VR M A { w with heap := w.heap.setIfInBounds b ob } d v := by
  cases d with
  | tup l =>
    cases h with | tup _ us hl h =>
    simp only [noMap, List.all_eq_true] at hd
    exact .tup _ us hl fun i d hi => (h i d hi).mapA hb (hd d (List.mem_of_getElem? hi))
  | _ => exact VR.mapA hb h (by simpa only [noMap] using hd)
end
/-- the map k holds l' from now on -/
def mapTo (k : Nat) (l l' : List (Int × Int)) : List (Nat × D) → List (Nat × D) → Prop
  | [], [] => True
  | (t, d) :: L, (t', d') :: L' => (t = t' ∧ (d' = .dead ∨ (d' = d ∧ noMap d = true) ∨ (d = .map k l ∧ d' = .map k l'))) ∧ mapTo k l l' L L'
  | _, _ => False
theorem mapTo_ok {k : Nat} {l l' : List (Int × Int)} : ∀ {L L' : List (Nat × D)}, mapTo k l l' L L' → ∀ t, (look L' t = none) ∨ ∃ d d', look L t = some d ∧ look L' t = some d' ∧ (d' = .dead ∨ (d' = d ∧ noMap d = true) ∨ (d = .map k l ∧ d' = .map k l'))
  | [], [], _, t => .inl rfl
  | (x, d) :: L, (x', d') :: L', h, t => by
    obtain ⟨⟨rfl, h1⟩, h2⟩ := h
    by_cases hx : x = t
    · subst hx; exact .inr ⟨d, d', look_cons_self _ _ _, look_cons_self _ _ _, h1⟩
    · rw [look_cons_ne hx, look_cons_ne hx]; exact mapTo_ok h2 t
  | [], _ :: _, h, _ => h.elim
  | _ :: _, [], h, _ => h.elim
def mapC (k : Nat) (l l' : List (Int × Int)) (L : List (Nat × D)) (P : List (Nat × D) → Prop) : Prop := ∃ L', mapTo k l l' L L' ∧ P L'
theorem mapC_nil {k : Nat} {l l' : List (Int × Int)} {P : List (Nat × D) → Prop} (h : P []) : mapC k l l' [] P := ⟨[], trivial, h⟩
theorem mapC_hit {k : Nat} {l l' : List (Int × Int)} {t : Nat} {L : List (Nat × D)} {P : List (Nat × D) → Prop} (h : mapC k l l' L fun L' => P ((t, .map k l') :: L')) : mapC k l l' ((t, .map k l) :: L) P := let ⟨L', h1, h2⟩ := h; ⟨(t, .map k l') :: L', ⟨⟨rfl, .inr (.inr ⟨rfl, rfl⟩)⟩, h1⟩, h2⟩
theorem mapC_same {k : Nat} {l l' : List (Int × Int)} {t : Nat} {d : D} {L : List (Nat × D)} {P : List (Nat × D) → Prop} (hd : noMap d = true) (h : mapC k l l' L fun L' => P ((t, d) :: L')) : mapC k l l' ((t, d) :: L) P := let ⟨L', h1, h2⟩ := h; ⟨(t, d) :: L', ⟨⟨rfl, .inr (.inl ⟨rfl, hd⟩)⟩, h1⟩, h2⟩
theorem mapC_dead {k : Nat} {l l' : List (Int × Int)} {t : Nat} {d : D} {L : List (Nat × D)} {P : List (Nat × D) → Prop} (h : mapC k l l' L fun L' => P ((t, .dead) :: L')) : mapC k l l' ((t, d) :: L) P := let ⟨L', h1, h2⟩ := h; ⟨(t, .dead) :: L', ⟨⟨rfl, .inl rfl⟩, h1⟩, h2⟩
theorem oMapSet (hT : TTOK C.P TT) {k : Nat} (hk0 : C.w0.heap.size ≤ k) (hg : o.guard = none) {t : TypeId} {x y z : Operand} {l : List (Int × Int)} {a b : Int} (hop : o.op = .mapUpdate t x y z ∨ o.op = .insert t x y z) (hd : o.dst = none) (hty : look TT t = some .mp)
    (hx : (PS.ev ⟨tm, rw', bx⟩ x) = .map k l) (hy : (PS.ev ⟨tm, rw', bx⟩ y) = .int a) (hz : (PS.ev ⟨tm, rw', bx⟩ z) = .int b) (hbx : (bx.all fun p => match p.2 with | some cs => cs.all noMapS | none => true) = true)
    (h : mapC k l (mset l a b) tm fun tm' => VO C ops K rest ⟨tm', rw', bx⟩) : VO C ops K (o :: rest) ⟨tm, rw', bx⟩ := by
  obtain ⟨tm', hm, h⟩ := h
  refine vOp hg ⟨fun M ac w Q K' hr hk => ?_⟩
  obtain ⟨⟨kt, et, hu, hkt, _⟩, _⟩ := hT t _ hty
  have hvx := hr.ev x
  have hvy := hr.ev y
  have hvz := hr.ev z
  rw [hx] at hvx
  rw [hy] at hvy
  rw [hz] at hvz
  have e2 := hvy.int_inv
  have e3 := hvz.int_inv
  generalize hgx : ac.eval x = vx at hvx
  cases hvx with
  | map _ _ es clock hh hl hkk =>
    obtain ⟨es', clock', hrun, hl'⟩ := run_mapSetI (P := C.P) hu hkt hh hl a b
    have hex : (execOp ac.eval o).run C.P w = .ok .skip { w with heap := w.heap.setIfInBounds k (.map es' clock') } := by
      unfold execOp
      rcases hop with hop | hop
      · rw [hop]
        show ((do Instr.mapUpdate t (ac.eval x) (ac.eval y) (ac.eval z); pure Next.skip) : Sem Next).run C.P w = _
        rw [hgx, e2, e3, Sem.run_bind, hrun]; rfl
      · rw [hop]
        show ((do Instr.mapUpdate t (ac.eval x) (ac.eval y) (ac.eval z); pure Next.skip) : Sem Next).run C.P w = _
        rw [hgx, e2, e3, Sem.run_bind, hrun]; rfl
    unfold Oper.wp
    rw [hex]
    have hlt := heap_lt hh
    have hoth : ∀ x, x ≠ k → (w.heap.setIfInBounds k (.map es' clock'))[x]? = w.heap[x]? := fun x hx => heap_other x hx
    have hself : (w.heap.setIfInBounds k (Obj.map es' clock'))[k]? = some (.map es' clock') := by simp [hlt]
    have hcells : ∀ x c e fr, w.heap[x]? = some (.cells c e fr) → x ≠ k := fun y c e fr hy' hyk => by rw [hyk, hh] at hy'; cases hy'
    refine hk M _ _ _ h ?_
    rw [hd]
    refine ⟨?_, hr.dfr, hr.sz, fun t => ?_, fun c cs hc => ?_, hr.boxn, fun r e q hrr => ?_, hr.rown, hr.low, hr.inj1, hr.inj2, hr.inj3, hr.nle, hr.fxb, hr.fxr⟩
    · refine hr.fr.step rfl rfl rfl (by simp) fun x h1 h2 => hoth x fun e => ?_
      subst e
      omega
    · show VR _ _ _ (PS.t ⟨tm', rw', bx⟩ t) _
      simp only [PS.t]
      rcases mapTo_ok hm t with h1 | ⟨d, d', h1, h2, h3⟩
      · rw [h1]; exact .dead _
      · rw [h2]
        have hv := hr.tmp t
        simp only [PS.t, h1] at hv
        rcases h3 with rfl | ⟨rfl, h4⟩ | ⟨rfl, rfl⟩
        · exact .dead _
        · exact hv.mapD hh h4
        · show VR _ _ _ _ (ac.tmps.getD t undef)
          generalize ac.tmps.getD t undef = vt at hv
          cases hv with
          | map _ _ es2 clock2 hh2 hl2 hk2 => exact .map _ _ es' clock' hself hl' hk2
    · obtain ⟨k', cur, e, g1, g2, g3, g4⟩ := hr.box c cs hc
      refine ⟨k', cur, e, g1, (hoth k' (hcells _ _ _ _ g2)).trans g2, g3, fun j d hj => ?_⟩
      have hno : noMapS d = true := by
        rw [List.all_eq_true] at hbx
        have hl : look bx c = some (some cs) := by
          simp only [PS.b] at hc
          cases hl : look bx c with
          | none => rw [hl] at hc; cases hc
          | some y => rw [hl] at hc; simp only at hc; rw [hc]
        have := hbx _ (look_mem hl)
        simp only [List.all_eq_true] at this
        exact this d (List.mem_of_getElem? hj)
      exact (g4 j d hj).mapS hh hno
    · rcases hr.row r e q hrr with ⟨g1, g2⟩ | ⟨g, cap, cur, g1, g2, g3, g4, g5, g6⟩
      · exact .inl ⟨g1, g2⟩
      · refine .inr ⟨g, cap, cur, g1, (hoth g (hcells _ _ _ _ g2)).trans g2, g3, g4, g5, fun i j d hi hj => (g6 i j d hi hj).mapS hh ?_⟩
        cases q <;> simp only [Sq.elem] at hj <;> rcases j with _ | _ | j <;> simp at hj <;> subst hj <;> rfl
/-- a new map -/
theorem oMakeMap (hg : o.guard = none) {t : TypeId} {b : Nat} (hop : o.op = .makeMap t none) (hd : o.dst = some b) (hn : Nat.blt b C.n = true) (h : ∀ k, C.w0.heap.size ≤ k → VO C ops K rest ⟨(b, .map k []) :: tm, rw', bx⟩) : VO C ops K (o :: rest) ⟨tm, rw', bx⟩ := by
  refine vOp hg ⟨fun M ac w Q K' hr hk => ?_⟩
  have hex : (execOp ac.eval o).run C.P w = .ok (.value (.map (some w.heap.size))) (w.alloc (.map #[] 0)) := by
    unfold execOp
    rw [hop]
    rfl
  unfold Oper.wp
  rw [hex]
  have h1 : Rel C.w0 C.O0 C.n M ⟨tm, rw', bx⟩ ac (w.alloc (.map #[] 0)) := hr.later rfl rfl rfl (by simp) fun k h1 => Below.heap_alloc w _ k h1
  refine hk M _ _ _ (h w.heap.size hr.fr.size) ?_
  rw [hd]
  exact h1.put (o := some b) (d := .map w.heap.size []) hn (.map _ [] #[] 0 (Array.getElem?_push_size (xs := w.heap)) rfl ⟨fun ho => Nat.lt_irrefl _ (hr.lt _ ho), .inl hr.fr.size⟩)
end
end Go.Proofs.Ytkpmijmlbpdknaa
