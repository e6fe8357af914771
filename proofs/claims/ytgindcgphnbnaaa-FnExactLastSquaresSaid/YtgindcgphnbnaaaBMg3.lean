/- Texts that the proof needs, put together: M5 M6 Vt Wr Shb Pa G1 G2 G3 G4 G6 G8 G10 G7 G11 G12 G5 G14 G15 Pb G24 G26 G28 G66 Pmk Pc M7 G58 Qe G60 G62 Qf G59 G61. -/
import Derived.Laws.CopyRow
import Derived.Test.YtgindcgphnbnaaaChecked
import Derived.Laws.StructEq
import Derived.Test.YtgindcgphnbnaaaBMg2
namespace Go.Proofs.Ytgindcgphnbnaaa
open Go.RowKit Go.Deep
set_option linter.unusedSimpArgs false
set_option linter.unusedVariables false

section
variable {C : Cx} {ops : Array Oper} {K : PS → Prop} {o : Oper} {rest : List Oper} {s s' : PS} {TT : List (Nat × Ty)} {tm : List (Nat × D)} {rw' : List (Nat × Option (TypeId × Sq))} {bx : List (Nat × Option (List D))} {cr B : List Nat} {j : Nat}
/-- a slice without elements, written out -/
theorem sEmpty (hT : TTOK C.P TT) {t e : TypeId} {k : Sq} {by' b : Nat} (hop : o.op = .buildSlice t 0 #[]) (hd : o.dst = some b) (hy : look TT t = some (.sl e k by')) (hn : Nat.blt b C.n = true) (h : K (s.put (some b) .nil)) : Step C o s K := ⟨fun M a w Q K' hr hk => by
  have hrun : (execOp a.eval o).run C.P w = .ok (.value (.slice (some ⟨w.heap.size, 0, none⟩) 0 0)) (w.alloc (.cells #[] e)) := by
    have := run_buildSlice (hT t _ hy) w 0 #[] #[] (by omega) (fun cells hc => by
      have : cells = #[] := by apply Array.eq_empty_of_size_eq_zero; simpa using hc
      subst this; rfl)
    unfold execOp
    rw [hop]
    show ((do pure (Next.value (← Instr.buildSlice t 0 ((#[] : Array (Nat × Operand)).map fun (p : Nat × Operand) => (p.1, a.eval p.2)))) : Sem Next)).run C.P w = _
    rw [show (#[] : Array (Nat × Operand)).map (fun (p : Nat × Operand) => (p.1, a.eval p.2)) = #[] from by simp, Sem.run_bind, this]
    rfl
  unfold Oper.wp
  rw [hrun]
  have h1 : Rel C.w0 C.O0 C.n M s a (w.alloc (.cells #[] e)) := hr.later rfl rfl rfl (by simp) fun k h1 => Below.heap_alloc w _ k h1
  exact hk M _ _ _ h (by rw [hd]; exact h1.put hn (.nil _))⟩
theorem klS_id {r : Nat} {d : D} (h : mentS noB (isR r) d = false) : klS r d = d := by
  have hb : ∀ x, isR r x = false → Nat.beq x r = false := fun x hx => by
    cases hh : Nat.beq x r with
    | false => rfl
    | true => rw [Nat.eq_of_beq_eq_true hh] at hx; simp [isR, Nat.beq_refl] at hx
  cases d <;> simp only [mentS] at h <;> try rfl
  · simp [klS, hb _ h]
  · simp [klS, hb _ h]
  · cases h
  · cases h
theorem klA_id {r : Nat} {d : D} (h : mentA noB (isR r) d = false) : klA r d = d := by
  cases d with
  | agg l =>
    simp only [mentA, List.any_eq_false] at h
    simp only [klA]
    congr 1
    conv => rhs; rw [← List.map_id l]
    exact List.map_congr_left fun x hx => klS_id (by simpa using h x hx)
  | _ => exact klS_id (by simpa only [mentA] using h)
theorem kl_id {r : Nat} {d : D} (h : ment noB (isR r) d = false) : kl r d = d := by
  cases d with
  | tup l =>
    simp only [ment, List.any_eq_false] at h
    simp only [kl]
    congr 1
    conv => rhs; rw [← List.map_id l]
    exact List.map_congr_left fun x hx => klA_id (by simpa using h x hx)
  | _ => exact klA_id (by simpa only [ment] using h)
/-- append onto an empty slice: a new row -/
theorem sAppNil (hT : TTOK C.P TT) {t e : TypeId} {k q2 q' : Sq} {by' b : Nat} {x y : Operand} {f : Bool} (hop : o.op = .call { callee := .builtin .append, args := #[x, y], argTypes := #[t, t] }) (hd : o.dst = some b) (hy : look TT t = some (.sl e k by'))
    (hx : s.ev x = .nil) (hk0 : Nat.beq k.len 0 = true) (hf : Fresh s noB (isR b)) (hyy : s.ev y = .ro f q2) (hs : ∀ s, srcSq s (.ro f q2) = some (True, q2)) (happ : k.app q2 = some q') (hb : Nat.ble by' 32 = true) (hn : Nat.blt b C.n = true)
    (hbd : q2.len ≤ 4294967296) (h : K ((s.setR b (some (e, q'))).put (some b) (.row b 0 q'.len))) : Step C o s K := ⟨fun M a w Q K' hrl hkk => by
  have e1 := hrl.ev x
  rw [hx] at e1
  have hkl := Nat.eq_of_beq_eq_true hk0
  have hb1000 : b < 1000000 := by have h1000 := hrl.nle; rw [Nat.blt_eq] at hn; omega
  obtain ⟨ao1, hao1⟩ := e1.nil_inv
  obtain ⟨M1, hr1, hv1'⟩ := hrl.nilRow (r := b) (e := e) (q := k) hkl hf hb1000
  have e2 := hr1.ev y
  have hyy' : (s.setR b (some (e, k))).ev y = .ro f q2 := by rw [← hyy]; cases y <;> rfl
  rw [hyy'] at e2
  obtain ⟨news, hsrc⟩ := src_ok hr1 e2 (hs _) trivial
  have hb' := Nat.le_of_ble_eq_true hb
  have hbd' : k.len + q2.len ≤ 4294967296 := by omega
  obtain ⟨v', w', M', h1, h2, h3, _⟩ := append_ok (P := C.P) (ty := o.type) hr1 (hT t _ hy) rfl (r := b) (q := k) (by rw [PS.r_setR, if_pos rfl]) (hv1' ao1) (Nat.zero_le _) hsrc (q' := q') (by rw [← hkl, Sq.take_len]; exact happ) (by rw [Nat.zero_add]; have := Nat.mul_le_mul hbd hb'; omega) (by unfold maxLen; omega) hb1000
  rw [← hao1] at h1
  unfold Oper.wp
  rw [run_app hop h1]
  refine hkk M' _ _ _ h ?_
  rw [hd]
  have hl := (Sq.app_ok happ).1
  rw [hkl] at hl
  rw [← hl] at h3
  have h4 := h2.put (o := some b) hn h3
  refine h4.same (fun x => ?_) (fun r => ?_) (fun c => ?_)
  · rw [PS.t_put, PS.t_put]
    split
    · rfl
    · have : (((s.setR b (some (e, k))).kill b).setR b (some (e, q'))).t x = kl b (s.t x) := PS.t_kill (s.setR b (some (e, k))) b x
      rw [this, kl_id (hf.t x)]; rfl
  · rw [PS.r_put, PS.r_put, PS.r_setR, PS.r_setR]
    split
    · rfl
    · rename_i hne
      have : ((s.setR b (some (e, k))).kill b).r r = (s.setR b (some (e, k))).r r := rfl
      rw [this, PS.r_setR, if_neg hne]
  · rw [PS.b_put, PS.b_put]
    have : (((s.setR b (some (e, k))).kill b).setR b (some (e, q'))).b c = (s.b c).map fun cs => cs.map (klS b) := PS.b_kill (s.setR b (some (e, k))) b c
    rw [this]
    have hsb : (s.setR b (some (e, q'))).b c = s.b c := rfl
    rw [hsb]
    cases hc : s.b c with
    | none => rfl
    | some cs =>
      simp only [Option.map_some]
      congr 1
      conv => lhs; rw [← List.map_id cs]
      exact (List.map_congr_left fun d hd' => klS_id (hf.b c cs hc d hd')).symm⟩

theorem oStepW (hw : Wanted C ops o s) (h : Step C o s (VO C ops K rest)) : VO C ops K (o :: rest) s := by
  rcases hw with hg | ⟨j, want, t, b, hg, hd, ht, hs, hb⟩
  · exact vOp hg h
  · exact vOpG hg hd ht hs hb h
theorem oEmpty (hT : TTOK C.P TT) (hw : Wanted C ops o ⟨tm, rw', bx⟩) {t e : TypeId} {k : Sq} {by' b : Nat} (hop : o.op = .buildSlice t 0 #[]) (hd : o.dst = some b) (hy : look TT t = some (.sl e k by')) (hn : Nat.blt b C.n = true) (h : VO C ops K rest ⟨(b, .nil) :: tm, rw', bx⟩) : VO C ops K (o :: rest) ⟨tm, rw', bx⟩ :=
  oStepW hw (sEmpty hT hop hd hy hn h)
theorem oAppNil (hT : TTOK C.P TT) (hw : Wanted C ops o ⟨tm, rw', bx⟩) {t e : TypeId} {k q2 q' q'' : Sq} {by' b m' : Nat} {x y : Operand} {f : Bool} (hop : o.op = .call { callee := .builtin .append, args := #[x, y], argTypes := #[t, t] }) (hd : o.dst = some b) (hy : look TT t = some (.sl e k by'))
    (hx : (PS.ev ⟨tm, rw', bx⟩ x) = .nil) (hk0 : Nat.beq k.len 0 = true) (hf : frB ⟨tm, rw', bx⟩ noB (isR b) = true) (hyy : (PS.ev ⟨tm, rw', bx⟩ y) = .ro f q2) (hs : ∀ s, srcSq s (.ro f q2) = some (True, q2)) (happ : k.app q2 = some q') (hb : Nat.ble by' 32 = true) (hn : Nat.blt b C.n = true)
    (hq' : fcQ q' some = some q'') (hm' : lenK q' some = some m') (hbd : q2.len ≤ 4294967296) (h : VO C ops K rest ⟨(b, .row b 0 m') :: tm, (b, some (e, q'')) :: rw', bx⟩) : VO C ops K (o :: rest) ⟨tm, rw', bx⟩ := by
  rw [fcQ_eq] at hq'
  rw [lenK_eq] at hm'
  cases hq'
  cases hm'
  exact oStepW hw (sAppNil hT hop hd hy hx hk0 (frB_ok hf) hyy hs happ hb hn hbd h)
/-! ### appends, stores and calls that write, in a region that draws its order -/
theorem Step.same (h : Step C o s (fun s' => ∃ s'', K s'' ∧ (∀ x, s''.t x = s'.t x) ∧ (∀ r, s''.r r = s'.r r) ∧ ∀ b, s''.b b = s'.b b)) : Step C o s K := ⟨fun M a w Q K' hr hk =>
  h.out M a w Q K' hr fun M' s' a' w' ⟨s'', h1, h2, h3, h4⟩ hr' => hk M' s'' a' w' h1 (hr'.same h2 h3 h4)⟩
/-- append onto a row, which has another name from then on -/
theorem sAppMove (hT : TTOK C.P TT) {t e : TypeId} {k q q2 q' : Sq} {by' b r m : Nat} {x y : Operand} {dy : D} {ob : Prop} (hop : o.op = .call { callee := .builtin .append, args := #[x, y], argTypes := #[t, t] }) (hd : o.dst = some b) (hy : look TT t = some (.sl e k by'))
    (hx : s.ev x = .row r 0 m) (hr : s.r r = some (e, q)) (hk : Nat.beq k.sz q.sz = true) (hyy : s.ev y = dy) (hs : srcSq s dy = some (ob, q2)) (happ : q.app q2 = some q') (hb : Nat.ble by' 32 = true) (hn : Nat.blt b C.n = true) (hf : Fresh s noB (isR b)) (hbr : Nat.beq b r = false)
    (hm : m = q.len) (hob : ob) (hbd : q.len + q2.len ≤ 4294967296) (hlo : Nat.ble r 999999 = true) : Step C o s (fun s' => s' = s.ap (some b) ⟨.row b 0 q'.len, [(b, some (e, q')), (r, none)], []⟩) := ⟨fun M a w Q K' hrl hkk => by
  have e1 := hrl.ev x
  have e2 := hrl.ev y
  rw [hx] at e1
  rw [hyy] at e2
  obtain ⟨news, hsrc⟩ := src_ok hrl e2 hs hob
  subst hm
  have hb' := Nat.le_of_ble_eq_true hb
  have hne : b ≠ r := fun e => by subst e; rw [Nat.beq_refl] at hbr; cases hbr
  have hb1000 : b < 1000000 := by have h1000 := hrl.nle; rw [Nat.blt_eq] at hn; omega
  have hr1000 : r < 1000000 := by have := Nat.le_of_ble_eq_true hlo; omega
  obtain ⟨v', w', M', h1, h2, h3, h4⟩ := append_ok (P := C.P) (ty := o.type) hrl (hT t _ hy) (Nat.eq_of_beq_eq_true hk) hr e1 (Nat.le_refl _) hsrc (by rw [Sq.take_len]; exact happ) (by have := Nat.mul_le_mul hbd hb'; omega) (by unfold maxLen; omega) hr1000
  unfold Oper.wp
  rw [run_app hop h1]
  let M2 : Mp := ⟨M.β, fun y => if y = b then M'.γ r else if y = r then none else M.γ y⟩
  have o1 : ∀ k, M2.owned k → M'.owned k := by
    rintro k (⟨c, hc⟩ | ⟨y, c, z, hy'⟩)
    · exact .inl ⟨c, by rw [h4.β]; exact hc⟩
    · simp only [M2] at hy'
      split at hy'
      · exact .inr ⟨r, c, z, hy'⟩
      · split at hy'
        · cases hy'
        · rename_i _ hyr; exact .inr ⟨y, c, z, by rw [h4.γ y hyr]; exact hy'⟩
  have hA : ∀ f k, k < w.heap.size → Ow (Fs C.w0 C.O0) M f k → Ow (Fs C.w0 C.O0) M2 f k ∧ k < w'.heap.size ∧ w'.heap[k]? = w.heap[k]? := fun f k g1 g2 => by
    obtain ⟨g3, g4, g5⟩ := h4.old f k g1 g2
    exact ⟨⟨fun ho => g3.1 (o1 k ho), g3.2⟩, g4, g5⟩
  have hA' : ∀ f k, k < w'.heap.size → Ow (Fs C.w0 C.O0) M' f k → Ow (Fs C.w0 C.O0) M2 f k ∧ k < w'.heap.size ∧ w'.heap[k]? = w'.heap[k]? := fun f k g1 g2 => ⟨⟨fun ho => g2.1 (o1 k ho), g2.2⟩, g1, rfl⟩
  have hγ : ∀ y z, isR b y = false → M2.γ y = some z → M.γ y = some z := fun y z g1 g2 => by
    simp only [M2] at g2
    split at g2
    · rename_i hyb; subst hyb; simp [isR, Nat.beq_refl] at g1
    · split at g2
      · cases g2
      · exact g2
  have hrow : ∀ y, y ≠ b → y ≠ r → M2.γ y = M.γ y := fun y g1 g2 => by simp [M2, g1, g2]
  have hoth : ∀ y c z k, y ≠ r → M.γ y = some (some (k, c, z)) → w'.heap[k]? = w.heap[k]? := fun y c z k g1 g2 => h4.oth k (.inr ⟨y, c, z, g2⟩) fun c' z' g3 => g1 (hrl.inj2 _ _ _ _ _ _ _ g2 g3)
  have hR : Rel C.w0 C.O0 C.n M2 ⟨s.tmp, (b, some (e, q')) :: (r, none) :: s.row, s.box⟩ a w' := by
    refine ⟨h2.fr, hrl.dfr, hrl.sz, fun x => ?_, fun c cs hc => ?_, fun c hc => hrl.boxn c hc, fun y e' p hy' => ?_, fun y hy' => ?_, fun k hk' => h2.low k (o1 k hk'), hrl.inj1, fun y y' k c z c' z' g1 g2 => ?_, fun c y k c' z g1 g2 => ?_, hrl.nle, hrl.fxb, fun y u u' g1 g2 => ?_⟩
    · exact VR.new (b := noB) (r := isR b) hA hγ (fun _ _ _ h => h) (hf.t x) (hrl.tmp x)
    · obtain ⟨k, cur, e', g1, g2, g3, g4⟩ := hrl.box c cs hc
      refine ⟨k, cur, e', g1, (h4.oth k (.inl ⟨c, g1⟩) fun c' z' g5 => hrl.inj3 _ _ _ _ _ g1 g5).trans g2, g3, fun i d hi => ?_⟩
      have hm' := hf.b c cs hc d (List.mem_of_getElem? hi)
      exact VR.newS (b := noB) (r := isR b) hA hγ (fun _ _ _ h => h) hm' (g4 i d hi)
    · by_cases hyb : y = b
      · subst hyb
        simp only [PS.r, look_cons_self, Option.some.injEq, Prod.mk.injEq] at hy'
        obtain ⟨rfl, rfl⟩ := hy'
        have hM : M2.γ y = M'.γ r := by simp [M2]
        rcases h2.row r e q' (by rw [PS.r_setR, if_pos rfl]) with ⟨g1, g2⟩ | ⟨g, cap, cur, g1, g2, g3, g4, g5, g6⟩
        · exact .inl ⟨hM.trans g1, g2⟩
        · exact .inr ⟨g, cap, cur, hM.trans g1, g2, g3, g4, g5, fun i j d hi hd' => (g6 i j d hi hd').elem_any hd' hA'⟩
      · by_cases hyr : y = r
        · subst hyr; simp only [PS.r, look_cons_ne (Ne.symm hyb), look_cons_self] at hy'; cases hy'
        · have hy2 : s.r y = some (e', p) := by simp only [PS.r, look_cons_ne (Ne.symm hyb), look_cons_ne (Ne.symm hyr)] at hy'; exact hy'
          rcases hrl.row y e' p hy2 with ⟨g1, g2⟩ | ⟨g, cap, cur, g1, g2, g3, g4, g5, g6⟩
          · exact .inl ⟨(hrow y hyb hyr).trans g1, g2⟩
          · exact .inr ⟨g, cap, cur, (hrow y hyb hyr).trans g1, (hoth y _ _ g hyr g1).trans g2, g3, g4, g5, fun i j d hi hd' => (g6 i j d hi hd').elem_any hd' hA⟩
    · by_cases hyb : y = b
      · subst hyb; simp only [PS.r, look_cons_self] at hy'; cases hy'
      · by_cases hyr : y = r
        · simp [M2, hyr, Ne.symm hne]
        · simp only [PS.r, look_cons_ne (Ne.symm hyb), look_cons_ne (Ne.symm hyr)] at hy'
          rw [hrow y hyb hyr]; exact hrl.rown y hy'
    · have case : ∀ y k c z, M2.γ y = some (some (k, c, z)) → (y = b ∧ M'.γ r = some (some (k, c, z))) ∨ (y ≠ b ∧ y ≠ r ∧ M'.γ y = some (some (k, c, z))) := fun y k c z g => by
        simp only [M2] at g
        split at g
        · exact .inl ⟨by assumption, g⟩
        · split at g
          · cases g
          · rename_i h5 h6; exact .inr ⟨h5, h6, by rw [h4.γ y h6]; exact g⟩
      rcases case _ _ _ _ g1 with ⟨rfl, g3⟩ | ⟨g3, g4, g5⟩
      · rcases case _ _ _ _ g2 with ⟨rfl, _⟩ | ⟨_, g7, g8⟩
        · rfl
        · exact absurd (h2.inj2 _ _ _ _ _ _ _ g3 g8).symm g7
      · rcases case _ _ _ _ g2 with ⟨rfl, g6⟩ | ⟨_, _, g8⟩
        · exact absurd (h2.inj2 _ _ _ _ _ _ _ g5 g6) g4
        · exact h2.inj2 _ _ _ _ _ _ _ g5 g8
    · have g1' : M'.β c = some k := by rw [h4.β]; exact g1
      simp only [M2] at g2
      split at g2
      · exact h2.inj3 _ _ _ _ _ g1' g2
      · split at g2
        · cases g2
        · rename_i _ h6; exact h2.inj3 c y k c' z g1' (by rw [h4.γ y h6]; exact g2)
    · have g3 := C.O0.lor y u g1
      rw [hrow y (by omega) (by omega)] at g2
      exact hrl.fxr y u u' g1 g2
  refine hkk M2 _ _ _ rfl ?_
  rw [hd]
  have hl := (Sq.app_ok happ).1
  rw [← hl] at h3
  have hv : VR M2 (Ow (Fs C.w0 C.O0) M2) w' (.row b 0 q'.len) v' := by
    cases h3 with
    | row _ _ _ _ g1 g2 => exact .row _ _ _ _ g1 fun x hx => g2 x (by simpa [M2] using hx)
  exact hR.put (o := some b) hn hv⟩
theorem nAppMove (hT : TTOK C.P TT) (hw : Wanted C ops o ⟨tm, rw', bx⟩) {t e : TypeId} {k q q2 q' q'' : Sq} {by' b r m m' : Nat} {x y : Operand} {dy : D} {ob : Prop} (hop : o.op = .call { callee := .builtin .append, args := #[x, y], argTypes := #[t, t] }) (hd : o.dst = some b) (hy : look TT t = some (.sl e k by'))
    (hx : (PS.ev ⟨tm, rw', bx⟩ x) = .row r 0 m) (hr : (PS.r ⟨tm, rw', bx⟩ r) = some (e, q)) (hk : Nat.beq k.sz q.sz = true) (hyy : (PS.ev ⟨tm, rw', bx⟩ y) = dy) (hs : srcSq ⟨tm, rw', bx⟩ dy = some (ob, q2)) (happ : q.app q2 = some q') (hb : Nat.ble by' 32 = true) (hn : Nat.blt b C.n = true) (hcr : cr.contains j = true) (hnm : nm ops j b = true) (hbr : Nat.beq b r = false)
    (hlo : Nat.ble r 999999 = true) (hq' : fcQ q' some = some q'') (hm' : lenK q' some = some m') (hvis : visB ops cr B j ⟨tm, rw', bx⟩ [x, y] = true) (hck : chkE ops cr B j ⟨.row b 0 m', [(b, some (e, q'')), (r, none)], []⟩ = true) (hm : m = q.len) (hob : ob) (hbd : q.len + q2.len ≤ 4294967296)
    (h : QN C ops cr B K (j + 1) rest ⟨(b, .row b 0 m') :: tm, (b, some (e, q'')) :: (r, none) :: rw', bx⟩) : QN C ops cr B K j (o :: rest) ⟨tm, rw', bx⟩ := by
  rw [fcQ_eq] at hq'
  rw [lenK_eq] at hm'
  cases hq'
  cases hm'
  refine nStep (e := ⟨.row b 0 _, [(b, some (e, _)), (r, none)], []⟩) hw hck (fun s1 hag => ?_) (by rw [hd]; exact h)
  have e1 := hag.ev x (by rw [hop]; simp [Op.operands, Call.operands])
  have e2 := hag.ev y (by rw [hop]; simp [Op.operands, Call.operands])
  have s1x := hag.same hvis x (by simp)
  have s1y := hag.same hvis y (by simp)
  rw [hx] at s1x
  rw [hyy] at s1y
  rw [hd]
  refine sAppMove hT hop hd hy (e1.trans hx) (by rw [s1x.row]; exact hr) hk (e2.trans hyy) ?_ happ hb hn (fresh_sub (hag.fr hcr) (fun x hx => by cases hx) (fun x hx => by rw [← Nat.eq_of_beq_eq_true hx]; exact hnm)) hbr hm hob hbd hlo
  cases dy <;> first | exact hs | (simp only [srcSq, s1y.row] at hs ⊢; exact hs)
/-! ### a field of a struct that is no variable -/
/-! ### maps -/
section
variable {M : Mp} {A : Bool → Nat → Prop} {w : World} {b clock : Nat} {es : Array MapEntry} {ob : Obj}
end
end
end Go.Proofs.Ytgindcgphnbnaaa

namespace Go.Proofs.Ytgindcgphnbnaaa
open Go.RowKit Go.Deep
set_option linter.unusedSimpArgs false
set_option linter.unusedVariables false
section
variable {P : Program} {w0 : World} {O0 : Hd} {n : Nat} {M : Mp} {s s' : PS} {a : Act} {w w' : World}
end
section
variable {C : Cx} {ops : Array Oper} {K : PS → Prop} {o : Oper} {rest : List Oper} {s s' : PS} {TT : List (Nat × Ty)} {tm : List (Nat × D)} {rw' : List (Nat × Option (TypeId × Sq))} {bx : List (Nat × Option (List D))}
end
end Go.Proofs.Ytgindcgphnbnaaa

namespace Go.Proofs.Ytgindcgphnbnaaa
open Go.RowKit
def TT : List (Nat × Ty) := [(1, .sc .nilFunc), (3, .sc (.int .i64 0)), (4, .sc (.bool false)), (9, .sc (.string ByteArray.empty)), (22, .sl 3 (.ints []) 8), (23, .sc .nilFunc), (24, .sc .nilFunc), (25, .sc .nilFunc), (26, .sc .nilFunc), (27, .sc .nilFunc), (28, .sl 154 (.pairs []) 16), (30, .st [(0, 1), (1, 1)] [.int .i64 0, .slice none 0 0]), (32, .st [(0, 2), (2, 1)] [.int .i64 0, .slice none 0 0, .slice none 0 0]), (33, .sl 92 (.raises []) 32), (34, .sc .nilFunc), (35, .sc .nilFunc), (36, .sc .nilFunc), (37, .sl 133 (.pairs []) 16), (39, .st [(0, 1), (1, 1)] [.int .i64 0, .slice none 0 0]), (41, .st [(0, 2), (2, 1)] [.int .i64 0, .slice none 0 0, .slice none 0 0]), (42, .sc .nilFunc), (43, .sl 93 (.raises []) 32), (44, .sc .nilFunc), (45, .sc .nilFunc), (46, .sc .nilFunc), (47, .sc .nilFunc), (48, .sc .nilFunc), (49, .sc .nilFunc), (51, .sc .nilFunc), (52, .sc .nilFunc), (53, .sc .nilFunc), (54, .sc .nilFunc), (55, .sl 158 (.pairs []) 16), (57, .st [(0, 2), (2, 1)] [.int .i64 0, .slice none 0 0, .slice none 0 0]), (59, .st [(0, 3), (3, 1)] [.int .i64 0, .slice none 0 0, .slice none 0 0, .slice none 0 0]), (60, .sc .nilFunc), (61, .sc .nilFunc), (62, .sl 118 (.pairs []) 16), (64, .st [(0, 2), (2, 1)] [.int .i64 0, .slice none 0 0, .slice none 0 0]), (66, .st [(0, 3), (3, 1)] [.int .i64 0, .slice none 0 0, .slice none 0 0, .slice none 0 0]), (67, .sc .nilFunc), (68, .sc .nilFunc), (69, .sc .nilFunc), (70, .sl 62 (.pairss []) 24), (72, .sc .nilFunc), (73, .sc .nilFunc), (74, .sc .nilFunc), (75, .sc .nilFunc), (77, .sc .nilFunc), (78, .sc .nilFunc), (79, .sl 22 (.intss []) 24), (81, .sc .nilFunc), (82, .sc .nilFunc), (83, .sc .nilFunc), (84, .sc .nilFunc), (85, .sc .nilFunc), (86, .sc .nilFunc), (87, .sc .nilFunc), (88, .sc .nilFunc), (89, .sc .nilFunc), (90, .sc .nilFunc), (92, .st [(0, 1), (1, 1)] [.int .i64 0, .slice none 0 0]), (93, .st [(0, 1), (1, 1)] [.int .i64 0, .slice none 0 0]), (94, .sc .nilFunc), (95, .sc .nilFunc), (96, .sc .nilFunc), (97, .sc .nilFunc), (98, .sc .nilFunc), (99, .sc .nilFunc), (100, .sc .nilFunc), (101, .sc .nilFunc), (102, .sl 9 (.strs []) 16), (103, .sc .nilFunc), (104, .sc .nilFunc), (105, .sc .nilFunc), (106, .sc .nilFunc), (107, .sc .nilFunc), (108, .sc .nilFunc), (109, .sc .nilFunc), (110, .sc .nilFunc), (111, .sc .nilFunc), (113, .sc .nilFunc), (114, .sc .nilFunc), (115, .sc .nilFunc), (116, .sc .nilFunc), (118, .st [(0, 1), (1, 1)] [.int .i64 0, .int .i64 0]), (119, .sc .nilFunc), (120, .sc .nilFunc), (121, .sc .nilFunc), (122, .sc .nilFunc), (123, .sc .nilFunc), (125, .sc .nilFunc), (126, .sc .nilFunc), (127, .sc .nilFunc), (128, .sl 4 (.bools []) 1), (129, .sc .nilFunc), (130, .sc .nilFunc), (131, .sc .nilFunc), (133, .st [(0, 1), (1, 1)] [.int .i64 0, .int .i64 0]), (134, .sc .nilFunc), (135, .sc .nilFunc), (136, .sc .nilFunc), (137, .sc .nilFunc), (139, .sc .nilFunc), (140, .sc .nilFunc), (141, .sc .nilFunc), (142, .sc .nilFunc), (143, .sc .nilFunc), (144, .sc .nilFunc), (145, .sc .nilFunc), (147, .sc .nilFunc), (148, .sc .nilFunc), (149, .sc .nilFunc), (150, .sc .nilFunc), (151, .sc .nilFunc), (153, .sc .nilFunc), (154, .st [(0, 1), (1, 1)] [.int .i64 0, .int .i64 0]), (155, .sc .nilFunc), (156, .sc .nilFunc), (157, .sc .nilFunc), (158, .st [(0, 1), (1, 1)] [.int .i64 0, .int .i64 0]), (159, .sc .nilFunc), (160, .sc .nilFunc), (161, .sc .nilFunc), (164, .sc .nilFunc), (165, .sc .nilFunc), (166, .sc .nilFunc), (168, .sc .nilFunc), (169, .sc .nilFunc), (171, .sc .nilFunc), (174, .sc .nilFunc), (175, .sc .nilFunc), (176, .sc .nilFunc), (178, .sc .nilFunc), (181, .sc .nilFunc), (182, .sc .nilFunc), (188, .sc .nilFunc), (191, .sc .nilFunc)]
theorem tt : TTOK Try.prog TT := tt_ok (by kernel_rfl)
end Go.Proofs.Ytgindcgphnbnaaa

namespace Go.Proofs.Ytgindcgphnbnaaa
open Go.RowKit Go.Deep
set_option linter.unusedSimpArgs false
set_option linter.unusedVariables false
end Go.Proofs.Ytgindcgphnbnaaa

namespace Go.Proofs.Ytgindcgphnbnaaa
open Go.RowKit
set_option linter.unusedSimpArgs false
end Go.Proofs.Ytgindcgphnbnaaa

namespace Go.Proofs.Ytgindcgphnbnaaa
set_option linter.unusedVariables false
set_option linter.unusedSimpArgs false
section
variable {α β : Type}
theorem grd_R {x : Int} (h1 : -9223372036854775808 ≤ x) (h2 : x ≤ 9223372036854775807) (y : Option α) : grd (Rg64 x) y = y := grd_pos ⟨h1, h2⟩ y
theorem grd_T [inst : Decidable True] (x : Option α) : grd True x = x := grd_pos trivial x
theorem cnd_dt {p : Prop} [Decidable p] (h : p) (x y : α) : cnd (decide p) x y = x := by rw [decide_eq_true h]; rfl
theorem cnd_df {p : Prop} [Decidable p] (h : ¬ p) (x y : α) : cnd (decide p) x y = y := by rw [decide_eq_false h]; rfl
theorem cnd_eqt {a b : Int} (h : a = b) (x y : α) : cnd (a == b) x y = x := by simp [h]
theorem cnd_eqf {a b : Int} (h : ¬ a = b) (x y : α) : cnd (a == b) x y = y := by rw [show (a == b) = false by simpa using h]; rfl
theorem cnd_net {a b : Int} (h : ¬ a = b) (x y : α) : cnd (a != b) x y = x := by rw [show (a != b) = true by simpa using h]; rfl
theorem cnd_nef {a b : Int} (h : a = b) (x y : α) : cnd (a != b) x y = y := by simp [h]
theorem cnd_not (b : Bool) (x y : α) : cnd (!b) x y = cnd b y x := by cases b <;> rfl
theorem cnd_some (b : Bool) (x y : α) : cnd b (some x) (some y) = some (cnd b x y) := by cases b <;> rfl
theorem cnd_bool (b : Bool) : cnd b true false = b := by cases b <;> rfl
theorem tk0 (l : List α) : (l.take (0 + l.length)).drop 0 = l := by simp
/-- the first i of a list, then z -/
def cpy (a : List α) (z : α) (i : Nat) : List α := a.take i ++ List.replicate (a.length - i) z
theorem cpy_len (a : List α) (z : α) (i : Nat) : (cpy a z i).length = a.length := by simp [cpy]; omega
theorem cpy_zero (a : List α) (z : α) : List.replicate a.length z = cpy a z 0 := by simp [cpy]
theorem cpy_full (a : List α) (z : α) : cpy a z a.length = a := by simp [cpy]
theorem cpy_set (a : List α) (z y : α) (i : Nat) (h : i < a.length) (hy : a.getD i y = a.getD i y) : (cpy a z i).set i (a.getD i y) = cpy a z (i + 1) := by
  unfold cpy
  apply List.ext_getElem
  · simp; omega
  · intro j h1 h2
    simp at h1 h2
    rw [List.getElem_set]
    split
    · rename_i e; subst e
      rw [List.getElem_append_left (by simp; omega)]
      simp [List.getD_eq_getElem?_getD, h]
    · rcases Nat.lt_or_ge j i with hj | hj
      · rw [List.getElem_append_left (by simp; omega), List.getElem_append_left (by simp; omega)]; simp
      · rw [List.getElem_append_right (by simp; omega), List.getElem_append_right (by simp; omega)]; simp
end
/-! ### lengths of what is read -/
def lensS : D → Prop
  | .ro _ q => q.len ≤ 9223372036854775807
  | _ => True
def lensAll : List D → Prop
  | [] => True
  | d :: l => lensS d ∧ lensAll l
def lensP : D → Prop
  | .agg l => lensAll l
  | d => lensS d
theorem VR.lensS {M : Mp} {A : Bool → Nat → Prop} {w : World} {d : D} {v : Value} (h : VR M A w d v) : lensS d := by
  cases h <;> first | trivial | assumption
theorem lensAll_of {l : List D} (h : ∀ d ∈ l, lensS d) : lensAll l := by
  induction l with
  | nil => trivial
  | cons d l ih => exact ⟨h d (by simp), ih fun x hx => h x (by simp [hx])⟩
theorem VR.lens {M : Mp} {A : Bool → Nat → Prop} {w : World} {d : D} {v : Value} (h : VR M A w d v) : lensP d := by
  cases d with
  | agg l =>
    obtain ⟨us, rfl, hl, hv⟩ := h.agg_inv
    refine lensAll_of fun d hd => ?_
    obtain ⟨i, hi⟩ := List.getElem?_of_mem hd
    exact (hv i d hi).lensS
  | _ => exact h.lensS
end Go.Proofs.Ytgindcgphnbnaaa

namespace Go.Proofs.Ytgindcgphnbnaaa
open Go.RowKit
set_option linter.unusedVariables false
set_option linter.unusedSimpArgs false
def S_l1In (N : Nat) (x_0 : Int) (low_1 : Int) (high_2 : Int) : Option (Bool) :=
  cnd (decide (x_0 ≥ low_1)) (
    some (decide (x_0 ≤ high_2))) (
    some false)
set_option maxRecDepth 20000 in
set_option maxHeartbeats 1600000 in
theorem S_l1In_w (N : Nat) (x_0 : Int) (low_1 : Int) (high_2 : Int) (r : Bool) (h : S_l1In N x_0 low_1 high_2 = some r) : PCall Try.prog 120 [.int x_0, .int low_1, .int high_2] [] (.bool r) := by
  unfold S_l1In at h
  refine pcall_intro (TT := TT) tt Try.func120 rfl rfl Try.ntmps120 (congrArg Array.toList Try.results120) rfl rfl fun w0 => ?_
  refine vSeq ?_
  refine vRegion ?_
  refine oVal tt rfl rfl rfl rfl rfl trivial ?_
  refine vNil ?_
  change VC _ _ _ _
  refine vSeq ?_
  refine vRegion ?_
  iterate 4 refine oVal tt rfl rfl rfl rfl rfl trivial ?_
  refine oSplit rfl rfl rfl (fun hb1 => ?_) (fun hb1 => ?_)
  · replace h := cnd_t hb1 h
    iterate 3 refine oValG tt rfl rfl rfl rfl rfl hb1 rfl rfl rfl trivial ?_
    refine oPick rfl rfl rfl rfl rfl hb1 rfl ?_
    refine oVal tt rfl rfl rfl rfl rfl trivial ?_
    refine vNil ?_
    change VC _ _ _ _
    refine vRet ?_
    change ∃ _, _
    cases h
    exact ⟨[], _, rfl, trivial, rfl, (.eq rfl), rfl⟩
  · replace h := cnd_f hb1 h
    iterate 3 refine oNoT rfl rfl rfl rfl hb1 rfl rfl ?_
    refine oPickF rfl rfl rfl rfl rfl hb1 rfl ?_
    refine oVal tt rfl rfl rfl rfl rfl trivial ?_
    refine vNil ?_
    change VC _ _ _ _
    refine vRet ?_
    change ∃ _, _
    cases h
    exact ⟨[], _, rfl, trivial, rfl, (.eq rfl), rfl⟩
def S_l22Fine_l1 (N : Nat) (l_0 : List Int) (k : Unit → Option (Bool)) : Nat → Int → Option (Bool)
  | 0, _ => none
  | n + 1, i7 =>
    cnd (decide (i7 < (l_0.length : Int))) (
      grd (0 ≤ i7 ∧ i7 < (l_0.length : Int)) <|
      (S_l1In N (l_0.getD ((i7).toNat) 0) (0 : Int) (200 : Int)).bind fun v9 =>
      cnd (!v9) (
        some false) (
        grd (Rg64 (i7 + (1 : Int))) <|
        S_l22Fine_l1 N l_0 k n (i7 + (1 : Int)))) (
      k ())
def S_l22Fine (N : Nat) (l_0 : List Int) : Option (Bool) :=
  S_l22Fine_l1 N l_0 (fun (_ : Unit) =>
        some true) N (0 : Int)
set_option maxRecDepth 20000 in
set_option maxHeartbeats 1600000 in
theorem S_l22Fine_w (N : Nat) (l_0 : List Int) (r : Bool) (h : S_l22Fine N l_0 = some r) : PCall Try.prog 62 [.ro false (.ints l_0)] [] (.bool r) := by
  unfold S_l22Fine at h
  refine pcall_intro (TT := TT) tt Try.func62 rfl rfl Try.ntmps62 (congrArg Array.toList Try.results62) rfl rfl fun w0 => ?_
  refine vSeq ?_
  refine vRegion ?_
  refine oVal tt rfl rfl rfl rfl rfl trivial ?_
  refine vNil ?_
  change VC _ _ _ _
  iterate 2 refine vSeq ?_
  refine vRegion ?_
  refine oVal tt rfl rfl rfl rfl rfl trivial ?_
  refine vNil ?_
  change VC _ _ _ _
  refine vJoin (F := fun k => S_l22Fine_l1 N l_0 k) h (α := Unit) (J := fun (_ : Unit) => (⟨[], [], []⟩ : PS)) ?_ ?_
  · rintro ⟨⟩ h
    show VC _ _ _ (⟨[], [], []⟩ : PS)
    refine vSeq ?_
    refine vRegion ?_
    refine oVal tt rfl rfl rfl rfl rfl trivial ?_
    refine vNil ?_
    change VC _ _ _ _
    refine vRet ?_
    change ∃ _, _
    cases h
    exact ⟨[], _, rfl, trivial, rfl, (.eq rfl), rfl⟩
  · intro k h
    refine vBlock ?_
    refine vLoopS (α := Int) (fun (i7 : Int) => (⟨[(0, .ro false (.ints l_0)), (3, .int i7)], [], []⟩ : PS)) (S_l22Fine_l1 N l_0 k) h (En.of ⟨rfl, rfl, trivial⟩ trivial trivial) (fun _ => rfl) ?_
    rintro n i7 h
    rw [S_l22Fine_l1] at h
    show VC _ _ _ (⟨[(0, .ro false (.ints l_0)), (3, .int i7)], [], []⟩ : PS)
    iterate 2 refine vSeq ?_
    refine vRegion ?_
    iterate 4 refine oVal tt rfl rfl rfl rfl rfl trivial ?_
    refine vNil ?_
    change VC _ _ _ _
    refine vCond rfl (fun hb1 => ?_) (fun hb1 => ?_)
    · replace h := cnd_t hb1 h
      refine vSkip ?_
      change VC _ _ _ _
      refine vSeq ?_
      refine vBlock ?_
      refine vSeq ?_
      refine vRegion ?_
      iterate 2 refine oVal tt rfl rfl rfl rfl rfl trivial ?_
      obtain ⟨hg2, h⟩ := grd_inv h
      refine oVal tt rfl rfl rfl rfl rfl hg2 ?_
      refine oVal tt rfl rfl rfl rfl rfl trivial ?_
      obtain ⟨v9, hc3, h⟩ := bind_inv h
      refine oCall (S_l1In_w N (l_0.getD ((i7).toNat) 0) (0 : Int) (200 : Int) v9 hc3) rfl rfl rfl rfl rfl rfl rfl rfl ⟨rfl, rfl, rfl, trivial⟩ ?_
      refine oVal tt rfl rfl rfl rfl rfl trivial ?_
      refine vNil ?_
      change VC _ _ _ _
      refine vCond rfl (fun hb4 => ?_) (fun hb4 => ?_)
      · replace h := cnd_t hb4 h
        refine vSeq ?_
        refine vRegion ?_
        refine oVal tt rfl rfl rfl rfl rfl trivial ?_
        refine vNil ?_
        change VC _ _ _ _
        refine vRet ?_
        change ∃ _, _
        cases h
        exact ⟨[], _, rfl, trivial, rfl, (.eq rfl), rfl⟩
      · replace h := cnd_f hb4 h
        refine vSkip ?_
        change VC _ _ _ _
        refine vRegion ?_
        refine oVal tt rfl rfl rfl rfl rfl trivial ?_
        obtain ⟨hg5, h⟩ := grd_inv h
        refine oVal tt rfl rfl rfl rfl rfl hg5 ?_
        refine oVal tt rfl rfl rfl rfl rfl trivial ?_
        refine vNil ?_
        change ∃ _, _
        exact ⟨(i7 + (1 : Int)), (En.of ⟨rfl, rfl, trivial⟩ trivial trivial), h⟩
    · replace h := cnd_f hb1 h
      refine vExit ?_
      change ∃ _, _
      exact ⟨(), (En.of trivial trivial trivial), h⟩
def S_HeronOf (N : Nat) (a_0 : Int) (b_1 : Int) (c_2 : Int) : Option (Int) :=
  (S_l22Fine N ([a_0, b_1, c_2] : List Int)).bind fun v1 =>
  cnd (!v1) (
    some (0 : Int)) (
    grd (Rg64 (a_0 * b_1)) <|
    grd (Rg64 (b_1 * c_2)) <|
    grd (Rg64 ((a_0 * b_1) + (b_1 * c_2))) <|
    grd (Rg64 (c_2 * a_0)) <|
    grd (Rg64 (((a_0 * b_1) + (b_1 * c_2)) + (c_2 * a_0))) <|
    grd (Rg64 ((2 : Int) * (((a_0 * b_1) + (b_1 * c_2)) + (c_2 * a_0)))) <|
    grd (Rg64 (a_0 * a_0)) <|
    grd (Rg64 (((2 : Int) * (((a_0 * b_1) + (b_1 * c_2)) + (c_2 * a_0))) - (a_0 * a_0))) <|
    grd (Rg64 (b_1 * b_1)) <|
    grd (Rg64 ((((2 : Int) * (((a_0 * b_1) + (b_1 * c_2)) + (c_2 * a_0))) - (a_0 * a_0)) - (b_1 * b_1))) <|
    grd (Rg64 (c_2 * c_2)) <|
    grd (Rg64 (((((2 : Int) * (((a_0 * b_1) + (b_1 * c_2)) + (c_2 * a_0))) - (a_0 * a_0)) - (b_1 * b_1)) - (c_2 * c_2))) <|
    some (((((2 : Int) * (((a_0 * b_1) + (b_1 * c_2)) + (c_2 * a_0))) - (a_0 * a_0)) - (b_1 * b_1)) - (c_2 * c_2)))
set_option maxRecDepth 20000 in
set_option maxHeartbeats 1600000 in
theorem S_HeronOf_w (N : Nat) (a_0 : Int) (b_1 : Int) (c_2 : Int) (r : Int) (h : S_HeronOf N a_0 b_1 c_2 = some r) : PCall Try.prog 121 [.int a_0, .int b_1, .int c_2] [] (.int r) := by
  unfold S_HeronOf at h
  refine pcall_intro (TT := TT) tt Try.func121 rfl rfl Try.ntmps121 (congrArg Array.toList Try.results121) rfl rfl fun w0 => ?_
  refine vSeq ?_
  refine vRegion ?_
  refine oVal tt rfl rfl rfl rfl rfl trivial ?_
  refine vNil ?_
  change VC _ _ _ _
  iterate 2 refine vSeq ?_
  refine vRegion ?_
  iterate 3 refine oVal tt rfl rfl rfl rfl rfl trivial ?_
  refine oBuild tt rfl rfl rfl rfl rfl rfl rfl rfl rfl rfl rfl ?_
  obtain ⟨v1, hc1, h⟩ := bind_inv h
  refine oCall (S_l22Fine_w N ([a_0, b_1, c_2] : List Int) v1 hc1) rfl rfl rfl rfl rfl rfl rfl rfl ⟨(.inl ⟨rfl, rfl⟩), trivial⟩ ?_
  refine oVal tt rfl rfl rfl rfl rfl trivial ?_
  refine vNil ?_
  change VC _ _ _ _
  refine vCond rfl (fun hb2 => ?_) (fun hb2 => ?_)
  · replace h := cnd_t hb2 h
    refine vSeq ?_
    refine vRegion ?_
    refine oVal tt rfl rfl rfl rfl rfl trivial ?_
    refine vNil ?_
    change VC _ _ _ _
    refine vRet ?_
    change ∃ _, _
    cases h
    exact ⟨[], _, rfl, trivial, rfl, (.eq rfl), rfl⟩
  · replace h := cnd_f hb2 h
    refine vSkip ?_
    change VC _ _ _ _
    refine vSeq ?_
    refine vRegion ?_
    iterate 2 refine oVal tt rfl rfl rfl rfl rfl trivial ?_
    obtain ⟨hg3, h⟩ := grd_inv h
    refine oVal tt rfl rfl rfl rfl rfl hg3 ?_
    iterate 2 refine oVal tt rfl rfl rfl rfl rfl trivial ?_
    obtain ⟨hg4, h⟩ := grd_inv h
    refine oVal tt rfl rfl rfl rfl rfl hg4 ?_
    obtain ⟨hg5, h⟩ := grd_inv h
    refine oVal tt rfl rfl rfl rfl rfl hg5 ?_
    iterate 2 refine oVal tt rfl rfl rfl rfl rfl trivial ?_
    obtain ⟨hg6, h⟩ := grd_inv h
    refine oVal tt rfl rfl rfl rfl rfl hg6 ?_
    obtain ⟨hg7, h⟩ := grd_inv h
    refine oVal tt rfl rfl rfl rfl rfl hg7 ?_
    obtain ⟨hg8, h⟩ := grd_inv h
    refine oVal tt rfl rfl rfl rfl rfl hg8 ?_
    iterate 2 refine oVal tt rfl rfl rfl rfl rfl trivial ?_
    obtain ⟨hg9, h⟩ := grd_inv h
    refine oVal tt rfl rfl rfl rfl rfl hg9 ?_
    obtain ⟨hg10, h⟩ := grd_inv h
    refine oVal tt rfl rfl rfl rfl rfl hg10 ?_
    iterate 2 refine oVal tt rfl rfl rfl rfl rfl trivial ?_
    obtain ⟨hg11, h⟩ := grd_inv h
    refine oVal tt rfl rfl rfl rfl rfl hg11 ?_
    obtain ⟨hg12, h⟩ := grd_inv h
    refine oVal tt rfl rfl rfl rfl rfl hg12 ?_
    iterate 2 refine oVal tt rfl rfl rfl rfl rfl trivial ?_
    obtain ⟨hg13, h⟩ := grd_inv h
    refine oVal tt rfl rfl rfl rfl rfl hg13 ?_
    obtain ⟨hg14, h⟩ := grd_inv h
    refine oVal tt rfl rfl rfl rfl rfl hg14 ?_
    refine oVal tt rfl rfl rfl rfl rfl trivial ?_
    refine vNil ?_
    change VC _ _ _ _
    refine vRet ?_
    change ∃ _, _
    cases h
    exact ⟨[], _, rfl, trivial, rfl, (.eq rfl), rfl⟩
def S_IsTriangle (N : Nat) (a_0 : Int) (b_1 : Int) (c_2 : Int) : Option (Bool) :=
  (S_l22Fine N ([a_0, b_1, c_2] : List Int)).bind fun v1 =>
  cnd v1 (
    (S_HeronOf N a_0 b_1 c_2).bind fun v2 =>
    some (decide (v2 ≥ (0 : Int)))) (
    some false)
set_option maxRecDepth 20000 in
set_option maxHeartbeats 1600000 in
theorem S_IsTriangle_w (N : Nat) (a_0 : Int) (b_1 : Int) (c_2 : Int) (r : Bool) (h : S_IsTriangle N a_0 b_1 c_2 = some r) : PCall Try.prog 66 [.int a_0, .int b_1, .int c_2] [] (.bool r) := by
  unfold S_IsTriangle at h
  refine pcall_intro (TT := TT) tt Try.func66 rfl rfl Try.ntmps66 (congrArg Array.toList Try.results66) rfl rfl fun w0 => ?_
  refine vSeq ?_
  refine vRegion ?_
  refine oVal tt rfl rfl rfl rfl rfl trivial ?_
  refine vNil ?_
  change VC _ _ _ _
  refine vSeq ?_
  refine vRegion ?_
  iterate 3 refine oVal tt rfl rfl rfl rfl rfl trivial ?_
  refine oBuild tt rfl rfl rfl rfl rfl rfl rfl rfl rfl rfl rfl ?_
  obtain ⟨v1, hc1, h⟩ := bind_inv h
  refine oCall (S_l22Fine_w N ([a_0, b_1, c_2] : List Int) v1 hc1) rfl rfl rfl rfl rfl rfl rfl rfl ⟨(.inl ⟨rfl, rfl⟩), trivial⟩ ?_
  refine oVal tt rfl rfl rfl rfl rfl trivial ?_
  refine oSplit rfl rfl rfl (fun hb2 => ?_) (fun hb2 => ?_)
  · replace h := cnd_t hb2 h
    iterate 3 refine oValG tt rfl rfl rfl rfl rfl hb2 rfl rfl rfl trivial ?_
    obtain ⟨v2, hc3, h⟩ := bind_inv h
    refine oCallG (S_HeronOf_w N a_0 b_1 c_2 v2 hc3) rfl rfl rfl rfl hb2 rfl rfl rfl rfl rfl rfl rfl ⟨rfl, rfl, rfl, trivial⟩ ?_
    refine oValG tt rfl rfl rfl rfl rfl hb2 rfl rfl rfl trivial ?_
    refine oPick rfl rfl rfl rfl rfl hb2 rfl ?_
    refine oVal tt rfl rfl rfl rfl rfl trivial ?_
    refine vNil ?_
    change VC _ _ _ _
    refine vRet ?_
    change ∃ _, _
    cases h
    exact ⟨[], _, rfl, trivial, rfl, (.eq rfl), rfl⟩
  · replace h := cnd_f hb2 h
    iterate 5 refine oNoT rfl rfl rfl rfl hb2 rfl rfl ?_
    refine oPickF rfl rfl rfl rfl rfl hb2 rfl ?_
    refine oVal tt rfl rfl rfl rfl rfl trivial ?_
    refine vNil ?_
    change VC _ _ _ _
    refine vRet ?_
    change ∃ _, _
    cases h
    exact ⟨[], _, rfl, trivial, rfl, (.eq rfl), rfl⟩
def L_toIntS_l1 (N : Nat) (a_0 : List Int) (k : (List Int) → Option (List Int)) : Nat → ((List Int) × Int) → Option (List Int)
  | 0, _ => none
  | n + 1, (l5, i6) =>
    cnd (decide (i6 < (a_0.length : Int))) (
      grd (0 ≤ i6 ∧ i6 < (a_0.length : Int)) <|
      grd (0 ≤ i6 ∧ i6 < ((List.replicate (((a_0.length : Int)).toNat) (0 : Int)).length : Int)) <|
      grd (0 ≤ i6 ∧ i6 < (l5.length : Int)) <|
      grd (Rg64 (i6 + (1 : Int))) <|
      L_toIntS_l1 N a_0 k n ((l5.set ((i6).toNat) (a_0.getD ((i6).toNat) 0)), (i6 + (1 : Int)))) (
      k l5)
def L_toIntS (N : Nat) (a_0 : List Int) : Option (List Int) :=
  grd (0 ≤ (a_0.length : Int) ∧ (a_0.length : Int) ≤ 4294967296) <|
  L_toIntS_l1 N a_0 (fun (l3 : List Int) =>
        grd ((List.replicate (((a_0.length : Int)).toNat) (0 : Int)).length = l3.length) <|
        some l3) N ((List.replicate (((a_0.length : Int)).toNat) (0 : Int)), (0 : Int))
set_option maxRecDepth 20000 in
set_option maxHeartbeats 1600000 in
theorem L_toIntS_w (N : Nat) (a_0 : List Int) (r : List Int) (h : L_toIntS N a_0 = some r) : PCall Try.prog 16 [.ro false (.ints a_0)] [(3, .ints r)] (.row 0 0 r.length) := by
  unfold L_toIntS at h
  refine pcall_intro (TT := TT) tt Try.func16 rfl rfl Try.ntmps16 (congrArg Array.toList Try.results16) rfl rfl fun w0 => ?_
  refine vSeq ?_
  refine vRegion ?_
  refine oVal tt rfl rfl rfl rfl rfl trivial ?_
  refine vNil ?_
  change VC _ _ _ _
  refine vSeq ?_
  refine vRegion ?_
  iterate 2 refine oVal tt rfl rfl rfl rfl rfl trivial ?_
  obtain ⟨hg1, h⟩ := grd_inv h
  refine oMake tt rfl rfl rfl rfl rfl rfl rfl rfl rfl rfl rfl hg1 ?_
  refine oVal tt rfl rfl rfl rfl rfl trivial ?_
  refine vNil ?_
  change VC _ _ _ _
  iterate 2 refine vSeq ?_
  refine vRegion ?_
  refine oVal tt rfl rfl rfl rfl rfl trivial ?_
  refine vNil ?_
  change VC _ _ _ _
  refine vJoin (F := fun k => L_toIntS_l1 N a_0 k) h (α := List Int) (J := fun (l3 : List Int) => (⟨[(3, .row 7 0 ((List.replicate (((a_0.length : Int)).toNat) (0 : Int)).length))], [(7, some (3, .ints l3))], []⟩ : PS)) ?_ ?_
  · rintro l3 h
    show VC _ _ _ (⟨[(3, .row 7 0 ((List.replicate (((a_0.length : Int)).toNat) (0 : Int)).length))], [(7, some (3, .ints l3))], []⟩ : PS)
    refine vSeq ?_
    refine vRegion ?_
    iterate 2 refine oVal tt rfl rfl rfl rfl rfl trivial ?_
    refine vNil ?_
    change VC _ _ _ _
    obtain ⟨hg2, h⟩ := grd_inv h
    refine vRet ?_
    change ∃ _, _
    cases h
    exact ⟨[7], _, rfl, ⟨rfl, trivial⟩, rfl, (.eq (by simp only [hg2]; rfl)), rfl⟩
  · intro k h
    refine vBlock ?_
    refine vLoopS (α := (List Int) × Int) (fun | (l5, i6) => (⟨[(0, .ro false (.ints a_0)), (3, .row 7 0 ((List.replicate (((a_0.length : Int)).toNat) (0 : Int)).length)), (4, .int i6)], [(7, some (3, .ints l5))], []⟩ : PS)) (L_toIntS_l1 N a_0 k) h (En.of ⟨rfl, rfl, rfl, trivial⟩ ⟨rfl, trivial⟩ trivial) (fun _ => rfl) ?_
    rintro n ⟨l5, i6⟩ h
    rw [L_toIntS_l1] at h
    show VC _ _ _ (⟨[(0, .ro false (.ints a_0)), (3, .row 7 0 ((List.replicate (((a_0.length : Int)).toNat) (0 : Int)).length)), (4, .int i6)], [(7, some (3, .ints l5))], []⟩ : PS)
    iterate 2 refine vSeq ?_
    refine vRegion ?_
    iterate 4 refine oVal tt rfl rfl rfl rfl rfl trivial ?_
    refine vNil ?_
    change VC _ _ _ _
    refine vCond rfl (fun hb3 => ?_) (fun hb3 => ?_)
    · replace h := cnd_t hb3 h
      refine vSkip ?_
      change VC _ _ _ _
      refine vSeq ?_
      refine vBlock ?_
      refine vRegion ?_
      iterate 4 refine oVal tt rfl rfl rfl rfl rfl trivial ?_
      obtain ⟨hg4, h⟩ := grd_inv h
      refine oVal tt rfl rfl rfl rfl rfl hg4 ?_
      refine oVal tt rfl rfl rfl rfl rfl trivial ?_
      obtain ⟨hg5, h⟩ := grd_inv h
      refine oVal tt rfl rfl rfl rfl rfl hg5 ?_
      obtain ⟨hg6, h⟩ := grd_inv h
      refine oStore tt rfl rfl rfl rfl rfl rfl rfl rfl rfl rfl ⟨_, _, rfl, hg6.1, hg6.2⟩ ⟨hg6, trivial⟩ ?_
      refine vNil ?_
      change VC _ _ _ _
      refine vRegion ?_
      refine oVal tt rfl rfl rfl rfl rfl trivial ?_
      obtain ⟨hg7, h⟩ := grd_inv h
      refine oVal tt rfl rfl rfl rfl rfl hg7 ?_
      refine oVal tt rfl rfl rfl rfl rfl trivial ?_
      refine vNil ?_
      change ∃ _, _
      exact ⟨((l5.set ((i6).toNat) (a_0.getD ((i6).toNat) 0)), (i6 + (1 : Int))), (En.of ⟨rfl, rfl, rfl, trivial⟩ ⟨rfl, trivial⟩ trivial), h⟩
    · replace h := cnd_f hb3 h
      refine vExit ?_
      change ∃ _, _
      exact ⟨l5, (En.of ⟨rfl, trivial⟩ ⟨rfl, trivial⟩ trivial), h⟩
def I_within (N : Nat) (x_0 : Int) (lo_1 : Int) (hi_2 : Int) : Option (Bool) :=
  cnd (decide (x_0 ≥ lo_1)) (
    some (decide (x_0 ≤ hi_2))) (
    some false)
set_option maxRecDepth 20000 in
set_option maxHeartbeats 1600000 in
theorem I_within_w (N : Nat) (x_0 : Int) (lo_1 : Int) (hi_2 : Int) (r : Bool) (h : I_within N x_0 lo_1 hi_2 = some r) : PCall Try.prog 112 [.int x_0, .int lo_1, .int hi_2] [] (.bool r) := by
  unfold I_within at h
  refine pcall_intro (TT := TT) tt Try.func112 rfl rfl Try.ntmps112 (congrArg Array.toList Try.results112) rfl rfl fun w0 => ?_
  refine vSeq ?_
  refine vRegion ?_
  refine oVal tt rfl rfl rfl rfl rfl trivial ?_
  refine vNil ?_
  change VC _ _ _ _
  refine vSeq ?_
  refine vRegion ?_
  iterate 4 refine oVal tt rfl rfl rfl rfl rfl trivial ?_
  refine oSplit rfl rfl rfl (fun hb1 => ?_) (fun hb1 => ?_)
  · replace h := cnd_t hb1 h
    iterate 3 refine oValG tt rfl rfl rfl rfl rfl hb1 rfl rfl rfl trivial ?_
    refine oPick rfl rfl rfl rfl rfl hb1 rfl ?_
    refine oVal tt rfl rfl rfl rfl rfl trivial ?_
    refine vNil ?_
    change VC _ _ _ _
    refine vRet ?_
    change ∃ _, _
    cases h
    exact ⟨[], _, rfl, trivial, rfl, (.eq rfl), rfl⟩
  · replace h := cnd_f hb1 h
    iterate 3 refine oNoT rfl rfl rfl rfl hb1 rfl rfl ?_
    refine oPickF rfl rfl rfl rfl rfl hb1 rfl ?_
    refine oVal tt rfl rfl rfl rfl rfl trivial ?_
    refine vNil ?_
    change VC _ _ _ _
    refine vRet ?_
    change ∃ _, _
    cases h
    exact ⟨[], _, rfl, trivial, rfl, (.eq rfl), rfl⟩
end Go.Proofs.Ytgindcgphnbnaaa

namespace Go.Proofs.Ytgindcgphnbnaaa
open Go.RowKit
set_option linter.unusedVariables false
set_option linter.unusedSimpArgs false
def I_areSquares_l1 (N : Nat) (d_1 : List Int) (k : Unit → Option (Bool)) : Nat → Int → Option (Bool)
  | 0, _ => none
  | n + 1, x7 =>
    cnd (decide (x7 < (d_1.length : Int))) (
      grd (0 ≤ x7 ∧ x7 < (d_1.length : Int)) <|
      (I_within N (d_1.getD ((x7).toNat) 0) (0 : Int) (200 : Int)).bind fun v9 =>
      cnd (!v9) (
        some false) (
        grd (Rg64 (x7 + (1 : Int))) <|
        I_areSquares_l1 N d_1 k n (x7 + (1 : Int)))) (
      k ())
def I_areSquares (N : Nat) (n_0 : Int) (d_1 : List Int) : Option (Bool) :=
  I_areSquares_l1 N d_1 (fun (_ : Unit) =>
        some ((d_1.length : Int) == n_0)) N (0 : Int)
set_option maxRecDepth 20000 in
set_option maxHeartbeats 1600000 in
theorem I_areSquares_w (N : Nat) (n_0 : Int) (d_1 : List Int) (r : Bool) (h : I_areSquares N n_0 d_1 = some r) : PCall Try.prog 64 [.int n_0, .ro false (.ints d_1)] [] (.bool r) := by
  unfold I_areSquares at h
  refine pcall_intro (TT := TT) tt Try.func64 rfl rfl Try.ntmps64 (congrArg Array.toList Try.results64) rfl rfl fun w0 => ?_
  refine vSeq ?_
  refine vRegion ?_
  refine oVal tt rfl rfl rfl rfl rfl trivial ?_
  refine vNil ?_
  change VC _ _ _ _
  iterate 2 refine vSeq ?_
  refine vRegion ?_
  iterate 3 refine oVal tt rfl rfl rfl rfl rfl trivial ?_
  refine vNil ?_
  change VC _ _ _ _
  refine vJoin (F := fun k => I_areSquares_l1 N d_1 k) h (α := Unit) (J := fun (_ : Unit) => (⟨[(0, .int n_0), (1, .ro false (.ints d_1))], [], []⟩ : PS)) ?_ ?_
  · rintro ⟨⟩ h
    show VC _ _ _ (⟨[(0, .int n_0), (1, .ro false (.ints d_1))], [], []⟩ : PS)
    refine vSeq ?_
    refine vRegion ?_
    iterate 5 refine oVal tt rfl rfl rfl rfl rfl trivial ?_
    refine vNil ?_
    change VC _ _ _ _
    refine vRet ?_
    change ∃ _, _
    cases h
    exact ⟨[], _, rfl, trivial, rfl, (.eq rfl), rfl⟩
  · intro k h
    refine vBlock ?_
    refine vLoopS (α := Int) (fun (x7 : Int) => (⟨[(0, .int n_0), (1, .ro false (.ints d_1)), (7, .ro false (.ints d_1)), (8, .int (d_1.length : Int)), (9, .int x7)], [], []⟩ : PS)) (I_areSquares_l1 N d_1 k) h (En.of ⟨rfl, rfl, rfl, rfl, rfl, trivial⟩ trivial trivial) (fun _ => rfl) ?_
    rintro n x7 h
    rw [I_areSquares_l1] at h
    show VC _ _ _ (⟨[(0, .int n_0), (1, .ro false (.ints d_1)), (7, .ro false (.ints d_1)), (8, .int (d_1.length : Int)), (9, .int x7)], [], []⟩ : PS)
    refine vSeq ?_
    refine vRegion ?_
    refine oVal tt rfl rfl rfl rfl rfl trivial ?_
    refine vNil ?_
    change VC _ _ _ _
    refine vSeq ?_
    refine vCond rfl (fun hb1 => ?_) (fun hb1 => ?_)
    · replace h := cnd_t hb1 h
      refine vSkip ?_
      change VC _ _ _ _
      refine vSeq ?_
      refine vBlock ?_
      refine vSeq ?_
      refine vRegion ?_
      obtain ⟨hg2, h⟩ := grd_inv h
      refine oVal tt rfl rfl rfl rfl rfl hg2 ?_
      iterate 2 refine oVal tt rfl rfl rfl rfl rfl trivial ?_
      refine vNil ?_
      change VC _ _ _ _
      refine vSeq ?_
      refine vRegion ?_
      refine oVal tt rfl rfl rfl rfl rfl trivial ?_
      obtain ⟨v9, hc3, h⟩ := bind_inv h
      refine oCall (I_within_w N (d_1.getD ((x7).toNat) 0) (0 : Int) (200 : Int) v9 hc3) rfl rfl rfl rfl rfl rfl rfl rfl ⟨rfl, rfl, rfl, trivial⟩ ?_
      refine oVal tt rfl rfl rfl rfl rfl trivial ?_
      refine vNil ?_
      change VC _ _ _ _
      refine vCond rfl (fun hb4 => ?_) (fun hb4 => ?_)
      · replace h := cnd_t hb4 h
        refine vSeq ?_
        refine vRegion ?_
        refine oVal tt rfl rfl rfl rfl rfl trivial ?_
        refine vNil ?_
        change VC _ _ _ _
        refine vRet ?_
        change ∃ _, _
        cases h
        exact ⟨[], _, rfl, trivial, rfl, (.eq rfl), rfl⟩
      · replace h := cnd_f hb4 h
        refine vSkip ?_
        change VC _ _ _ _
        refine vRegion ?_
        obtain ⟨hg5, h⟩ := grd_inv h
        refine oVal tt rfl rfl rfl rfl rfl hg5 ?_
        refine oVal tt rfl rfl rfl rfl rfl trivial ?_
        refine vNil ?_
        change ∃ _, _
        exact ⟨(x7 + (1 : Int)), (En.of ⟨rfl, rfl, rfl, rfl, rfl, trivial⟩ trivial trivial), h⟩
    · replace h := cnd_f hb1 h
      refine vExit ?_
      change ∃ _, _
      exact ⟨(), (En.of ⟨rfl, rfl, trivial⟩ trivial trivial), h⟩
def I_copyInts (N : Nat) (l_0 : List Int) : Option (List Int) :=
  grd (l_0.length ≤ 4294967296) <|
  some (([] : List Int) ++ l_0)
set_option maxRecDepth 20000 in
set_option maxHeartbeats 1600000 in
theorem I_copyInts_w (N : Nat) (l_0 : List Int) (r : List Int) (h : I_copyInts N l_0 = some r) : PCall Try.prog 68 [.ro false (.ints l_0)] [(3, .ints r)] (.row 0 0 r.length) := by
  unfold I_copyInts at h
  refine pcall_intro (TT := TT) tt Try.func68 rfl rfl Try.ntmps68 (congrArg Array.toList Try.results68) rfl rfl fun w0 => ?_
  refine vSeq ?_
  refine vRegion ?_
  refine oVal tt rfl rfl rfl rfl rfl trivial ?_
  refine vNil ?_
  change VC _ _ _ _
  refine vSeq ?_
  refine vRegion ?_
  refine oEmpty tt (wNone rfl) rfl rfl rfl rfl ?_
  refine oVal tt rfl rfl rfl rfl rfl trivial ?_
  obtain ⟨hg1, h⟩ := grd_inv h
  refine oAppNil tt (wNone rfl) rfl rfl rfl rfl rfl rfl rfl (fun _ => rfl) rfl rfl rfl rfl rfl hg1 ?_
  refine oVal tt rfl rfl rfl rfl rfl trivial ?_
  refine vNil ?_
  change VC _ _ _ _
  refine vRet ?_
  change ∃ _, _
  cases h
  exact ⟨[5], _, rfl, ⟨rfl, trivial⟩, rfl, (.eq rfl), rfl⟩
def I_HeronOf (N : Nat) (a_0 : Int) (b_1 : Int) (c_2 : Int) : Option (Int) :=
  (I_areSquares N (3 : Int) ([a_0, b_1, c_2] : List Int)).bind fun v1 =>
  cnd (!v1) (
    some (0 : Int)) (
    grd (Rg64 (a_0 * b_1)) <|
    grd (Rg64 (b_1 * c_2)) <|
    grd (Rg64 ((a_0 * b_1) + (b_1 * c_2))) <|
    grd (Rg64 (c_2 * a_0)) <|
    grd (Rg64 (((a_0 * b_1) + (b_1 * c_2)) + (c_2 * a_0))) <|
    grd (Rg64 ((2 : Int) * (((a_0 * b_1) + (b_1 * c_2)) + (c_2 * a_0)))) <|
    grd (Rg64 (a_0 * a_0)) <|
    grd (Rg64 (((2 : Int) * (((a_0 * b_1) + (b_1 * c_2)) + (c_2 * a_0))) - (a_0 * a_0))) <|
    grd (Rg64 (b_1 * b_1)) <|
    grd (Rg64 ((((2 : Int) * (((a_0 * b_1) + (b_1 * c_2)) + (c_2 * a_0))) - (a_0 * a_0)) - (b_1 * b_1))) <|
    grd (Rg64 (c_2 * c_2)) <|
    grd (Rg64 (((((2 : Int) * (((a_0 * b_1) + (b_1 * c_2)) + (c_2 * a_0))) - (a_0 * a_0)) - (b_1 * b_1)) - (c_2 * c_2))) <|
    some (((((2 : Int) * (((a_0 * b_1) + (b_1 * c_2)) + (c_2 * a_0))) - (a_0 * a_0)) - (b_1 * b_1)) - (c_2 * c_2)))
set_option maxRecDepth 20000 in
set_option maxHeartbeats 1600000 in
theorem I_HeronOf_w (N : Nat) (a_0 : Int) (b_1 : Int) (c_2 : Int) (r : Int) (h : I_HeronOf N a_0 b_1 c_2 = some r) : PCall Try.prog 122 [.int a_0, .int b_1, .int c_2] [] (.int r) := by
  unfold I_HeronOf at h
  refine pcall_intro (TT := TT) tt Try.func122 rfl rfl Try.ntmps122 (congrArg Array.toList Try.results122) rfl rfl fun w0 => ?_
  refine vSeq ?_
  refine vRegion ?_
  refine oVal tt rfl rfl rfl rfl rfl trivial ?_
  refine vNil ?_
  change VC _ _ _ _
  iterate 2 refine vSeq ?_
  refine vRegion ?_
  iterate 3 refine oVal tt rfl rfl rfl rfl rfl trivial ?_
  refine oBuild tt rfl rfl rfl rfl rfl rfl rfl rfl rfl rfl rfl ?_
  obtain ⟨v1, hc1, h⟩ := bind_inv h
  refine oCall (I_areSquares_w N (3 : Int) ([a_0, b_1, c_2] : List Int) v1 hc1) rfl rfl rfl rfl rfl rfl rfl rfl ⟨rfl, (.inl ⟨rfl, rfl⟩), trivial⟩ ?_
  refine oVal tt rfl rfl rfl rfl rfl trivial ?_
  refine vNil ?_
  change VC _ _ _ _
  refine vCond rfl (fun hb2 => ?_) (fun hb2 => ?_)
  · replace h := cnd_t hb2 h
    refine vSeq ?_
    refine vRegion ?_
    refine oVal tt rfl rfl rfl rfl rfl trivial ?_
    refine vNil ?_
    change VC _ _ _ _
    refine vRet ?_
    change ∃ _, _
    cases h
    exact ⟨[], _, rfl, trivial, rfl, (.eq rfl), rfl⟩
  · replace h := cnd_f hb2 h
    refine vSkip ?_
    change VC _ _ _ _
    refine vSeq ?_
    refine vRegion ?_
    iterate 2 refine oVal tt rfl rfl rfl rfl rfl trivial ?_
    obtain ⟨hg3, h⟩ := grd_inv h
    refine oVal tt rfl rfl rfl rfl rfl hg3 ?_
    iterate 2 refine oVal tt rfl rfl rfl rfl rfl trivial ?_
    obtain ⟨hg4, h⟩ := grd_inv h
    refine oVal tt rfl rfl rfl rfl rfl hg4 ?_
    obtain ⟨hg5, h⟩ := grd_inv h
    refine oVal tt rfl rfl rfl rfl rfl hg5 ?_
    iterate 2 refine oVal tt rfl rfl rfl rfl rfl trivial ?_
    obtain ⟨hg6, h⟩ := grd_inv h
    refine oVal tt rfl rfl rfl rfl rfl hg6 ?_
    obtain ⟨hg7, h⟩ := grd_inv h
    refine oVal tt rfl rfl rfl rfl rfl hg7 ?_
    obtain ⟨hg8, h⟩ := grd_inv h
    refine oVal tt rfl rfl rfl rfl rfl hg8 ?_
    iterate 2 refine oVal tt rfl rfl rfl rfl rfl trivial ?_
    obtain ⟨hg9, h⟩ := grd_inv h
    refine oVal tt rfl rfl rfl rfl rfl hg9 ?_
    obtain ⟨hg10, h⟩ := grd_inv h
    refine oVal tt rfl rfl rfl rfl rfl hg10 ?_
    iterate 2 refine oVal tt rfl rfl rfl rfl rfl trivial ?_
    obtain ⟨hg11, h⟩ := grd_inv h
    refine oVal tt rfl rfl rfl rfl rfl hg11 ?_
    obtain ⟨hg12, h⟩ := grd_inv h
    refine oVal tt rfl rfl rfl rfl rfl hg12 ?_
    iterate 2 refine oVal tt rfl rfl rfl rfl rfl trivial ?_
    obtain ⟨hg13, h⟩ := grd_inv h
    refine oVal tt rfl rfl rfl rfl rfl hg13 ?_
    obtain ⟨hg14, h⟩ := grd_inv h
    refine oVal tt rfl rfl rfl rfl rfl hg14 ?_
    refine oVal tt rfl rfl rfl rfl rfl trivial ?_
    refine vNil ?_
    change VC _ _ _ _
    refine vRet ?_
    change ∃ _, _
    cases h
    exact ⟨[], _, rfl, trivial, rfl, (.eq rfl), rfl⟩
def I_IsTriangle (N : Nat) (a_0 : Int) (b_1 : Int) (c_2 : Int) : Option (Bool) :=
  (I_areSquares N (3 : Int) ([a_0, b_1, c_2] : List Int)).bind fun v1 =>
  cnd v1 (
    (I_HeronOf N a_0 b_1 c_2).bind fun v2 =>
    some (decide (v2 ≥ (0 : Int)))) (
    some false)
set_option maxRecDepth 20000 in
set_option maxHeartbeats 1600000 in
theorem I_IsTriangle_w (N : Nat) (a_0 : Int) (b_1 : Int) (c_2 : Int) (r : Bool) (h : I_IsTriangle N a_0 b_1 c_2 = some r) : PCall Try.prog 67 [.int a_0, .int b_1, .int c_2] [] (.bool r) := by
  unfold I_IsTriangle at h
  refine pcall_intro (TT := TT) tt Try.func67 rfl rfl Try.ntmps67 (congrArg Array.toList Try.results67) rfl rfl fun w0 => ?_
  refine vSeq ?_
  refine vRegion ?_
  refine oVal tt rfl rfl rfl rfl rfl trivial ?_
  refine vNil ?_
  change VC _ _ _ _
  refine vSeq ?_
  refine vRegion ?_
  iterate 3 refine oVal tt rfl rfl rfl rfl rfl trivial ?_
  refine oBuild tt rfl rfl rfl rfl rfl rfl rfl rfl rfl rfl rfl ?_
  obtain ⟨v1, hc1, h⟩ := bind_inv h
  refine oCall (I_areSquares_w N (3 : Int) ([a_0, b_1, c_2] : List Int) v1 hc1) rfl rfl rfl rfl rfl rfl rfl rfl ⟨rfl, (.inl ⟨rfl, rfl⟩), trivial⟩ ?_
  refine oVal tt rfl rfl rfl rfl rfl trivial ?_
  refine oSplit rfl rfl rfl (fun hb2 => ?_) (fun hb2 => ?_)
  · replace h := cnd_t hb2 h
    iterate 3 refine oValG tt rfl rfl rfl rfl rfl hb2 rfl rfl rfl trivial ?_
    obtain ⟨v2, hc3, h⟩ := bind_inv h
    refine oCallG (I_HeronOf_w N a_0 b_1 c_2 v2 hc3) rfl rfl rfl rfl hb2 rfl rfl rfl rfl rfl rfl rfl ⟨rfl, rfl, rfl, trivial⟩ ?_
    refine oValG tt rfl rfl rfl rfl rfl hb2 rfl rfl rfl trivial ?_
    refine oPick rfl rfl rfl rfl rfl hb2 rfl ?_
    refine oVal tt rfl rfl rfl rfl rfl trivial ?_
    refine vNil ?_
    change VC _ _ _ _
    refine vRet ?_
    change ∃ _, _
    cases h
    exact ⟨[], _, rfl, trivial, rfl, (.eq rfl), rfl⟩
  · replace h := cnd_f hb2 h
    iterate 5 refine oNoT rfl rfl rfl rfl hb2 rfl rfl ?_
    refine oPickF rfl rfl rfl rfl rfl hb2 rfl ?_
    refine oVal tt rfl rfl rfl rfl rfl trivial ?_
    refine vNil ?_
    change VC _ _ _ _
    refine vRet ?_
    change ∃ _, _
    cases h
    exact ⟨[], _, rfl, trivial, rfl, (.eq rfl), rfl⟩
def L_eqIntS_l1 (N : Nat) (a_0 : List Int) (b_1 : List Int) (k : Unit → Option (Bool)) : Nat → Int → Option (Bool)
  | 0, _ => none
  | n + 1, i3 =>
    cnd (decide (i3 < (a_0.length : Int))) (
      grd (0 ≤ i3 ∧ i3 < (a_0.length : Int)) <|
      grd (0 ≤ i3 ∧ i3 < (b_1.length : Int)) <|
      cnd ((a_0.getD ((i3).toNat) 0) != (b_1.getD ((i3).toNat) 0)) (
        some false) (
        grd (Rg64 (i3 + (1 : Int))) <|
        L_eqIntS_l1 N a_0 b_1 k n (i3 + (1 : Int)))) (
      k ())
def L_eqIntS (N : Nat) (a_0 : List Int) (b_1 : List Int) : Option (Bool) :=
  cnd ((a_0.length : Int) != (b_1.length : Int)) (
    some false) (
    L_eqIntS_l1 N a_0 b_1 (fun (_ : Unit) =>
          some true) N (0 : Int))
set_option maxRecDepth 20000 in
set_option maxHeartbeats 1600000 in
theorem L_eqIntS_w (N : Nat) (a_0 : List Int) (b_1 : List Int) (r : Bool) (h : L_eqIntS N a_0 b_1 = some r) : PCall Try.prog 18 [.ro false (.ints a_0), .ro false (.ints b_1)] [] (.bool r) := by
  unfold L_eqIntS at h
  refine pcall_intro (TT := TT) tt Try.func18 rfl rfl Try.ntmps18 (congrArg Array.toList Try.results18) rfl rfl fun w0 => ?_
  refine vSeq ?_
  refine vRegion ?_
  refine oVal tt rfl rfl rfl rfl rfl trivial ?_
  refine vNil ?_
  change VC _ _ _ _
  iterate 2 refine vSeq ?_
  refine vRegion ?_
  iterate 5 refine oVal tt rfl rfl rfl rfl rfl trivial ?_
  refine vNil ?_
  change VC _ _ _ _
  refine vCond rfl (fun hb1 => ?_) (fun hb1 => ?_)
  · replace h := cnd_t hb1 h
    refine vSeq ?_
    refine vRegion ?_
    refine oVal tt rfl rfl rfl rfl rfl trivial ?_
    refine vNil ?_
    change VC _ _ _ _
    refine vRet ?_
    change ∃ _, _
    cases h
    exact ⟨[], _, rfl, trivial, rfl, (.eq rfl), rfl⟩
  · replace h := cnd_f hb1 h
    refine vSkip ?_
    change VC _ _ _ _
    iterate 2 refine vSeq ?_
    refine vRegion ?_
    refine oVal tt rfl rfl rfl rfl rfl trivial ?_
    refine vNil ?_
    change VC _ _ _ _
    refine vJoin (F := fun k => L_eqIntS_l1 N a_0 b_1 k) h (α := Unit) (J := fun (_ : Unit) => (⟨[], [], []⟩ : PS)) ?_ ?_
    · rintro ⟨⟩ h
      show VC _ _ _ (⟨[], [], []⟩ : PS)
      refine vSeq ?_
      refine vRegion ?_
      refine oVal tt rfl rfl rfl rfl rfl trivial ?_
      refine vNil ?_
      change VC _ _ _ _
      refine vRet ?_
      change ∃ _, _
      cases h
      exact ⟨[], _, rfl, trivial, rfl, (.eq rfl), rfl⟩
    · intro k h
      refine vBlock ?_
      refine vLoopS (α := Int) (fun (i3 : Int) => (⟨[(0, .ro false (.ints a_0)), (1, .ro false (.ints b_1)), (5, .int i3)], [], []⟩ : PS)) (L_eqIntS_l1 N a_0 b_1 k) h (En.of ⟨rfl, rfl, rfl, trivial⟩ trivial trivial) (fun _ => rfl) ?_
      rintro n i3 h
      rw [L_eqIntS_l1] at h
      show VC _ _ _ (⟨[(0, .ro false (.ints a_0)), (1, .ro false (.ints b_1)), (5, .int i3)], [], []⟩ : PS)
      iterate 2 refine vSeq ?_
      refine vRegion ?_
      iterate 4 refine oVal tt rfl rfl rfl rfl rfl trivial ?_
      refine vNil ?_
      change VC _ _ _ _
      refine vCond rfl (fun hb2 => ?_) (fun hb2 => ?_)
      · replace h := cnd_t hb2 h
        refine vSkip ?_
        change VC _ _ _ _
        refine vSeq ?_
        refine vBlock ?_
        refine vSeq ?_
        refine vRegionD (by kernel_rfl) (by kernel_rfl) ?_
        iterate 2 refine cVal tt rfl (wNone rfl) rfl rfl rfl trivial ?_
        obtain ⟨hg3, h⟩ := grd_inv h
        refine cVal tt rfl (wNone rfl) rfl rfl rfl hg3 ?_
        iterate 3 refine cVal tt rfl (wNone rfl) rfl rfl rfl trivial ?_
        obtain ⟨hg4, h⟩ := grd_inv h
        refine cVal tt rfl (wNone rfl) rfl rfl rfl hg4 ?_
        iterate 2 refine cVal tt rfl (wNone rfl) rfl rfl rfl trivial ?_
        refine cNil ?_
        change VC _ _ _ _
        refine vCond rfl (fun hb5 => ?_) (fun hb5 => ?_)
        · replace h := cnd_t hb5 h
          refine vSeq ?_
          refine vRegion ?_
          refine oVal tt rfl rfl rfl rfl rfl trivial ?_
          refine vNil ?_
          change VC _ _ _ _
          refine vRet ?_
          change ∃ _, _
          cases h
          exact ⟨[], _, rfl, trivial, rfl, (.eq rfl), rfl⟩
        · replace h := cnd_f hb5 h
          refine vSkip ?_
          change VC _ _ _ _
          refine vRegion ?_
          refine oVal tt rfl rfl rfl rfl rfl trivial ?_
          obtain ⟨hg6, h⟩ := grd_inv h
          refine oVal tt rfl rfl rfl rfl rfl hg6 ?_
          refine oVal tt rfl rfl rfl rfl rfl trivial ?_
          refine vNil ?_
          change ∃ _, _
          exact ⟨(i3 + (1 : Int)), (En.of ⟨rfl, rfl, rfl, trivial⟩ trivial trivial), h⟩
      · replace h := cnd_f hb2 h
        refine vExit ?_
        change ∃ _, _
        exact ⟨(), (En.of trivial trivial trivial), h⟩
end Go.Proofs.Ytgindcgphnbnaaa

namespace Go.Proofs.Ytgindcgphnbnaaa
open Go.RowKit
set_option linter.unusedVariables false
set_option linter.unusedSimpArgs false
def L_heldIntS_l1 (N : Nat) (a_0 : List Int) (k : Int → Option (Int)) : Nat → (Int × Int) → Option (Int)
  | 0, _ => none
  | n + 1, (k5, i6) =>
    cnd (decide (i6 < (a_0.length : Int))) (
      grd (0 ≤ i6 ∧ i6 < (a_0.length : Int)) <|
      cnd ((a_0.getD ((i6).toNat) 0) != k5) (
        some (-1 : Int)) (
        grd (Rg64 (k5 + (1 : Int))) <|
        grd (Rg64 (i6 + (1 : Int))) <|
        L_heldIntS_l1 N a_0 k n ((k5 + (1 : Int)), (i6 + (1 : Int))))) (
      k k5)
def L_heldIntS (N : Nat) (a_0 : List Int) (k_1 : Int) : Option (Int) :=
  L_heldIntS_l1 N a_0 (fun (k3 : Int) =>
        some k3) N (k_1, (0 : Int))
set_option maxRecDepth 20000 in
set_option maxHeartbeats 1600000 in
theorem L_heldIntS_w (N : Nat) (a_0 : List Int) (k_1 : Int) (r : Int) (h : L_heldIntS N a_0 k_1 = some r) : PCall Try.prog 24 [.ro false (.ints a_0), .int k_1] [] (.int r) := by
  unfold L_heldIntS at h
  refine pcall_intro (TT := TT) tt Try.func24 rfl rfl Try.ntmps24 (congrArg Array.toList Try.results24) rfl rfl fun w0 => ?_
  refine vSeq ?_
  refine vRegion ?_
  refine oVal tt rfl rfl rfl rfl rfl trivial ?_
  refine vNil ?_
  change VC _ _ _ _
  iterate 2 refine vSeq ?_
  refine vRegion ?_
  refine oVal tt rfl rfl rfl rfl rfl trivial ?_
  refine vNil ?_
  change VC _ _ _ _
  refine vJoin (F := fun k => L_heldIntS_l1 N a_0 k) h (α := Int) (J := fun (k3 : Int) => (⟨[(1, .int k3)], [], []⟩ : PS)) ?_ ?_
  · rintro k3 h
    show VC _ _ _ (⟨[(1, .int k3)], [], []⟩ : PS)
    refine vSeq ?_
    refine vRegion ?_
    iterate 2 refine oVal tt rfl rfl rfl rfl rfl trivial ?_
    refine vNil ?_
    change VC _ _ _ _
    refine vRet ?_
    change ∃ _, _
    cases h
    exact ⟨[], _, rfl, trivial, rfl, (.eq rfl), rfl⟩
  · intro k h
    refine vBlock ?_
    refine vLoopS (α := Int × Int) (fun | (k5, i6) => (⟨[(0, .ro false (.ints a_0)), (1, .int k5), (5, .int i6)], [], []⟩ : PS)) (L_heldIntS_l1 N a_0 k) h (En.of ⟨rfl, rfl, rfl, trivial⟩ trivial trivial) (fun _ => rfl) ?_
    rintro n ⟨k5, i6⟩ h
    rw [L_heldIntS_l1] at h
    show VC _ _ _ (⟨[(0, .ro false (.ints a_0)), (1, .int k5), (5, .int i6)], [], []⟩ : PS)
    iterate 2 refine vSeq ?_
    refine vRegion ?_
    iterate 4 refine oVal tt rfl rfl rfl rfl rfl trivial ?_
    refine vNil ?_
    change VC _ _ _ _
    refine vCond rfl (fun hb1 => ?_) (fun hb1 => ?_)
    · replace h := cnd_t hb1 h
      refine vSkip ?_
      change VC _ _ _ _
      refine vSeq ?_
      refine vBlock ?_
      iterate 2 refine vSeq ?_
      refine vRegion ?_
      iterate 2 refine oVal tt rfl rfl rfl rfl rfl trivial ?_
      obtain ⟨hg2, h⟩ := grd_inv h
      refine oVal tt rfl rfl rfl rfl rfl hg2 ?_
      iterate 3 refine oVal tt rfl rfl rfl rfl rfl trivial ?_
      refine vNil ?_
      change VC _ _ _ _
      refine vCond rfl (fun hb3 => ?_) (fun hb3 => ?_)
      · replace h := cnd_t hb3 h
        refine vSeq ?_
        refine vRegion ?_
        refine oVal tt rfl rfl rfl rfl rfl trivial ?_
        refine vNil ?_
        change VC _ _ _ _
        refine vRet ?_
        change ∃ _, _
        cases h
        exact ⟨[], _, rfl, trivial, rfl, (.eq rfl), rfl⟩
      · replace h := cnd_f hb3 h
        refine vSkip ?_
        change VC _ _ _ _
        refine vRegion ?_
        refine oVal tt rfl rfl rfl rfl rfl trivial ?_
        obtain ⟨hg4, h⟩ := grd_inv h
        refine oVal tt rfl rfl rfl rfl rfl hg4 ?_
        refine oVal tt rfl rfl rfl rfl rfl trivial ?_
        refine vNil ?_
        change VC _ _ _ _
        refine vRegion ?_
        refine oVal tt rfl rfl rfl rfl rfl trivial ?_
        obtain ⟨hg5, h⟩ := grd_inv h
        refine oVal tt rfl rfl rfl rfl rfl hg5 ?_
        refine oVal tt rfl rfl rfl rfl rfl trivial ?_
        refine vNil ?_
        change ∃ _, _
        exact ⟨((k5 + (1 : Int)), (i6 + (1 : Int))), (En.of ⟨rfl, rfl, rfl, trivial⟩ trivial trivial), h⟩
    · replace h := cnd_f hb1 h
      refine vExit ?_
      change ∃ _, _
      exact ⟨k5, (En.of ⟨rfl, trivial⟩ trivial trivial), h⟩
end Go.Proofs.Ytgindcgphnbnaaa

namespace Go.Proofs.Ytgindcgphnbnaaa
open Go.RowKit
set_option linter.unusedVariables false
set_option linter.unusedSimpArgs false
end Go.Proofs.Ytgindcgphnbnaaa

namespace Go.Proofs.Ytgindcgphnbnaaa
open Go.RowKit
set_option linter.unusedVariables false
set_option linter.unusedSimpArgs false
end Go.Proofs.Ytgindcgphnbnaaa

namespace Go.Proofs.Ytgindcgphnbnaaa
open Go.RowKit
set_option linter.unusedVariables false
set_option linter.unusedSimpArgs false
end Go.Proofs.Ytgindcgphnbnaaa

namespace Go.Proofs.Ytgindcgphnbnaaa
open Go.RowKit
set_option linter.unusedVariables false
set_option linter.unusedSimpArgs false
end Go.Proofs.Ytgindcgphnbnaaa

namespace Go.Proofs.Ytgindcgphnbnaaa
open Go.RowKit
set_option linter.unusedVariables false
set_option linter.unusedSimpArgs false
end Go.Proofs.Ytgindcgphnbnaaa

namespace Go.Proofs.Ytgindcgphnbnaaa
open Go.RowKit
set_option linter.unusedVariables false
set_option linter.unusedSimpArgs false
end Go.Proofs.Ytgindcgphnbnaaa

namespace Go.Proofs.Ytgindcgphnbnaaa
open Go.RowKit
set_option linter.unusedVariables false
set_option linter.unusedSimpArgs false
end Go.Proofs.Ytgindcgphnbnaaa

namespace Go.Proofs.Ytgindcgphnbnaaa
open Go.RowKit
set_option linter.unusedVariables false
set_option linter.unusedSimpArgs false
end Go.Proofs.Ytgindcgphnbnaaa

namespace Go.Proofs.Ytgindcgphnbnaaa
open Go.RowKit
set_option linter.unusedVariables false
set_option linter.unusedSimpArgs false
end Go.Proofs.Ytgindcgphnbnaaa

namespace Go.Proofs.Ytgindcgphnbnaaa
open Go.RowKit
set_option linter.unusedVariables false
set_option linter.unusedSimpArgs false
end Go.Proofs.Ytgindcgphnbnaaa

namespace Go.Proofs.Ytgindcgphnbnaaa
set_option linter.unusedVariables false
set_option linter.unusedSimpArgs false
variable (N : Nat)
abbrev B63 (n : Nat) : Prop := n ≤ 9223372036854775807

theorem toIntS_l {a : List Int} (ha : a.length ≤ 1048576) (k : List Int → Option (List Int)) : ∀ n i : Nat, i ≤ a.length → a.length < n + i → L_toIntS_l1 N a k n (cpy a 0 i, (i : Int)) = k a := by
  intro n
  induction n with
  | zero => intro i h1 h2; omega
  | succ n ih =>
    intro i h1 h2
    have hl := cpy_len a 0 i
    rw [L_toIntS_l1]
    by_cases hi : i < a.length
    · simp (disch := omega) only [Int.toNat_natCast, tk0, List.length_cons, List.length_nil, grd_pos, grd_T, grd_R, cnd_dt, cnd_df, cnd_true, cnd_false, Option.bind_some, List.length_replicate, hl]
      rw [cpy_set a 0 0 i hi rfl]
      exact ih (i + 1) (by omega) (by omega)
    · simp (disch := omega) only [Int.toNat_natCast, tk0, List.length_cons, List.length_nil, grd_pos, grd_T, grd_R, cnd_dt, cnd_df, cnd_true, cnd_false, Option.bind_some]
      obtain rfl : i = a.length := by omega
      rw [cpy_full]
theorem toIntS_s (hN : 4000000 ≤ N) {a : List Int} (ha : a.length ≤ 1048576) : L_toIntS N a = some a := by
  unfold L_toIntS
  have h := toIntS_l N ha (fun l9 => grd ((List.replicate (((a.length : Int)).toNat) (0 : Int)).length = l9.length) <| some l9) N 0 (by omega) (by omega)
  simp only [Int.toNat_natCast, cpy_zero] at h ⊢
  simp (disch := omega) only [Int.toNat_natCast, tk0, List.length_cons, List.length_nil, grd_pos, grd_T, grd_R, cnd_dt, cnd_df, cnd_true, cnd_false, Option.bind_some]
  refine h.trans ?_
  simp (disch := omega) only [Int.toNat_natCast, tk0, List.length_cons, List.length_nil, grd_pos, grd_T, grd_R, cnd_dt, cnd_df, cnd_true, cnd_false, Option.bind_some, cpy_len]
theorem eqIntS_l {a : List Int} (ha : a.length ≤ 1048576) (k : Unit → Option Bool) : ∀ n i : Nat, i ≤ a.length → a.length < n + i → L_eqIntS_l1 N a a k n (i : Int) = k () := by
  intro n
  induction n with
  | zero => intro i h1 h2; omega
  | succ n ih =>
    intro i h1 h2
    rw [L_eqIntS_l1]
    by_cases hi : i < a.length
    · simp (disch := omega) only [Int.toNat_natCast, tk0, List.length_cons, List.length_nil, grd_pos, grd_T, grd_R, cnd_dt, cnd_df, cnd_true, cnd_false, Option.bind_some, bne_self_eq_false]
      exact ih (i + 1) (by omega) (by omega)
    · simp (disch := omega) only [Int.toNat_natCast, tk0, List.length_cons, List.length_nil, grd_pos, grd_T, grd_R, cnd_dt, cnd_df, cnd_true, cnd_false, Option.bind_some]
theorem eqIntS_s (hN : 4000000 ≤ N) {a : List Int} (ha : a.length ≤ 1048576) : L_eqIntS N a a = some true := by
  unfold L_eqIntS
  simp (disch := omega) only [Int.toNat_natCast, tk0, List.length_cons, List.length_nil, grd_pos, grd_T, grd_R, cnd_dt, cnd_df, cnd_true, cnd_false, Option.bind_some, bne_self_eq_false]
  exact eqIntS_l N ha (fun _ => some true) N 0 (by omega) (by omega)
end Go.Proofs.Ytgindcgphnbnaaa

namespace Go.Proofs.Ytgindcgphnbnaaa
open Go.RowKit
set_option linter.unusedVariables false
set_option linter.unusedSimpArgs false
def L_markIntS_l1 (N : Nat) (a_0 : List Int) (k : ((List Int) × Int) → Option (Int × (List Int))) : Nat → ((List Int) × Int × Int) → Option (Int × (List Int))
  | 0, _ => none
  | n + 1, (l7, k8, i9) =>
    cnd (decide (i9 < (a_0.length : Int))) (
      grd (0 ≤ i9 ∧ i9 < (a_0.length : Int)) <|
      grd (0 ≤ i9 ∧ i9 < (l7.length : Int)) <|
      grd (Rg64 (k8 + (1 : Int))) <|
      grd (Rg64 (i9 + (1 : Int))) <|
      L_markIntS_l1 N a_0 k n ((l7.set ((i9).toNat) k8), (k8 + (1 : Int)), (i9 + (1 : Int)))) (
      k (l7, k8))
def L_markIntS (N : Nat) (a_0 : List Int) (k_1 : Int) : Option (Int × (List Int)) :=
  L_markIntS_l1 N a_0 (fun (x : (List Int) × Int) =>
      match x with
      | (l4, k5) =>
        some (k5, l4)) N (a_0, k_1, (0 : Int))
set_option maxRecDepth 20000 in
set_option maxHeartbeats 1600000 in
theorem L_markIntS_w (N : Nat) (a_0 : List Int) (k_1 : Int) (r : Int × (List Int)) (h : L_markIntS N a_0 k_1 = some r) : MCall Try.prog 23 [.row 1000000 0 a_0.length, .int k_1] [1000000] [] [(3, .ints a_0)] [(3, .ints r.2)] [] [] (.int r.1) := by
  unfold L_markIntS at h
  refine mcall_intro (TT := TT) tt Try.func23 rfl rfl Try.ntmps23 (congrArg Array.toList Try.results23) rfl rfl rfl rfl rfl fun w0 O0 => ?_
  refine vSeq ?_
  refine vRegion ?_
  refine oVal tt rfl rfl rfl rfl rfl trivial ?_
  refine vNil ?_
  change VC _ _ _ _
  iterate 2 refine vSeq ?_
  refine vRegion ?_
  refine oVal tt rfl rfl rfl rfl rfl trivial ?_
  refine vNil ?_
  change VC _ _ _ _
  refine vJoin (F := fun k => L_markIntS_l1 N a_0 k) h (α := (List Int) × Int) (J := fun | (l4, k5) => (⟨[(1, .int k5)], [(1000000, some (3, .ints l4))], []⟩ : PS)) ?_ ?_
  · rintro ⟨l4, k5⟩ h
    show VC _ _ _ (⟨[(1, .int k5)], [(1000000, some (3, .ints l4))], []⟩ : PS)
    refine vSeq ?_
    refine vRegion ?_
    iterate 2 refine oVal tt rfl rfl rfl rfl rfl trivial ?_
    refine vNil ?_
    change VC _ _ _ _
    refine vRet ?_
    change ∃ _, _
    cases h
    exact ⟨[1000000], rfl, ⟨rfl, trivial⟩, trivial, rfl⟩
  · intro k h
    refine vBlock ?_
    refine vLoopS (α := (List Int) × Int × Int) (fun | (l7, k8, i9) => (⟨[(0, .row 1000000 0 a_0.length), (1, .int k8), (5, .int i9)], [(1000000, some (3, .ints l7))], []⟩ : PS)) (L_markIntS_l1 N a_0 k) h (En.of ⟨rfl, rfl, rfl, trivial⟩ ⟨rfl, trivial⟩ trivial) (fun _ => rfl) ?_
    rintro n ⟨l7, k8, i9⟩ h
    rw [L_markIntS_l1] at h
    show VC _ _ _ (⟨[(0, .row 1000000 0 a_0.length), (1, .int k8), (5, .int i9)], [(1000000, some (3, .ints l7))], []⟩ : PS)
    iterate 2 refine vSeq ?_
    refine vRegion ?_
    iterate 4 refine oVal tt rfl rfl rfl rfl rfl trivial ?_
    refine vNil ?_
    change VC _ _ _ _
    refine vCond rfl (fun hb1 => ?_) (fun hb1 => ?_)
    · replace h := cnd_t hb1 h
      refine vSkip ?_
      change VC _ _ _ _
      refine vSeq ?_
      refine vBlock ?_
      refine vSeq ?_
      refine vRegion ?_
      iterate 3 refine oVal tt rfl rfl rfl rfl rfl trivial ?_
      obtain ⟨hg2, h⟩ := grd_inv h
      refine oVal tt rfl rfl rfl rfl rfl hg2 ?_
      obtain ⟨hg3, h⟩ := grd_inv h
      refine oStore tt rfl rfl rfl rfl rfl rfl rfl rfl rfl rfl ⟨_, _, rfl, hg3.1, hg3.2⟩ ⟨hg3, trivial⟩ ?_
      refine vNil ?_
      change VC _ _ _ _
      refine vRegion ?_
      refine oVal tt rfl rfl rfl rfl rfl trivial ?_
      obtain ⟨hg4, h⟩ := grd_inv h
      refine oVal tt rfl rfl rfl rfl rfl hg4 ?_
      refine oVal tt rfl rfl rfl rfl rfl trivial ?_
      refine vNil ?_
      change VC _ _ _ _
      refine vRegion ?_
      refine oVal tt rfl rfl rfl rfl rfl trivial ?_
      obtain ⟨hg5, h⟩ := grd_inv h
      refine oVal tt rfl rfl rfl rfl rfl hg5 ?_
      refine oVal tt rfl rfl rfl rfl rfl trivial ?_
      refine vNil ?_
      change ∃ _, _
      exact ⟨((l7.set ((i9).toNat) k8), (k8 + (1 : Int)), (i9 + (1 : Int))), (En.of ⟨rfl, rfl, rfl, trivial⟩ ⟨rfl, trivial⟩ trivial), h⟩
    · replace h := cnd_f hb1 h
      refine vExit ?_
      change ∃ _, _
      exact ⟨(l7, k8), (En.of ⟨rfl, trivial⟩ ⟨rfl, trivial⟩ trivial), h⟩
end Go.Proofs.Ytgindcgphnbnaaa

namespace Go.Proofs.Ytgindcgphnbnaaa
open Go.RowKit
set_option linter.unusedVariables false
set_option linter.unusedSimpArgs false
end Go.Proofs.Ytgindcgphnbnaaa

namespace Go.Proofs.Ytgindcgphnbnaaa
open Go.RowKit
set_option linter.unusedVariables false
set_option linter.unusedSimpArgs false
end Go.Proofs.Ytgindcgphnbnaaa

namespace Go.Proofs.Ytgindcgphnbnaaa
open Go.RowKit
set_option linter.unusedVariables false
set_option linter.unusedSimpArgs false
end Go.Proofs.Ytgindcgphnbnaaa

namespace Go.Proofs.Ytgindcgphnbnaaa
set_option linter.unusedVariables false
set_option linter.unusedSimpArgs false
variable {N : Nat}
theorem grf_eta (g : Grf) : (⟨g.n, g.bars⟩ : Grf) = g := rfl
theorem pin_eta (p : Pin) : (⟨p.g, p.ground⟩ : Pin) = p := rfl
theorem frm_eta (p : Frm) : (⟨p.g, p.places⟩ : Frm) = p := rfl
theorem lnk_eta (p : Lnk) : (⟨p.f, p.ground⟩ : Lnk) = p := rfl
def mkI (k : Int) (m : Nat) : List Int := (List.range m).map fun (i : Nat) => k + (i : Int)
def mkP (k : Int) (m : Nat) : List (Int × Int) := (List.range m).map fun (i : Nat) => (k + 2 * (i : Int), k + 2 * (i : Int) + 1)
theorem mkI_len (k : Int) (m : Nat) : (mkI k m).length = m := by simp [mkI]
theorem mkP_len (k : Int) (m : Nat) : (mkP k m).length = m := by simp [mkP]
theorem mkI_succ (k : Int) (m : Nat) : mkI k (m + 1) = mkI k m ++ [k + (m : Int)] := by simp [mkI, List.range_succ]
theorem set_mid {α : Type} {a b : List α} {x : α} {i : Nat} (h : a.length = i) (hb : 0 < b.length) : (a ++ b).set i x = a ++ [x] ++ b.drop 1 := by
  subst h
  cases b with
  | nil => simp at hb
  | cons y b => simp
theorem markIntS_l {a : List Int} {k0 : Int} (hk : 0 ≤ k0 ∧ k0 ≤ 100000000) (ha : a.length ≤ 1048576) (k : List Int × Int → Option (Int × List Int)) : ∀ n i : Nat, i ≤ a.length → a.length < n + i → L_markIntS_l1 N a k n (mkI k0 i ++ a.drop i, k0 + (i : Int), (i : Int)) = k (mkI k0 a.length, k0 + (a.length : Int)) := by
  intro n
  induction n with
  | zero => intro i h1 h2; omega
  | succ n ih =>
    intro i h1 h2
    rw [L_markIntS_l1]
    by_cases hi : i < a.length
    · have e1 : ((mkI k0 i ++ a.drop i).set i (k0 + (i : Int))) = mkI k0 (i + 1) ++ a.drop (i + 1) := by
        rw [set_mid (mkI_len k0 i) (by simp; omega), mkI_succ]
        simp
      have e2 : ((mkI k0 i ++ a.drop i).length : Int) = (a.length : Int) := by simp [mkI_len]; omega
      rw [cnd_dt (by omega), grd_pos (by omega), grd_pos (by omega), grd_pos (by unfold Rg64; omega), grd_pos (by unfold Rg64; omega), Int.toNat_natCast, e1, show k0 + (i : Int) + 1 = k0 + ((i + 1 : Nat) : Int) from by omega, show (i : Int) + 1 = ((i + 1 : Nat) : Int) from by omega]
      exact ih (i + 1) (by omega) (by omega)
    · have : i = a.length := by omega
      subst this
      rw [cnd_df (by omega)]
      simp
theorem markIntS_s (hN : 4000000 ≤ N) {a : List Int} {k0 : Int} (hk : 0 ≤ k0 ∧ k0 ≤ 100000000) (ha : a.length ≤ 1048576) : L_markIntS N a k0 = some (k0 + (a.length : Int), mkI k0 a.length) := by
  unfold L_markIntS
  have := markIntS_l (N := N) (a := a) hk ha (fun (x : (List Int) × Int) => match x with | (l, k) => some (k, l)) N 0 (by omega) (by omega)
  simpa [mkI] using this
theorem heldIntS_l {m : Nat} {k0 : Int} (hk : 0 ≤ k0 ∧ k0 ≤ 100000000) (ha : m ≤ 1048576) (k : Int → Option Int) : ∀ n i : Nat, i ≤ m → m < n + i → L_heldIntS_l1 N (mkI k0 m) k n (k0 + (i : Int), (i : Int)) = k (k0 + (m : Int)) := by
  intro n
  induction n with
  | zero => intro i h1 h2; omega
  | succ n ih =>
    intro i h1 h2
    rw [L_heldIntS_l1, mkI_len]
    by_cases hi : i < m
    · have e1 : (mkI k0 m).getD i 0 = k0 + (i : Int) := by simp [mkI, hi]
      rw [cnd_dt (by omega), grd_pos (by omega), Int.toNat_natCast, e1, bne_self_eq_false, cnd_false, grd_pos (by unfold Rg64; omega), grd_pos (by unfold Rg64; omega), show k0 + (i : Int) + 1 = k0 + ((i + 1 : Nat) : Int) from by omega, show (i : Int) + 1 = ((i + 1 : Nat) : Int) from by omega]
      exact ih (i + 1) (by omega) (by omega)
    · have : i = m := by omega
      subst this
      rw [cnd_df (by omega)]
theorem heldIntS_s (hN : 4000000 ≤ N) {m : Nat} {k0 : Int} (hk : 0 ≤ k0 ∧ k0 ≤ 100000000) (ha : m ≤ 1048576) : L_heldIntS N (mkI k0 m) k0 = some (k0 + (m : Int)) := by
  unfold L_heldIntS
  have := heldIntS_l (N := N) hk ha (fun k => some k) N 0 (by omega) (by omega)
  simpa using this

end Go.Proofs.Ytgindcgphnbnaaa

namespace Go.Proofs.Ytgindcgphnbnaaa
set_option linter.unusedVariables false
set_option linter.unusedSimpArgs false
variable {R σ : Type}
/-- a search: goes on while ok -/
theorem srchA {F : Nat → Int → Option R} {len : Nat} {ok : Nat → Bool} {bad fin : Option R}
    (hs : ∀ n i : Nat, i < len → (∀ j, j < i → ok j = true) → F (n + 1) (i : Int) = cnd (ok i) (F n ((i + 1 : Nat) : Int)) bad) (hf : ∀ n : Nat, (∀ j, j < len → ok j = true) → F (n + 1) (len : Int) = fin) :
    ∀ n i : Nat, i ≤ len → len < n + i → (∀ j, j < i → ok j = true) → F n (i : Int) = cnd ((List.range len).all ok) fin bad := by
  intro n
  induction n with
  | zero => intro i h1 h2; omega
  | succ n ih =>
    intro i h1 h2 h3
    by_cases hi : i < len
    · rw [hs n i hi h3]
      cases ho : ok i with
      | true =>
        exact ih (i + 1) (by omega) (by omega) fun j hj => by
          rcases Nat.lt_or_ge j i with h | h
          · exact h3 j h
          · rw [show j = i by omega]; exact ho
      | false =>
        have : (List.range len).all ok = false := by
          rw [List.all_eq_false]; exact ⟨i, by simpa using hi, by simp [ho]⟩
        rw [this]; rfl
    · obtain rfl : i = len := by omega
      rw [hf n h3]
      have : (List.range i).all ok = true := by
        rw [List.all_eq_true]; intro j hj; exact h3 j (by simpa using hj)
      rw [this]; rfl
theorem srch {F : Nat → Int → Option R} {N len : Nat} {ok : Nat → Bool} {bad fin : Option R} (hN : len < N)
    (hs : ∀ n i : Nat, i < len → (∀ j, j < i → ok j = true) → F (n + 1) (i : Int) = cnd (ok i) (F n ((i + 1 : Nat) : Int)) bad) (hf : ∀ n : Nat, (∀ j, j < len → ok j = true) → F (n + 1) (len : Int) = fin) :
    F N (0 : Int) = cnd ((List.range len).all ok) fin bad :=
  srchA hs hf N 0 (by omega) (by omega) (by omega)
theorem succ_cast (i : Nat) : ((i : Int) + 1) = ((i + 1 : Nat) : Int) := rfl
end Go.Proofs.Ytgindcgphnbnaaa

namespace Go.Proofs.Ytgindcgphnbnaaa
open Go.RowKit Go.Deep
set_option linter.unusedSimpArgs false
set_option linter.unusedVariables false
section
variable {C : Cx} {ops : Array Oper} {K : PS → Prop} {l : List Oper} {s s' : PS} {TT : List (Nat × Ty)} {tm : List (Nat × D)} {rw' : List (Nat × Option (TypeId × Sq))} {bx : List (Nat × Option (List D))}
end
section
end
section
variable {C : Cx} {ops : Array Oper} {K : PS → Prop} {l : List Oper} {s s' : PS} {TT : List (Nat × Ty)} {tm : List (Nat × D)} {rw' : List (Nat × Option (TypeId × Sq))} {bx : List (Nat × Option (List D))}
variable {o : Oper} {rest : List Oper} {rk rids bk bids pids : List Nat}
end
section
theorem Rel.drop {w0 : World} {O0 : Hd} {n : Nat} {M : Mp} {s : PS} {a : Act} {w : World} (h : Rel w0 O0 n M s a w) {r : Nat} {e : TypeId} {q : Sq} (hr : s.r r = some (e, q)) :
    ∃ M', Rel w0 O0 n M' (s.setR r none) a w ∧ (∀ v, VR M (Ow (Fs w0 O0) M) w (.row r 0 q.len) v → VR M' (Ow (Fs w0 O0) M') w (.ro true q) v) ∧ ∀ d v, VR M (Ow (Fs w0 O0) M) w d v → VR M' (Ow (Fs w0 O0) M') w d v := by
  let M' : Mp := ⟨M.β, fun y => if y = r then none else M.γ y⟩
  have hown : ∀ k, M'.owned k → M.owned k := by
    rintro k (⟨b, hb⟩ | ⟨y, c, z, hy⟩)
    · exact .inl ⟨b, hb⟩
    · simp only [M'] at hy
      split at hy
      · cases hy
      · exact .inr ⟨y, c, z, hy⟩
  have hA : ∀ f b, b < w.heap.size → Ow (Fs w0 O0) M f b → Ow (Fs w0 O0) M' f b ∧ b < w.heap.size ∧ w.heap[b]? = w.heap[b]? := fun f b h1 h2 => ⟨⟨fun h3 => h2.1 (hown b h3), h2.2⟩, h1, rfl⟩
  have hγ : ∀ y z, y ≠ r → M'.γ y = some z → M.γ y = some z := fun y z h1 h2 => by simpa [M', h1] using h2
  have hβ : ∀ b k, M'.β b = some k → M.β b = some k := fun _ _ h => h
  have hγ' : ∀ y z, M'.γ y = some z → M.γ y = some z := fun y z h1 => by
    simp only [M'] at h1
    split at h1
    · cases h1
    · exact h1
  have hv : ∀ v, VR M (Ow (Fs w0 O0) M) w (.row r 0 q.len) v → VR M' (Ow (Fs w0 O0) M') w (.ro true q) v := by
    intro v h0
    cases h0 with
    | row _ _ _ _ g1 g2 =>
      rcases h.row r e q hr with ⟨hg, h0⟩ | ⟨g, cap, cur, hg, hh, hl, hmx, hcs, hc⟩
      · have := g2 _ hg
        simp only [RowV] at this
        obtain ⟨⟨ao0, rfl⟩, _, _⟩ := this
        have := VR.ro (M := M') (A := Ow (Fs w0 O0) M') (w := w) true q ao0 0 0 0 (fun _ _ => undef) (by omega) (by omega) (by omega) (by intro i j d hi; omega) (by intro i j d hi; omega)
        rwa [h0] at this
      · have := g2 _ hg
        simp only [RowV] at this
        obtain ⟨h1, ao, h2, h3⟩ := this
        have h4 := h3 (.inr trivial)
        rw [Nat.zero_mul] at h4
        subst h2
        refine .ro true q ao _ g 0 (fun i j => cur.getD (i * q.sz + j) undef) (by omega) (by omega) (fun _ => ⟨h4, (Array.getElem?_eq_some_iff.1 hh).1, ?_, ?_⟩) (fun i j d hi hd => ?_) (fun i j d hi hd => (hc i j d hi hd).elem_any hd hA)
        · rintro (⟨b, hb⟩ | ⟨y, c, z, hy⟩)
          · exact h.inj3 _ _ _ _ _ hb hg
          · simp only [M'] at hy
            split at hy
            · cases hy
            · rename_i hyr; exact hyr (h.inj2 _ _ _ _ _ _ _ hy hg)
        · exact (h.low _ (.inr ⟨r, _, _, hg⟩)).imp_right (O0.sub _ _)
        · have hj : j < q.sz := by rw [← Sq.elem_len true q i]; exact (List.getElem?_eq_some_iff.1 hd).1
          have hlt : i * q.sz + j < cur.size := by
            rw [hcs]
            have h4 : (i + 1) * q.sz ≤ cap * q.sz := Nat.mul_le_mul_right _ (by omega)
            rw [Nat.add_mul, Nat.one_mul] at h4; omega
          rw [Nat.zero_add, cell_of_row w g _ cur e (0, 0) hh]
          simp [hlt]
  refine ⟨M', ⟨h.fr, h.dfr, h.sz, fun x => (h.tmp x).mono hA hγ' hβ, fun b cs hb => ?_, h.boxn, fun y e' p hy => ?_, fun y hy => ?_, fun k hk => h.low k (hown k hk), h.inj1, fun y y' k c z c' z' h1 h2 => ?_, fun b y k c z h1 h2 => ?_, h.nle, h.fxb, fun y u u' h1 h2 => ?_⟩, hv, fun d v hd => hd.mono hA hγ' hβ⟩
  · obtain ⟨k, cur, e2, a1, a2, a3, a4⟩ := h.box b cs hb
    exact ⟨k, cur, e2, a1, a2, a3, fun j d hd => (a4 j d hd).mono hA hγ' hβ⟩
  · have hy : (s.setR r none).r y = some (e', p) := hy
    rw [PS.r_setR] at hy
    by_cases hyr : r = y
    · rw [if_pos hyr] at hy; cases hy
    · rw [if_neg hyr] at hy
      rcases h.row y e' p hy with ⟨h1, h2⟩ | ⟨g, cap, cur, h1, h2, h3, h4, h5, h6⟩
      · exact .inl ⟨by simp [M', Ne.symm hyr, h1], h2⟩
      · exact .inr ⟨g, cap, cur, by simp [M', Ne.symm hyr, h1], h2, h3, h4, h5, fun i j d hi' hd => (h6 i j d hi' hd).elem_any hd hA⟩
  · have hy : (s.setR r none).r y = none := hy
    rw [PS.r_setR] at hy
    by_cases hyr : r = y
    · simp [M', hyr]
    · rw [if_neg hyr] at hy
      simpa [M', Ne.symm hyr] using h.rown y hy
  · simp only [M'] at h1 h2
    split at h1 <;> split at h2 <;> first | (cases h1; done) | (cases h2; done) | exact h.inj2 _ _ _ _ _ _ _ h1 h2
  · simp only [M'] at h2
    split at h2
    · cases h2
    · exact h.inj3 _ _ _ _ _ h1 h2
  · simp only [M'] at h2
    split at h2
    · cases h2
    · exact h.fxr y u u' h1 h2
end
section
variable {C : Cx} {ops : Array Oper} {K : PS → Prop} {o : Oper} {rest : List Oper} {s s' : PS} {TT : List (Nat × Ty)} {tm : List (Nat × D)} {rw' : List (Nat × Option (TypeId × Sq))} {bx : List (Nat × Option (List D))} {cr B : List Nat} {j : Nat}
/-- a slice of one row, which is given away -/
theorem sBuildMove (hT : TTOK C.P TT) {t e e' : TypeId} {k q q' : Sq} {by' b r n : Nat} {x : Operand} (hop : o.op = .buildSlice t 1 #[(0, x)]) (hd : o.dst = some b) (hy : look TT t = some (.sl e k by')) (hx : s.ev x = .row r 0 n) (hr : s.r r = some (e', q)) (hnq : n = q.len)
    (hq : k.ofL [.ro true q] = some q') (hbig : Nat.ble (1 * k.sz) 16777216 = true) (hn : Nat.blt b C.n = true) (hf : Fresh s noB (isR b)) : Step C o s (fun s' => s' = s.ap (some b) ⟨.row b 0 1, [(b, some (e, q')), (r, none)], []⟩) := ⟨fun M a w Q K' hrl hk => by
  subst hnq
  have hev := hrl.ev x
  rw [hx] at hev
  obtain ⟨M1, g1, g2, g3⟩ := hrl.drop hr
  have hv := g2 _ hev
  obtain ⟨q1, q2, q3⟩ := Sq.ofL_ok hq
  obtain ⟨a1, a2⟩ := q3 0 _ rfl
  obtain ⟨c1, c2, _⟩ := hv.cells a1
  rw [a2, Sq.elem_len, q2] at c1
  have hk1 : q'.len = 1 := q1
  have hvs : ∀ v ∈ [a.eval x], v.cells.size = k.sz := by intro v hv; simp at hv; subst hv; exact c1.symm
  have hbig' := Nat.le_of_ble_eq_true hbig
  have hfm : ([a.eval x].flatMap fun v => v.cells.toList) = (a.eval x).cells.toList := by simp
  have hfill : ∀ cells : Array Value, cells.size = 1 * k.sz → Instr.fill (fun i => some (i * k.sz, k.sz)) cells (idxL 0 [a.eval x]) = some ([a.eval x].flatMap fun v => v.cells.toList).toArray := fun cells hc => by
    have := fill_all k.sz [a.eval x] 0 cells hvs (by rw [hc]; rfl)
    simpa using this
  have hrun : (execOp a.eval o).run C.P w = .ok (.value (.slice (some ⟨w.heap.size, 0, none⟩) 1 1)) (w.alloc (.cells ([a.eval x].flatMap fun v => v.cells.toList).toArray e)) := by
    have hparts : ((#[(0, x)] : Array (Nat × Operand)).map fun (p : Nat × Operand) => (p.1, a.eval p.2)).toList = idxL 0 [a.eval x] := by simp [idxL]
    have := run_buildSlice (hT t _ hy) w 1 _ ([a.eval x].flatMap fun v => v.cells.toList).toArray (by omega) (fun cells hc => by rw [hparts]; exact hfill cells hc)
    unfold execOp
    rw [hop]
    simp only [Sem.run_bind, this, Result.andThen_ok]
    rfl
  obtain ⟨M', h1, h2⟩ := g1.newRow (r := b) (m := 1) (e := e) (q := q') (cur := ([a.eval x].flatMap fun v => v.cells.toList).toArray) (w' := w.alloc (.cells ([a.eval x].flatMap fun v => v.cells.toList).toArray e)) hk1 (by unfold maxLen; omega)
    (by simp only [List.size_toArray]; rw [flatMap_len _ hvs, q2]; rfl) (heap_alloc_new w _) rfl rfl rfl (by simp) (fun k hk => Below.heap_alloc w _ k hk) (fun i j d hi hd => by
      obtain rfl : i = 0 := by omega
      have := c2 j d (by rw [a2]; exact hd)
      simpa using this) ⟨hf.t, hf.b⟩ (by have h1000 := hrl.nle; rw [Nat.blt_eq] at hn; omega)
  unfold Oper.wp
  rw [hrun]
  refine hk M' _ _ _ rfl ?_
  rw [hd]
  exact h1.put (o := some b) hn h2⟩
theorem nBuildF (hT : TTOK C.P TT) (hw : Wanted C ops o ⟨tm, rw', bx⟩) {t e e' : TypeId} {k q q' q'' : Sq} {by' b r n : Nat} {x : Operand} (hop : o.op = .buildSlice t 1 #[(0, x)]) (hd : o.dst = some b) (hy : look TT t = some (.sl e k by')) (hx : (PS.ev ⟨tm, rw', bx⟩ x) = .row r 0 n) (hr : (PS.r ⟨tm, rw', bx⟩ r) = some (e', q))
    (hq : k.ofL [.ro true q] = some q') (hbig : Nat.ble (1 * k.sz) 16777216 = true) (hn : Nat.blt b C.n = true) (hcr : cr.contains j = true) (hnm : nm ops j b = true) (hq' : fcQ q' some = some q'') (hvis : visB ops cr B j ⟨tm, rw', bx⟩ [x] = true) (hck : chkE ops cr B j ⟨.row b 0 1, [(b, some (e, q'')), (r, none)], []⟩ = true) (hnq : n = q.len)
    (h : QN C ops cr B K (j + 1) rest ⟨(b, .row b 0 1) :: tm, (b, some (e, q'')) :: (r, none) :: rw', bx⟩) : QN C ops cr B K j (o :: rest) ⟨tm, rw', bx⟩ := by
  rw [fcQ_eq] at hq'
  cases hq'
  refine nStep (e := ⟨.row b 0 1, [(b, some (e, _)), (r, none)], []⟩) hw hck (fun s1 hag => ?_) (by rw [hd]; exact h)
  have e1 := hag.ev x (by rw [hop]; simp [Op.operands])
  have s1x := hag.same hvis x (by simp)
  rw [hx] at s1x
  rw [hd]
  exact sBuildMove hT hop hd hy (e1.trans hx) (by rw [s1x.row]; exact hr) hnq hq hbig hn (fresh_sub (hag.fr hcr) (fun x hx => by cases hx) (fun x hx => by rw [← Nat.eq_of_beq_eq_true hx]; exact hnm))
end
end Go.Proofs.Ytgindcgphnbnaaa

namespace Go.Proofs.Ytgindcgphnbnaaa
open Go.RowKit
set_option linter.unusedVariables false
set_option linter.unusedSimpArgs false
def S_l22Det_l3 (N : Nat) (m_0 : List (List Int)) (j226 : Int) (i324 : Int) (k : (List Int) → Option (Int)) : Nat → ((List Int) × Int) → Option (Int)
  | 0, _ => none
  | n + 1, (l335, k336) =>
    cnd (decide (k336 < (m_0.length : Int))) (
      cnd (k336 != j226) (
        grd (0 ≤ i324 ∧ i324 < (m_0.length : Int)) <|
        grd (0 ≤ k336 ∧ k336 < ((m_0.getD ((i324).toNat) []).length : Int)) <|
        grd (l335.length + 1 ≤ 4294967296) <|
        grd (Rg64 (k336 + (1 : Int))) <|
        S_l22Det_l3 N m_0 j226 i324 k n ((l335 ++ ([((m_0.getD ((i324).toNat) []).getD ((k336).toNat) 0)] : List Int)), (k336 + (1 : Int)))) (
        grd (Rg64 (k336 + (1 : Int))) <|
        S_l22Det_l3 N m_0 j226 i324 k n (l335, (k336 + (1 : Int))))) (
      k l335)
def S_l22Det_l2 (N : Nat) (m_0 : List (List Int)) (j226 : Int) (k : (List (List Int)) → Option (Int)) : Nat → ((List (List Int)) × Int) → Option (Int)
  | 0, _ => none
  | n + 1, (l323, i324) =>
    cnd (decide (i324 < (m_0.length : Int))) (
      S_l22Det_l3 N m_0 j226 i324 (fun (l333 : List Int) =>
            grd (l323.length + 1 ≤ 4294967296) <|
            grd (Rg64 (i324 + (1 : Int))) <|
            S_l22Det_l2 N m_0 j226 k n ((l323 ++ ([l333] : List (List Int))), (i324 + (1 : Int)))) N (([] : List Int), (0 : Int))) (
      k l323)
def S_l22Det_l1 (N : Nat) (m_0 : List (List Int)) (rec_99 : (List (List Int)) → Option (Int)) (k : Int → Option (Int)) : Nat → (Int × Int) → Option (Int)
  | 0, _ => none
  | n + 1, (d225, j226) =>
    cnd (decide (j226 < (m_0.length : Int))) (
      grd (0 ≤ (0 : Int) ∧ (0 : Int) < (m_0.length : Int)) <|
      grd (0 ≤ j226 ∧ j226 < ((m_0.getD ((0 : Int).toNat) []).length : Int)) <|
      cnd (((m_0.getD ((0 : Int).toNat) []).getD ((j226).toNat) 0) == (0 : Int)) (
        grd (Rg64 (j226 + (1 : Int))) <|
        S_l22Det_l1 N m_0 rec_99 k n (d225, (j226 + (1 : Int)))) (
        S_l22Det_l2 N m_0 j226 (fun (l308 : List (List Int)) =>
              (rec_99 l308).bind fun v309 =>
              grd (Rg64 (((m_0.getD ((0 : Int).toNat) []).getD ((j226).toNat) 0) * v309)) <|
              grd ((2 : Int) ≠ 0) <|
              cnd ((Int.tmod j226 (2 : Int)) == (1 : Int)) (
                grd (Rg64 (-(((m_0.getD ((0 : Int).toNat) []).getD ((j226).toNat) 0) * v309))) <|
                grd (Rg64 (d225 + (-(((m_0.getD ((0 : Int).toNat) []).getD ((j226).toNat) 0) * v309)))) <|
                grd (Rg64 (j226 + (1 : Int))) <|
                S_l22Det_l1 N m_0 rec_99 k n ((d225 + (-(((m_0.getD ((0 : Int).toNat) []).getD ((j226).toNat) 0) * v309))), (j226 + (1 : Int)))) (
                grd (Rg64 (d225 + (((m_0.getD ((0 : Int).toNat) []).getD ((j226).toNat) 0) * v309))) <|
                grd (Rg64 (j226 + (1 : Int))) <|
                S_l22Det_l1 N m_0 rec_99 k n ((d225 + (((m_0.getD ((0 : Int).toNat) []).getD ((j226).toNat) 0) * v309)), (j226 + (1 : Int))))) N (([] : List (List Int)), (1 : Int)))) (
      k d225)
def S_l22Det_b (N : Nat) (rec_99 : (List (List Int)) → Option (Int)) (m_0 : List (List Int)) : Option (Int) :=
  cnd ((m_0.length : Int) == (0 : Int)) (
    some (1 : Int)) (
    S_l22Det_l1 N m_0 rec_99 (fun (d168 : Int) =>
          some d168) N ((0 : Int), (0 : Int)))
def S_l22Det_r (N : Nat) : Nat → (List (List Int)) → Option (Int)
  | 0, _ => none
  | d + 1, m_0 => S_l22Det_b N (S_l22Det_r N d) m_0
def S_l22Det (N : Nat) (m_0 : List (List Int)) : Option (Int) := S_l22Det_r N N m_0
set_option maxRecDepth 20000 in
set_option maxHeartbeats 1600000 in
theorem S_l22Det_bw (N : Nat) (rec_99 : (List (List Int)) → Option (Int)) (hrec : ∀ (m_0 : List (List Int)) (r : Int), rec_99 m_0 = some r → PCall Try.prog 63 [.ro false (.intss m_0)] [] (.int r)) (m_0 : List (List Int)) (r : Int) (h : S_l22Det_b N rec_99 m_0 = some r) : PCall Try.prog 63 [.ro false (.intss m_0)] [] (.int r) := by
  unfold S_l22Det_b at h
  refine pcall_intro (TT := TT) tt Try.func63 rfl rfl Try.ntmps63 (congrArg Array.toList Try.results63) rfl rfl fun w0 => ?_
  refine vSeq ?_
  refine vRegion ?_
  refine oVal tt rfl rfl rfl rfl rfl trivial ?_
  refine vNil ?_
  change VC _ _ _ _
  iterate 2 refine vSeq ?_
  refine vRegion ?_
  iterate 3 refine oVal tt rfl rfl rfl rfl rfl trivial ?_
  refine vNil ?_
  change VC _ _ _ _
  refine vCond rfl (fun hb1 => ?_) (fun hb1 => ?_)
  · replace h := cnd_t hb1 h
    refine vSeq ?_
    refine vRegion ?_
    refine oVal tt rfl rfl rfl rfl rfl trivial ?_
    refine vNil ?_
    change VC _ _ _ _
    refine vRet ?_
    change ∃ _, _
    cases h
    exact ⟨[], _, rfl, trivial, rfl, (.eq rfl), rfl⟩
  · replace h := cnd_f hb1 h
    refine vSkip ?_
    change VC _ _ _ _
    refine vSeq ?_
    refine vRegion ?_
    refine oVal tt rfl rfl rfl rfl rfl trivial ?_
    refine vNil ?_
    change VC _ _ _ _
    iterate 2 refine vSeq ?_
    refine vRegion ?_
    refine oVal tt rfl rfl rfl rfl rfl trivial ?_
    refine vNil ?_
    change VC _ _ _ _
    refine vJoin (F := fun k => S_l22Det_l1 N m_0 rec_99 k) h (α := Int) (J := fun (d168 : Int) => (⟨[(3, .int d168)], [], []⟩ : PS)) ?_ ?_
    · rintro d168 h
      show VC _ _ _ (⟨[(3, .int d168)], [], []⟩ : PS)
      refine vSeq ?_
      refine vRegion ?_
      iterate 2 refine oVal tt rfl rfl rfl rfl rfl trivial ?_
      refine vNil ?_
      change VC _ _ _ _
      refine vRet ?_
      change ∃ _, _
      cases h
      exact ⟨[], _, rfl, trivial, rfl, (.eq rfl), rfl⟩
    · intro k h
      refine vBlock ?_
      refine vLoopS (α := Int × Int) (fun | (d225, j226) => (⟨[(0, .ro false (.intss m_0)), (3, .int d225), (4, .int j226)], [], []⟩ : PS)) (S_l22Det_l1 N m_0 rec_99 k) h (En.of ⟨rfl, rfl, rfl, trivial⟩ trivial trivial) (fun _ => rfl) ?_
      rintro n ⟨d225, j226⟩ h
      rw [S_l22Det_l1] at h
      show VC _ _ _ (⟨[(0, .ro false (.intss m_0)), (3, .int d225), (4, .int j226)], [], []⟩ : PS)
      iterate 2 refine vSeq ?_
      refine vRegion ?_
      iterate 4 refine oVal tt rfl rfl rfl rfl rfl trivial ?_
      refine vNil ?_
      change VC _ _ _ _
      refine vCond rfl (fun hb2 => ?_) (fun hb2 => ?_)
      · replace h := cnd_t hb2 h
        refine vSkip ?_
        change VC _ _ _ _
        refine vSeq ?_
        refine vBlock ?_
        iterate 2 refine vSeq ?_
        refine vRegion ?_
        refine oVal tt rfl rfl rfl rfl rfl trivial ?_
        obtain ⟨hg3, h⟩ := grd_inv h
        refine oVal tt rfl rfl rfl rfl rfl hg3 ?_
        iterate 2 refine oVal tt rfl rfl rfl rfl rfl trivial ?_
        obtain ⟨hg4, h⟩ := grd_inv h
        refine oVal tt rfl rfl rfl rfl rfl hg4 ?_
        iterate 2 refine oVal tt rfl rfl rfl rfl rfl trivial ?_
        refine vNil ?_
        change VC _ _ _ _
        refine vCond rfl (fun hb5 => ?_) (fun hb5 => ?_)
        · replace h := cnd_t hb5 h
          refine vExit ?_
          change VC _ _ _ _
          refine vRegion ?_
          refine oVal tt rfl rfl rfl rfl rfl trivial ?_
          obtain ⟨hg6, h⟩ := grd_inv h
          refine oVal tt rfl rfl rfl rfl rfl hg6 ?_
          refine oVal tt rfl rfl rfl rfl rfl trivial ?_
          refine vNil ?_
          change ∃ _, _
          exact ⟨(d225, (j226 + (1 : Int))), (En.of ⟨rfl, rfl, rfl, trivial⟩ trivial trivial), h⟩
        · replace h := cnd_f hb5 h
          refine vSkip ?_
          change VC _ _ _ _
          refine vSeq ?_
          refine vRegion ?_
          refine oEmpty tt (wNone rfl) rfl rfl rfl rfl ?_
          refine oVal tt rfl rfl rfl rfl rfl trivial ?_
          refine vNil ?_
          change VC _ _ _ _
          iterate 2 refine vSeq ?_
          refine vRegion ?_
          refine oVal tt rfl rfl rfl rfl rfl trivial ?_
          refine vNil ?_
          change VC _ _ _ _
          refine vJoin (F := fun k => S_l22Det_l2 N m_0 j226 k) h (α := List (List Int)) (J := fun (l308 : List (List Int)) => (⟨[(0, .ro false (.intss m_0)), (3, .int d225), (4, .int j226), (5, .row 56 0 l308.length)], [(56, some (22, .intss l308))], []⟩ : PS)) ?_ ?_
          · rintro l308 h
            show VC _ _ _ (⟨[(0, .ro false (.intss m_0)), (3, .int d225), (4, .int j226), (5, .row 56 0 l308.length)], [(56, some (22, .intss l308))], []⟩ : PS)
            refine vSeq ?_
            refine vRegionD (by kernel_rfl) (by kernel_rfl) ?_
            refine cVal tt rfl (wNone rfl) rfl rfl rfl trivial ?_
            refine cVal tt rfl (wNone rfl) rfl rfl rfl hg3 ?_
            iterate 2 refine cVal tt rfl (wNone rfl) rfl rfl rfl trivial ?_
            refine cVal tt rfl (wNone rfl) rfl rfl rfl hg4 ?_
            iterate 2 refine cVal tt rfl (wNone rfl) rfl rfl rfl trivial ?_
            obtain ⟨v309, hc7, h⟩ := bind_inv h
            refine cCall (hrec l308 v309 hc7) rfl (wNone rfl) rfl rfl rfl rfl rfl rfl ⟨(.inl ⟨rfl, rfl⟩), trivial⟩ ?_
            obtain ⟨hg8, h⟩ := grd_inv h
            refine cVal tt rfl (wNone rfl) rfl rfl rfl hg8 ?_
            refine cVal tt rfl (wNone rfl) rfl rfl rfl trivial ?_
            refine cNil ?_
            change VC _ _ _ _
            iterate 2 refine vSeq ?_
            refine vRegion ?_
            refine oVal tt rfl rfl rfl rfl rfl trivial ?_
            obtain ⟨hg9, h⟩ := grd_inv h
            refine oVal tt rfl rfl rfl rfl rfl hg9 ?_
            refine oVal tt rfl rfl rfl rfl rfl trivial ?_
            refine vNil ?_
            change VC _ _ _ _
            refine vCond rfl (fun hb10 => ?_) (fun hb10 => ?_)
            · replace h := cnd_t hb10 h
              refine vRegion ?_
              refine oVal tt rfl rfl rfl rfl rfl trivial ?_
              obtain ⟨hg11, h⟩ := grd_inv h
              refine oVal tt rfl rfl rfl rfl rfl hg11 ?_
              refine oVal tt rfl rfl rfl rfl rfl trivial ?_
              refine vNil ?_
              change VC _ _ _ _
              refine vRegion ?_
              iterate 2 refine oVal tt rfl rfl rfl rfl rfl trivial ?_
              obtain ⟨hg12, h⟩ := grd_inv h
              refine oVal tt rfl rfl rfl rfl rfl hg12 ?_
              refine oVal tt rfl rfl rfl rfl rfl trivial ?_
              refine vNil ?_
              change VC _ _ _ _
              refine vRegion ?_
              refine oVal tt rfl rfl rfl rfl rfl trivial ?_
              obtain ⟨hg13, h⟩ := grd_inv h
              refine oVal tt rfl rfl rfl rfl rfl hg13 ?_
              refine oVal tt rfl rfl rfl rfl rfl trivial ?_
              refine vNil ?_
              change ∃ _, _
              exact ⟨((d225 + (-(((m_0.getD ((0 : Int).toNat) []).getD ((j226).toNat) 0) * v309))), (j226 + (1 : Int))), (En.of ⟨rfl, rfl, rfl, trivial⟩ trivial trivial), h⟩
            · replace h := cnd_f hb10 h
              refine vSkip ?_
              change VC _ _ _ _
              refine vRegion ?_
              iterate 2 refine oVal tt rfl rfl rfl rfl rfl trivial ?_
              obtain ⟨hg14, h⟩ := grd_inv h
              refine oVal tt rfl rfl rfl rfl rfl hg14 ?_
              refine oVal tt rfl rfl rfl rfl rfl trivial ?_
              refine vNil ?_
              change VC _ _ _ _
              refine vRegion ?_
              refine oVal tt rfl rfl rfl rfl rfl trivial ?_
              obtain ⟨hg15, h⟩ := grd_inv h
              refine oVal tt rfl rfl rfl rfl rfl hg15 ?_
              refine oVal tt rfl rfl rfl rfl rfl trivial ?_
              refine vNil ?_
              change ∃ _, _
              exact ⟨((d225 + (((m_0.getD ((0 : Int).toNat) []).getD ((j226).toNat) 0) * v309)), (j226 + (1 : Int))), (En.of ⟨rfl, rfl, rfl, trivial⟩ trivial trivial), h⟩
          · intro k h
            refine vBlock ?_
            refine vNilT 5 56 22 (.intss []) rfl rfl rfl rfl ?_
            refine vLoopS (α := (List (List Int)) × Int) (fun | (l323, i324) => (⟨[(0, .ro false (.intss m_0)), (3, .int d225), (4, .int j226), (5, .row 56 0 l323.length), (6, .int i324)], [(56, some (22, .intss l323))], []⟩ : PS)) (S_l22Det_l2 N m_0 j226 k) h (En.of ⟨rfl, rfl, rfl, rfl, rfl, trivial⟩ ⟨rfl, trivial⟩ trivial) (fun _ => rfl) ?_
            rintro n ⟨l323, i324⟩ h
            rw [S_l22Det_l2] at h
            show VC _ _ _ (⟨[(0, .ro false (.intss m_0)), (3, .int d225), (4, .int j226), (5, .row 56 0 l323.length), (6, .int i324)], [(56, some (22, .intss l323))], []⟩ : PS)
            iterate 2 refine vSeq ?_
            refine vRegion ?_
            iterate 4 refine oVal tt rfl rfl rfl rfl rfl trivial ?_
            refine vNil ?_
            change VC _ _ _ _
            refine vCond rfl (fun hb16 => ?_) (fun hb16 => ?_)
            · replace h := cnd_t hb16 h
              refine vSkip ?_
              change VC _ _ _ _
              refine vSeq ?_
              refine vBlock ?_
              refine vSeq ?_
              refine vRegion ?_
              refine oEmpty tt (wNone rfl) rfl rfl rfl rfl ?_
              refine oVal tt rfl rfl rfl rfl rfl trivial ?_
              refine vNil ?_
              change VC _ _ _ _
              iterate 2 refine vSeq ?_
              refine vRegion ?_
              refine oVal tt rfl rfl rfl rfl rfl trivial ?_
              refine vNil ?_
              change VC _ _ _ _
              refine vJoin (F := fun k => S_l22Det_l3 N m_0 j226 i324 k) h (α := List Int) (J := fun (l333 : List Int) => (⟨[(0, .ro false (.intss m_0)), (3, .int d225), (4, .int j226), (5, .row 56 0 l323.length), (6, .int i324), (7, .row 52 0 l333.length)], [(56, some (22, .intss l323)), (52, some (3, .ints l333))], []⟩ : PS)) ?_ ?_
              · rintro l333 h
                show VC _ _ _ (⟨[(0, .ro false (.intss m_0)), (3, .int d225), (4, .int j226), (5, .row 56 0 l323.length), (6, .int i324), (7, .row 52 0 l333.length)], [(56, some (22, .intss l323)), (52, some (3, .ints l333))], []⟩ : PS)
                refine vRegion ?_
                iterate 2 refine oVal tt rfl rfl rfl rfl rfl trivial ?_
                refine oFreeze (t := 54) rfl rfl rfl rfl ?_
                refine oBuild tt rfl rfl rfl rfl rfl rfl rfl rfl rfl rfl rfl ?_
                obtain ⟨hg17, h⟩ := grd_inv h
                refine oAppend tt rfl rfl rfl rfl rfl rfl rfl rfl rfl rfl rfl rfl rfl rfl rfl rfl (Nat.le_of_eq (Nat.zero_add _)) hg17 ?_
                refine oVal tt rfl rfl rfl rfl rfl trivial ?_
                refine vNil ?_
                change VC _ _ _ _
                refine vRegion ?_
                refine oVal tt rfl rfl rfl rfl rfl trivial ?_
                obtain ⟨hg18, h⟩ := grd_inv h
                refine oVal tt rfl rfl rfl rfl rfl hg18 ?_
                refine oVal tt rfl rfl rfl rfl rfl trivial ?_
                refine vNil ?_
                change ∃ _, _
                exact ⟨((l323 ++ ([l333] : List (List Int))), (i324 + (1 : Int))), (En.of ⟨rfl, rfl, rfl, rfl, rfl, trivial⟩ ⟨rfl, trivial⟩ trivial), h⟩
              · intro k h
                refine vBlock ?_
                refine vNilT 7 52 3 (.ints []) rfl rfl rfl rfl ?_
                refine vLoopS (α := (List Int) × Int) (fun | (l335, k336) => (⟨[(0, .ro false (.intss m_0)), (3, .int d225), (4, .int j226), (5, .row 56 0 l323.length), (6, .int i324), (7, .row 52 0 l335.length), (8, .int k336)], [(56, some (22, .intss l323)), (52, some (3, .ints l335))], []⟩ : PS)) (S_l22Det_l3 N m_0 j226 i324 k) h (En.of ⟨rfl, rfl, rfl, rfl, rfl, rfl, rfl, trivial⟩ ⟨rfl, rfl, trivial⟩ trivial) (fun _ => rfl) ?_
                rintro n ⟨l335, k336⟩ h
                rw [S_l22Det_l3] at h
                show VC _ _ _ (⟨[(0, .ro false (.intss m_0)), (3, .int d225), (4, .int j226), (5, .row 56 0 l323.length), (6, .int i324), (7, .row 52 0 l335.length), (8, .int k336)], [(56, some (22, .intss l323)), (52, some (3, .ints l335))], []⟩ : PS)
                iterate 2 refine vSeq ?_
                refine vRegion ?_
                iterate 4 refine oVal tt rfl rfl rfl rfl rfl trivial ?_
                refine vNil ?_
                change VC _ _ _ _
                refine vCond rfl (fun hb19 => ?_) (fun hb19 => ?_)
                · replace h := cnd_t hb19 h
                  refine vSkip ?_
                  change VC _ _ _ _
                  refine vSeq ?_
                  refine vBlock ?_
                  refine vSeq ?_
                  refine vRegion ?_
                  iterate 3 refine oVal tt rfl rfl rfl rfl rfl trivial ?_
                  refine vNil ?_
                  change VC _ _ _ _
                  refine vCond rfl (fun hb20 => ?_) (fun hb20 => ?_)
                  · replace h := cnd_t hb20 h
                    refine vRegion ?_
                    iterate 3 refine oVal tt rfl rfl rfl rfl rfl trivial ?_
                    obtain ⟨hg21, h⟩ := grd_inv h
                    refine oVal tt rfl rfl rfl rfl rfl hg21 ?_
                    iterate 2 refine oVal tt rfl rfl rfl rfl rfl trivial ?_
                    obtain ⟨hg22, h⟩ := grd_inv h
                    refine oVal tt rfl rfl rfl rfl rfl hg22 ?_
                    refine oVal tt rfl rfl rfl rfl rfl trivial ?_
                    refine oBuild tt rfl rfl rfl rfl rfl rfl rfl rfl rfl rfl rfl ?_
                    obtain ⟨hg23, h⟩ := grd_inv h
                    refine oAppend tt rfl rfl rfl rfl rfl rfl rfl rfl rfl rfl rfl rfl rfl rfl rfl rfl (Nat.le_of_eq (Nat.zero_add _)) hg23 ?_
                    refine oVal tt rfl rfl rfl rfl rfl trivial ?_
                    refine vNil ?_
                    change VC _ _ _ _
                    refine vRegion ?_
                    refine oVal tt rfl rfl rfl rfl rfl trivial ?_
                    obtain ⟨hg24, h⟩ := grd_inv h
                    refine oVal tt rfl rfl rfl rfl rfl hg24 ?_
                    refine oVal tt rfl rfl rfl rfl rfl trivial ?_
                    refine vNil ?_
                    change ∃ _, _
                    exact ⟨((l335 ++ ([((m_0.getD ((i324).toNat) []).getD ((k336).toNat) 0)] : List Int)), (k336 + (1 : Int))), (En.of ⟨rfl, rfl, rfl, rfl, rfl, rfl, rfl, trivial⟩ ⟨rfl, rfl, trivial⟩ trivial), h⟩
                  · replace h := cnd_f hb20 h
                    refine vSkip ?_
                    change VC _ _ _ _
                    refine vRegion ?_
                    refine oVal tt rfl rfl rfl rfl rfl trivial ?_
                    obtain ⟨hg25, h⟩ := grd_inv h
                    refine oVal tt rfl rfl rfl rfl rfl hg25 ?_
                    refine oVal tt rfl rfl rfl rfl rfl trivial ?_
                    refine vNil ?_
                    change ∃ _, _
                    exact ⟨(l335, (k336 + (1 : Int))), (En.of ⟨rfl, rfl, rfl, rfl, rfl, rfl, rfl, trivial⟩ ⟨rfl, rfl, trivial⟩ trivial), h⟩
                · replace h := cnd_f hb19 h
                  refine vExit ?_
                  change ∃ _, _
                  exact ⟨l335, (En.of ⟨rfl, rfl, rfl, rfl, rfl, rfl, trivial⟩ ⟨rfl, rfl, trivial⟩ trivial), h⟩
            · replace h := cnd_f hb16 h
              refine vExit ?_
              change ∃ _, _
              exact ⟨l323, (En.of ⟨rfl, rfl, rfl, rfl, trivial⟩ ⟨rfl, trivial⟩ trivial), h⟩
      · replace h := cnd_f hb2 h
        refine vExit ?_
        change ∃ _, _
        exact ⟨d225, (En.of ⟨rfl, trivial⟩ trivial trivial), h⟩
theorem S_l22Det_rw (N : Nat) : ∀ (d : Nat) (m_0 : List (List Int)) (r : Int), S_l22Det_r N d m_0 = some r → PCall Try.prog 63 [.ro false (.intss m_0)] [] (.int r)
  | 0, _, r, h => by cases h
  | d + 1, m_0, r, h => S_l22Det_bw N _ (fun m_0 r h => S_l22Det_rw N d m_0 r h) m_0 r h
theorem S_l22Det_w (N : Nat) (m_0 : List (List Int)) (r : Int) (h : S_l22Det N m_0 = some r) : PCall Try.prog 63 [.ro false (.intss m_0)] [] (.int r) := S_l22Det_rw N N m_0 r h
def S_MengerOf (N : Nat) (d_0 : List Int) : Option (Int) :=
  cnd ((d_0.length : Int) != (6 : Int)) (
    some (0 : Int)) (
    (S_l22Fine N d_0).bind fun v1 =>
    cnd (!v1) (
      some (0 : Int)) (
      grd (0 ≤ (0 : Int) ∧ (0 : Int) < (d_0.length : Int)) <|
      grd (0 ≤ (1 : Int) ∧ (1 : Int) < (d_0.length : Int)) <|
      grd (0 ≤ (2 : Int) ∧ (2 : Int) < (d_0.length : Int)) <|
      grd (0 ≤ (3 : Int) ∧ (3 : Int) < (d_0.length : Int)) <|
      grd (0 ≤ (4 : Int) ∧ (4 : Int) < (d_0.length : Int)) <|
      grd (0 ≤ (5 : Int) ∧ (5 : Int) < (d_0.length : Int)) <|
      (S_l22Det N ([([(0 : Int), (1 : Int), (1 : Int), (1 : Int), (1 : Int)] : List Int), ([(1 : Int), (0 : Int), (d_0.getD ((0 : Int).toNat) 0), (d_0.getD ((1 : Int).toNat) 0), (d_0.getD ((2 : Int).toNat) 0)] : List Int), ([(1 : Int), (d_0.getD ((0 : Int).toNat) 0), (0 : Int), (d_0.getD ((3 : Int).toNat) 0), (d_0.getD ((4 : Int).toNat) 0)] : List Int), ([(1 : Int), (d_0.getD ((1 : Int).toNat) 0), (d_0.getD ((3 : Int).toNat) 0), (0 : Int), (d_0.getD ((5 : Int).toNat) 0)] : List Int), ([(1 : Int), (d_0.getD ((2 : Int).toNat) 0), (d_0.getD ((4 : Int).toNat) 0), (d_0.getD ((5 : Int).toNat) 0), (0 : Int)] : List Int)] : List (List Int))).bind fun v2 =>
      some v2))
set_option maxRecDepth 20000 in
set_option maxHeartbeats 1600000 in
theorem S_MengerOf_w (N : Nat) (d_0 : List Int) (r : Int) (h : S_MengerOf N d_0 = some r) : PCall Try.prog 15 [.ro false (.ints d_0)] [] (.int r) := by
  unfold S_MengerOf at h
  refine pcall_intro (TT := TT) tt Try.func15 rfl rfl Try.ntmps15 (congrArg Array.toList Try.results15) rfl rfl fun w0 => ?_
  refine vSeq ?_
  refine vRegion ?_
  refine oVal tt rfl rfl rfl rfl rfl trivial ?_
  refine vNil ?_
  change VC _ _ _ _
  iterate 2 refine vSeq ?_
  refine vRegion ?_
  iterate 4 refine oVal tt rfl rfl rfl rfl rfl trivial ?_
  refine oSplit rfl rfl rfl (fun hb1 => ?_) (fun hb1 => ?_)
  · replace h := cnd_t hb1 h
    iterate 3 refine oNoF rfl rfl rfl rfl hb1 rfl rfl ?_
    refine oPick rfl rfl rfl rfl rfl hb1 rfl ?_
    refine vNil ?_
    change VC _ _ _ _
    refine vCondT rfl rfl ?_
    refine vSeq ?_
    refine vRegion ?_
    refine oVal tt rfl rfl rfl rfl rfl trivial ?_
    refine vNil ?_
    change VC _ _ _ _
    refine vRet ?_
    change ∃ _, _
    cases h
    exact ⟨[], _, rfl, trivial, rfl, (.eq rfl), rfl⟩
  · replace h := cnd_f hb1 h
    refine oValG tt rfl rfl rfl rfl rfl hb1 rfl rfl rfl trivial ?_
    obtain ⟨v1, hc2, h⟩ := bind_inv h
    refine oCallG (S_l22Fine_w N d_0 v1 hc2) rfl rfl rfl rfl hb1 rfl rfl rfl rfl rfl rfl rfl ⟨rfl, trivial⟩ ?_
    refine oValG tt rfl rfl rfl rfl rfl hb1 rfl rfl rfl trivial ?_
    refine oPickF rfl rfl rfl rfl rfl hb1 rfl ?_
    refine vNil ?_
    change VC _ _ _ _
    refine vCond rfl (fun hb3 => ?_) (fun hb3 => ?_)
    · replace h := cnd_t hb3 h
      refine vSeq ?_
      refine vRegion ?_
      refine oVal tt rfl rfl rfl rfl rfl trivial ?_
      refine vNil ?_
      change VC _ _ _ _
      refine vRet ?_
      change ∃ _, _
      cases h
      exact ⟨[], _, rfl, trivial, rfl, (.eq rfl), rfl⟩
    · replace h := cnd_f hb3 h
      refine vSkip ?_
      change VC _ _ _ _
      refine vSeq ?_
      refine vRegionN 41 [0, 10, 20, 30, 40] [0, 0, 2, 6, 0, 16, 48, 0, 128, 384, 1022, 0, 2048, 6144, 0, 16384, 49152, 0, 131072, 393216, 1046528, 0, 2097152, 6291456, 0, 16777216, 50331648, 0, 134217728, 402653184, 1071644672, 0, 2147483648, 6442450944, 0, 17179869184, 51539607552, 0, 137438953472, 412316860416, 1097364144128, 2199023255551, 4398046511103, 8796093022207] (by kernel_rfl) (by kernel_rfl) (by kernel_rfl) (by kernel_rfl) (by kernel_rfl) rfl (by rfl) ?_
      refine nBuild tt (wNone rfl) rfl rfl rfl rfl rfl rfl rfl rfl rfl rfl rfl rfl ?_
      refine nVal tt rfl (wNone rfl) rfl rfl rfl rfl rfl trivial ?_
      obtain ⟨hg4, h⟩ := grd_inv h
      refine nVal tt rfl (wNone rfl) rfl rfl rfl rfl rfl hg4 ?_
      iterate 2 refine nVal tt rfl (wNone rfl) rfl rfl rfl rfl rfl trivial ?_
      obtain ⟨hg5, h⟩ := grd_inv h
      refine nVal tt rfl (wNone rfl) rfl rfl rfl rfl rfl hg5 ?_
      iterate 2 refine nVal tt rfl (wNone rfl) rfl rfl rfl rfl rfl trivial ?_
      obtain ⟨hg6, h⟩ := grd_inv h
      refine nVal tt rfl (wNone rfl) rfl rfl rfl rfl rfl hg6 ?_
      refine nVal tt rfl (wNone rfl) rfl rfl rfl rfl rfl trivial ?_
      refine nBuild tt (wNone rfl) rfl rfl rfl rfl rfl rfl rfl rfl rfl rfl rfl rfl ?_
      refine nVal tt rfl (wNone rfl) rfl rfl rfl rfl rfl trivial ?_
      refine nVal tt rfl (wNone rfl) rfl rfl rfl rfl rfl hg4 ?_
      iterate 2 refine nVal tt rfl (wNone rfl) rfl rfl rfl rfl rfl trivial ?_
      obtain ⟨hg7, h⟩ := grd_inv h
      refine nVal tt rfl (wNone rfl) rfl rfl rfl rfl rfl hg7 ?_
      iterate 2 refine nVal tt rfl (wNone rfl) rfl rfl rfl rfl rfl trivial ?_
      obtain ⟨hg8, h⟩ := grd_inv h
      refine nVal tt rfl (wNone rfl) rfl rfl rfl rfl rfl hg8 ?_
      refine nVal tt rfl (wNone rfl) rfl rfl rfl rfl rfl trivial ?_
      refine nBuild tt (wNone rfl) rfl rfl rfl rfl rfl rfl rfl rfl rfl rfl rfl rfl ?_
      refine nVal tt rfl (wNone rfl) rfl rfl rfl rfl rfl trivial ?_
      refine nVal tt rfl (wNone rfl) rfl rfl rfl rfl rfl hg5 ?_
      iterate 2 refine nVal tt rfl (wNone rfl) rfl rfl rfl rfl rfl trivial ?_
      refine nVal tt rfl (wNone rfl) rfl rfl rfl rfl rfl hg7 ?_
      iterate 2 refine nVal tt rfl (wNone rfl) rfl rfl rfl rfl rfl trivial ?_
      obtain ⟨hg9, h⟩ := grd_inv h
      refine nVal tt rfl (wNone rfl) rfl rfl rfl rfl rfl hg9 ?_
      refine nVal tt rfl (wNone rfl) rfl rfl rfl rfl rfl trivial ?_
      refine nBuild tt (wNone rfl) rfl rfl rfl rfl rfl rfl rfl rfl rfl rfl rfl rfl ?_
      refine nVal tt rfl (wNone rfl) rfl rfl rfl rfl rfl trivial ?_
      refine nVal tt rfl (wNone rfl) rfl rfl rfl rfl rfl hg6 ?_
      iterate 2 refine nVal tt rfl (wNone rfl) rfl rfl rfl rfl rfl trivial ?_
      refine nVal tt rfl (wNone rfl) rfl rfl rfl rfl rfl hg8 ?_
      iterate 2 refine nVal tt rfl (wNone rfl) rfl rfl rfl rfl rfl trivial ?_
      refine nVal tt rfl (wNone rfl) rfl rfl rfl rfl rfl hg9 ?_
      refine nVal tt rfl (wNone rfl) rfl rfl rfl rfl rfl trivial ?_
      refine nBuild tt (wNone rfl) rfl rfl rfl rfl rfl rfl rfl rfl rfl rfl rfl rfl ?_
      refine nNil ?_
      change VO _ _ _ _ _
      refine oFreeze (t := 11) rfl rfl rfl rfl ?_
      refine oFreeze (t := 21) rfl rfl rfl rfl ?_
      refine oFreeze (t := 31) rfl rfl rfl rfl ?_
      refine oFreeze (t := 41) rfl rfl rfl rfl ?_
      refine oFreeze (t := 51) rfl rfl rfl rfl ?_
      refine oBuild tt rfl rfl rfl rfl rfl rfl rfl rfl rfl rfl rfl ?_
      obtain ⟨v2, hc10, h⟩ := bind_inv h
      refine oCall (S_l22Det_w N ([([(0 : Int), (1 : Int), (1 : Int), (1 : Int), (1 : Int)] : List Int), ([(1 : Int), (0 : Int), (d_0.getD ((0 : Int).toNat) 0), (d_0.getD ((1 : Int).toNat) 0), (d_0.getD ((2 : Int).toNat) 0)] : List Int), ([(1 : Int), (d_0.getD ((0 : Int).toNat) 0), (0 : Int), (d_0.getD ((3 : Int).toNat) 0), (d_0.getD ((4 : Int).toNat) 0)] : List Int), ([(1 : Int), (d_0.getD ((1 : Int).toNat) 0), (d_0.getD ((3 : Int).toNat) 0), (0 : Int), (d_0.getD ((5 : Int).toNat) 0)] : List Int), ([(1 : Int), (d_0.getD ((2 : Int).toNat) 0), (d_0.getD ((4 : Int).toNat) 0), (d_0.getD ((5 : Int).toNat) 0), (0 : Int)] : List Int)] : List (List Int)) v2 hc10) rfl rfl rfl rfl rfl rfl rfl rfl ⟨(.inl ⟨rfl, rfl⟩), trivial⟩ ?_
      refine oVal tt rfl rfl rfl rfl rfl trivial ?_
      refine vNil ?_
      change VC _ _ _ _
      refine vRet ?_
      change ∃ _, _
      cases h
      exact ⟨[], _, rfl, trivial, rfl, (.eq rfl), rfl⟩
def I_determinant_l2 (N : Nat) (m_0 : List (List Int)) (x70 : Int) (k : (List (List Int)) → Option (Int)) : Nat → ((List (List Int)) × Int) → Option (Int)
  | 0, _ => none
  | n + 1, (l99, x100) =>
    cnd (decide (x100 < (((m_0.take m_0.length).drop ((1 : Int).toNat)).length : Int))) (
      grd (0 ≤ x100 ∧ x100 < (((m_0.take m_0.length).drop ((1 : Int).toNat)).length : Int)) <|
      grd (0 ≤ x70 ∧ x70 ≤ ((((m_0.take m_0.length).drop ((1 : Int).toNat)).getD ((x100).toNat) []).length : Int)) <|
      (I_copyInts N (((((m_0.take m_0.length).drop ((1 : Int).toNat)).getD ((x100).toNat) []).take ((x70).toNat)).drop 0)).bind fun v102 =>
      grd (Rg64 (x70 + (1 : Int))) <|
      grd (0 ≤ (x70 + (1 : Int)) ∧ (x70 + (1 : Int)) ≤ ((((m_0.take m_0.length).drop ((1 : Int).toNat)).getD ((x100).toNat) []).length : Int)) <|
      grd (v102.length + (((((m_0.take m_0.length).drop ((1 : Int).toNat)).getD ((x100).toNat) []).take (((m_0.take m_0.length).drop ((1 : Int).toNat)).getD ((x100).toNat) []).length).drop (((x70 + (1 : Int))).toNat)).length ≤ 4294967296) <|
      grd (l99.length + 1 ≤ 4294967296) <|
      grd (Rg64 (x100 + (1 : Int))) <|
      I_determinant_l2 N m_0 x70 k n ((l99 ++ ([(v102 ++ (((((m_0.take m_0.length).drop ((1 : Int).toNat)).getD ((x100).toNat) []).take (((m_0.take m_0.length).drop ((1 : Int).toNat)).getD ((x100).toNat) []).length).drop (((x70 + (1 : Int))).toNat)))] : List (List Int))), (x100 + (1 : Int)))) (
      k l99)
def I_determinant_l1 (N : Nat) (m_0 : List (List Int)) (rec_99 : (List (List Int)) → Option (Int)) (k : Int → Option (Int)) : Nat → (Int × Int) → Option (Int)
  | 0, _ => none
  | n + 1, (d69, x70) =>
    cnd (decide (x70 < ((m_0.getD ((0 : Int).toNat) []).length : Int))) (
      grd (0 ≤ x70 ∧ x70 < ((m_0.getD ((0 : Int).toNat) []).length : Int)) <|
      cnd (((m_0.getD ((0 : Int).toNat) []).getD ((x70).toNat) 0) == (0 : Int)) (
        grd (Rg64 (x70 + (1 : Int))) <|
        I_determinant_l1 N m_0 rec_99 k n (d69, (x70 + (1 : Int)))) (
        grd (0 ≤ (1 : Int) ∧ (1 : Int) ≤ (m_0.length : Int)) <|
        I_determinant_l2 N m_0 x70 (fun (l93 : List (List Int)) =>
              grd ((2 : Int) ≠ 0) <|
              cnd ((Int.tmod x70 (2 : Int)) == (1 : Int)) (
                grd (Rg64 (-((m_0.getD ((0 : Int).toNat) []).getD ((x70).toNat) 0))) <|
                (rec_99 l93).bind fun v94 =>
                grd (Rg64 ((-((m_0.getD ((0 : Int).toNat) []).getD ((x70).toNat) 0)) * v94)) <|
                grd (Rg64 (d69 + ((-((m_0.getD ((0 : Int).toNat) []).getD ((x70).toNat) 0)) * v94))) <|
                grd (Rg64 (x70 + (1 : Int))) <|
                I_determinant_l1 N m_0 rec_99 k n ((d69 + ((-((m_0.getD ((0 : Int).toNat) []).getD ((x70).toNat) 0)) * v94)), (x70 + (1 : Int)))) (
                (rec_99 l93).bind fun v95 =>
                grd (Rg64 (((m_0.getD ((0 : Int).toNat) []).getD ((x70).toNat) 0) * v95)) <|
                grd (Rg64 (d69 + (((m_0.getD ((0 : Int).toNat) []).getD ((x70).toNat) 0) * v95))) <|
                grd (Rg64 (x70 + (1 : Int))) <|
                I_determinant_l1 N m_0 rec_99 k n ((d69 + (((m_0.getD ((0 : Int).toNat) []).getD ((x70).toNat) 0) * v95)), (x70 + (1 : Int))))) N (([] : List (List Int)), (0 : Int)))) (
      k d69)
def I_determinant_b (N : Nat) (rec_99 : (List (List Int)) → Option (Int)) (m_0 : List (List Int)) : Option (Int) :=
  cnd ((m_0.length : Int) == (0 : Int)) (
    some (1 : Int)) (
    grd (0 ≤ (0 : Int) ∧ (0 : Int) < (m_0.length : Int)) <|
    I_determinant_l1 N m_0 rec_99 (fun (d51 : Int) =>
          some d51) N ((0 : Int), (0 : Int)))
def I_determinant_r (N : Nat) : Nat → (List (List Int)) → Option (Int)
  | 0, _ => none
  | d + 1, m_0 => I_determinant_b N (I_determinant_r N d) m_0
def I_determinant (N : Nat) (m_0 : List (List Int)) : Option (Int) := I_determinant_r N N m_0
set_option maxRecDepth 20000 in
set_option maxHeartbeats 1600000 in
theorem I_determinant_bw (N : Nat) (rec_99 : (List (List Int)) → Option (Int)) (hrec : ∀ (m_0 : List (List Int)) (r : Int), rec_99 m_0 = some r → PCall Try.prog 65 [.ro false (.intss m_0)] [] (.int r)) (m_0 : List (List Int)) (r : Int) (h : I_determinant_b N rec_99 m_0 = some r) : PCall Try.prog 65 [.ro false (.intss m_0)] [] (.int r) := by
  unfold I_determinant_b at h
  refine pcall_intro (TT := TT) tt Try.func65 rfl rfl Try.ntmps65 (congrArg Array.toList Try.results65) rfl rfl fun w0 => ?_
  refine vSeq ?_
  refine vRegion ?_
  refine oVal tt rfl rfl rfl rfl rfl trivial ?_
  refine vNil ?_
  change VC _ _ _ _
  iterate 2 refine vSeq ?_
  refine vRegion ?_
  iterate 3 refine oVal tt rfl rfl rfl rfl rfl trivial ?_
  refine vNil ?_
  change VC _ _ _ _
  refine vCond rfl (fun hb1 => ?_) (fun hb1 => ?_)
  · replace h := cnd_t hb1 h
    refine vSeq ?_
    refine vRegion ?_
    refine oVal tt rfl rfl rfl rfl rfl trivial ?_
    refine vNil ?_
    change VC _ _ _ _
    refine vRet ?_
    change ∃ _, _
    cases h
    exact ⟨[], _, rfl, trivial, rfl, (.eq rfl), rfl⟩
  · replace h := cnd_f hb1 h
    refine vSkip ?_
    change VC _ _ _ _
    refine vSeq ?_
    refine vRegion ?_
    refine oVal tt rfl rfl rfl rfl rfl trivial ?_
    refine vNil ?_
    change VC _ _ _ _
    iterate 2 refine vSeq ?_
    refine vRegion ?_
    refine oVal tt rfl rfl rfl rfl rfl trivial ?_
    obtain ⟨hg2, h⟩ := grd_inv h
    refine oVal tt rfl rfl rfl rfl rfl hg2 ?_
    iterate 3 refine oVal tt rfl rfl rfl rfl rfl trivial ?_
    refine vNil ?_
    change VC _ _ _ _
    refine vJoin (F := fun k => I_determinant_l1 N m_0 rec_99 k) h (α := Int) (J := fun (d51 : Int) => (⟨[(3, .int d51)], [], []⟩ : PS)) ?_ ?_
    · rintro d51 h
      show VC _ _ _ (⟨[(3, .int d51)], [], []⟩ : PS)
      refine vSeq ?_
      refine vRegion ?_
      iterate 2 refine oVal tt rfl rfl rfl rfl rfl trivial ?_
      refine vNil ?_
      change VC _ _ _ _
      refine vRet ?_
      change ∃ _, _
      cases h
      exact ⟨[], _, rfl, trivial, rfl, (.eq rfl), rfl⟩
    · intro k h
      refine vBlock ?_
      refine vLoopS (α := Int × Int) (fun | (d69, x70) => (⟨[(0, .ro false (.intss m_0)), (3, .int d69), (14, .ro false (.ints (m_0.getD ((0 : Int).toNat) []))), (15, .int ((m_0.getD ((0 : Int).toNat) []).length : Int)), (16, .int x70)], [], []⟩ : PS)) (I_determinant_l1 N m_0 rec_99 k) h (En.of ⟨rfl, rfl, rfl, rfl, rfl, trivial⟩ trivial trivial) (fun _ => rfl) ?_
      rintro n ⟨d69, x70⟩ h
      rw [I_determinant_l1] at h
      show VC _ _ _ (⟨[(0, .ro false (.intss m_0)), (3, .int d69), (14, .ro false (.ints (m_0.getD ((0 : Int).toNat) []))), (15, .int ((m_0.getD ((0 : Int).toNat) []).length : Int)), (16, .int x70)], [], []⟩ : PS)
      refine vSeq ?_
      refine vRegion ?_
      refine oVal tt rfl rfl rfl rfl rfl trivial ?_
      refine vNil ?_
      change VC _ _ _ _
      refine vSeq ?_
      refine vCond rfl (fun hb3 => ?_) (fun hb3 => ?_)
      · replace h := cnd_t hb3 h
        refine vSkip ?_
        change VC _ _ _ _
        refine vSeq ?_
        refine vBlock ?_
        refine vSeq ?_
        refine vRegion ?_
        refine oVal tt rfl rfl rfl rfl rfl trivial ?_
        obtain ⟨hg4, h⟩ := grd_inv h
        refine oVal tt rfl rfl rfl rfl rfl hg4 ?_
        iterate 3 refine oVal tt rfl rfl rfl rfl rfl trivial ?_
        refine vNil ?_
        change VC _ _ _ _
        iterate 2 refine vSeq ?_
        refine vRegion ?_
        iterate 2 refine oVal tt rfl rfl rfl rfl rfl trivial ?_
        refine vNil ?_
        change VC _ _ _ _
        refine vCond rfl (fun hb5 => ?_) (fun hb5 => ?_)
        · replace h := cnd_t hb5 h
          refine vExit ?_
          change VC _ _ _ _
          refine vRegion ?_
          obtain ⟨hg6, h⟩ := grd_inv h
          refine oVal tt rfl rfl rfl rfl rfl hg6 ?_
          refine oVal tt rfl rfl rfl rfl rfl trivial ?_
          refine vNil ?_
          change ∃ _, _
          exact ⟨(d69, (x70 + (1 : Int))), (En.of ⟨rfl, rfl, rfl, rfl, rfl, trivial⟩ trivial trivial), h⟩
        · replace h := cnd_f hb5 h
          refine vSkip ?_
          change VC _ _ _ _
          refine vSeq ?_
          refine vRegion ?_
          refine oEmpty tt (wNone rfl) rfl rfl rfl rfl ?_
          refine oVal tt rfl rfl rfl rfl rfl trivial ?_
          refine vNil ?_
          change VC _ _ _ _
          iterate 2 refine vSeq ?_
          refine vRegion ?_
          refine oVal tt rfl rfl rfl rfl rfl trivial ?_
          obtain ⟨hg7, h⟩ := grd_inv h
          refine oVal tt rfl rfl rfl rfl rfl hg7 ?_
          iterate 2 refine oVal tt rfl rfl rfl rfl rfl trivial ?_
          refine vNil ?_
          change VC _ _ _ _
          refine vJoin (F := fun k => I_determinant_l2 N m_0 x70 k) h (α := List (List Int)) (J := fun (l93 : List (List Int)) => (⟨[(0, .ro false (.intss m_0)), (3, .int d69), (4, .int x70), (5, .int ((m_0.getD ((0 : Int).toNat) []).getD ((x70).toNat) 0)), (6, .row 42 0 l93.length), (14, .ro false (.ints (m_0.getD ((0 : Int).toNat) []))), (15, .int ((m_0.getD ((0 : Int).toNat) []).length : Int)), (16, .int x70)], [(42, some (22, .intss l93))], []⟩ : PS)) ?_ ?_
          · rintro l93 h
            show VC _ _ _ (⟨[(0, .ro false (.intss m_0)), (3, .int d69), (4, .int x70), (5, .int ((m_0.getD ((0 : Int).toNat) []).getD ((x70).toNat) 0)), (6, .row 42 0 l93.length), (14, .ro false (.ints (m_0.getD ((0 : Int).toNat) []))), (15, .int ((m_0.getD ((0 : Int).toNat) []).length : Int)), (16, .int x70)], [(42, some (22, .intss l93))], []⟩ : PS)
            iterate 2 refine vSeq ?_
            refine vRegion ?_
            refine oVal tt rfl rfl rfl rfl rfl trivial ?_
            obtain ⟨hg8, h⟩ := grd_inv h
            refine oVal tt rfl rfl rfl rfl rfl hg8 ?_
            refine oVal tt rfl rfl rfl rfl rfl trivial ?_
            refine vNil ?_
            change VC _ _ _ _
            refine vCond rfl (fun hb9 => ?_) (fun hb9 => ?_)
            · replace h := cnd_t hb9 h
              refine vRegion ?_
              refine oVal tt rfl rfl rfl rfl rfl trivial ?_
              obtain ⟨hg10, h⟩ := grd_inv h
              refine oVal tt rfl rfl rfl rfl rfl hg10 ?_
              refine oVal tt rfl rfl rfl rfl rfl trivial ?_
              refine vNil ?_
              change VC _ _ _ _
              refine vRegion ?_
              iterate 3 refine oVal tt rfl rfl rfl rfl rfl trivial ?_
              obtain ⟨v94, hc11, h⟩ := bind_inv h
              refine oCall (hrec l93 v94 hc11) rfl rfl rfl rfl rfl rfl rfl rfl ⟨(.inl ⟨rfl, rfl⟩), trivial⟩ ?_
              obtain ⟨hg12, h⟩ := grd_inv h
              refine oVal tt rfl rfl rfl rfl rfl hg12 ?_
              obtain ⟨hg13, h⟩ := grd_inv h
              refine oVal tt rfl rfl rfl rfl rfl hg13 ?_
              refine oVal tt rfl rfl rfl rfl rfl trivial ?_
              refine vNil ?_
              change VC _ _ _ _
              refine vRegion ?_
              obtain ⟨hg14, h⟩ := grd_inv h
              refine oVal tt rfl rfl rfl rfl rfl hg14 ?_
              refine oVal tt rfl rfl rfl rfl rfl trivial ?_
              refine vNil ?_
              change ∃ _, _
              exact ⟨((d69 + ((-((m_0.getD ((0 : Int).toNat) []).getD ((x70).toNat) 0)) * v94)), (x70 + (1 : Int))), (En.of ⟨rfl, rfl, rfl, rfl, rfl, trivial⟩ trivial trivial), h⟩
            · replace h := cnd_f hb9 h
              refine vSkip ?_
              change VC _ _ _ _
              refine vRegion ?_
              iterate 3 refine oVal tt rfl rfl rfl rfl rfl trivial ?_
              obtain ⟨v95, hc15, h⟩ := bind_inv h
              refine oCall (hrec l93 v95 hc15) rfl rfl rfl rfl rfl rfl rfl rfl ⟨(.inl ⟨rfl, rfl⟩), trivial⟩ ?_
              obtain ⟨hg16, h⟩ := grd_inv h
              refine oVal tt rfl rfl rfl rfl rfl hg16 ?_
              obtain ⟨hg17, h⟩ := grd_inv h
              refine oVal tt rfl rfl rfl rfl rfl hg17 ?_
              refine oVal tt rfl rfl rfl rfl rfl trivial ?_
              refine vNil ?_
              change VC _ _ _ _
              refine vRegion ?_
              obtain ⟨hg18, h⟩ := grd_inv h
              refine oVal tt rfl rfl rfl rfl rfl hg18 ?_
              refine oVal tt rfl rfl rfl rfl rfl trivial ?_
              refine vNil ?_
              change ∃ _, _
              exact ⟨((d69 + (((m_0.getD ((0 : Int).toNat) []).getD ((x70).toNat) 0) * v95)), (x70 + (1 : Int))), (En.of ⟨rfl, rfl, rfl, rfl, rfl, trivial⟩ trivial trivial), h⟩
          · intro k h
            refine vBlock ?_
            refine vNilT 6 42 22 (.intss []) rfl rfl rfl rfl ?_
            refine vLoopS (α := (List (List Int)) × Int) (fun | (l99, x100) => (⟨[(0, .ro false (.intss m_0)), (3, .int d69), (4, .int x70), (5, .int ((m_0.getD ((0 : Int).toNat) []).getD ((x70).toNat) 0)), (6, .row 42 0 l99.length), (14, .ro false (.ints (m_0.getD ((0 : Int).toNat) []))), (15, .int ((m_0.getD ((0 : Int).toNat) []).length : Int)), (16, .int x70), (25, .ro false (.intss ((m_0.take m_0.length).drop ((1 : Int).toNat)))), (26, .int (((m_0.take m_0.length).drop ((1 : Int).toNat)).length : Int)), (27, .int x100)], [(42, some (22, .intss l99))], []⟩ : PS)) (I_determinant_l2 N m_0 x70 k) h (En.of ⟨rfl, rfl, rfl, rfl, rfl, rfl, rfl, rfl, rfl, rfl, rfl, trivial⟩ ⟨rfl, trivial⟩ trivial) (fun _ => rfl) ?_
            rintro n ⟨l99, x100⟩ h
            rw [I_determinant_l2] at h
            show VC _ _ _ (⟨[(0, .ro false (.intss m_0)), (3, .int d69), (4, .int x70), (5, .int ((m_0.getD ((0 : Int).toNat) []).getD ((x70).toNat) 0)), (6, .row 42 0 l99.length), (14, .ro false (.ints (m_0.getD ((0 : Int).toNat) []))), (15, .int ((m_0.getD ((0 : Int).toNat) []).length : Int)), (16, .int x70), (25, .ro false (.intss ((m_0.take m_0.length).drop ((1 : Int).toNat)))), (26, .int (((m_0.take m_0.length).drop ((1 : Int).toNat)).length : Int)), (27, .int x100)], [(42, some (22, .intss l99))], []⟩ : PS)
            refine vSeq ?_
            refine vRegion ?_
            refine oVal tt rfl rfl rfl rfl rfl trivial ?_
            refine vNil ?_
            change VC _ _ _ _
            refine vSeq ?_
            refine vCond rfl (fun hb19 => ?_) (fun hb19 => ?_)
            · replace h := cnd_t hb19 h
              refine vSkip ?_
              change VC _ _ _ _
              refine vSeq ?_
              refine vBlock ?_
              refine vSeq ?_
              refine vRegion ?_
              obtain ⟨hg20, h⟩ := grd_inv h
              refine oVal tt rfl rfl rfl rfl rfl hg20 ?_
              iterate 2 refine oVal tt rfl rfl rfl rfl rfl trivial ?_
              refine vNil ?_
              change VC _ _ _ _
              refine vRegionN 11 [4, 9, 10, 1090001350, 1100000040] [0, 0, 0, 6, 14, 0, 0, 64, 224, 510, 1022, 2047, 4095] (by kernel_rfl) (by kernel_rfl) (by kernel_rfl) (by kernel_rfl) (by kernel_rfl) rfl (by rfl) ?_
              iterate 3 refine nVal tt rfl (wNone rfl) rfl rfl rfl rfl rfl trivial ?_
              obtain ⟨hg21, h⟩ := grd_inv h
              refine nVal tt rfl (wNone rfl) rfl rfl rfl rfl rfl hg21 ?_
              obtain ⟨v102, hc22, h⟩ := bind_inv h
              refine nCallR (I_copyInts_w N (((((m_0.take m_0.length).drop ((1 : Int).toNat)).getD ((x100).toNat) []).take ((x70).toNat)).drop 0) v102 hc22) rfl (wNone rfl) rfl rfl rfl rfl rfl rfl (by first | rfl | kernel_rfl | (simp [nrL, nm, gdst, nmT, rowB]; done)) rfl (by first | rfl | kernel_rfl | (simp [chkE, nrL, nm, gdst, nmT, rowB, hid, ment, mentA, mentS]; done) | (simp [chkE, nrL, nm, gdst, nmT, rowB, hid, ment, mentA, mentS]; decide)) ⟨rfl, trivial⟩ ?_
              iterate 2 refine nVal tt rfl (wNone rfl) rfl rfl rfl rfl rfl trivial ?_
              obtain ⟨hg23, h⟩ := grd_inv h
              refine nVal tt rfl (wNone rfl) rfl rfl rfl rfl rfl hg23 ?_
              obtain ⟨hg24, h⟩ := grd_inv h
              refine nVal tt rfl (wNone rfl) rfl rfl rfl rfl rfl hg24 ?_
              obtain ⟨hg25, h⟩ := grd_inv h
              refine nAppMove tt (wNone rfl) rfl rfl rfl rfl rfl rfl rfl rfl rfl rfl rfl rfl rfl rfl rfl rfl rfl rfl rfl rfl trivial hg25 ?_
              refine nBuildF tt (wNone rfl) rfl rfl rfl rfl rfl rfl rfl rfl rfl rfl rfl rfl rfl rfl ?_
              refine nNil ?_
              change VO _ _ _ _ _
              obtain ⟨hg26, h⟩ := grd_inv h
              refine oAppend tt rfl rfl rfl rfl rfl rfl rfl rfl rfl rfl rfl rfl rfl rfl rfl rfl (Nat.le_of_eq (Nat.zero_add _)) hg26 ?_
              refine oVal tt rfl rfl rfl rfl rfl trivial ?_
              refine vNil ?_
              change VC _ _ _ _
              refine vRegion ?_
              obtain ⟨hg27, h⟩ := grd_inv h
              refine oVal tt rfl rfl rfl rfl rfl hg27 ?_
              refine oVal tt rfl rfl rfl rfl rfl trivial ?_
              refine vNil ?_
              change ∃ _, _
              exact ⟨((l99 ++ ([(v102 ++ (((((m_0.take m_0.length).drop ((1 : Int).toNat)).getD ((x100).toNat) []).take (((m_0.take m_0.length).drop ((1 : Int).toNat)).getD ((x100).toNat) []).length).drop (((x70 + (1 : Int))).toNat)))] : List (List Int))), (x100 + (1 : Int))), (En.of ⟨rfl, rfl, rfl, rfl, rfl, rfl, rfl, rfl, rfl, rfl, rfl, trivial⟩ ⟨rfl, trivial⟩ trivial), h⟩
            · replace h := cnd_f hb19 h
              refine vExit ?_
              change ∃ _, _
              exact ⟨l99, (En.of ⟨rfl, rfl, rfl, rfl, rfl, rfl, rfl, rfl, trivial⟩ ⟨rfl, trivial⟩ trivial), h⟩
      · replace h := cnd_f hb3 h
        refine vExit ?_
        change ∃ _, _
        exact ⟨d69, (En.of ⟨rfl, trivial⟩ trivial trivial), h⟩
theorem I_determinant_rw (N : Nat) : ∀ (d : Nat) (m_0 : List (List Int)) (r : Int), I_determinant_r N d m_0 = some r → PCall Try.prog 65 [.ro false (.intss m_0)] [] (.int r)
  | 0, _, r, h => by cases h
  | d + 1, m_0, r, h => I_determinant_bw N _ (fun m_0 r h => I_determinant_rw N d m_0 r h) m_0 r h
theorem I_determinant_w (N : Nat) (m_0 : List (List Int)) (r : Int) (h : I_determinant N m_0 = some r) : PCall Try.prog 65 [.ro false (.intss m_0)] [] (.int r) := I_determinant_rw N N m_0 r h
def I_MengerOf (N : Nat) (d_0 : List Int) : Option (Int) :=
  (I_areSquares N (6 : Int) d_0).bind fun v1 =>
  cnd (!v1) (
    some (0 : Int)) (
    grd (0 ≤ (0 : Int) ∧ (0 : Int) < (d_0.length : Int)) <|
    grd (0 ≤ (1 : Int) ∧ (1 : Int) < (d_0.length : Int)) <|
    grd (0 ≤ (2 : Int) ∧ (2 : Int) < (d_0.length : Int)) <|
    grd (0 ≤ (3 : Int) ∧ (3 : Int) < (d_0.length : Int)) <|
    grd (0 ≤ (4 : Int) ∧ (4 : Int) < (d_0.length : Int)) <|
    grd (0 ≤ (5 : Int) ∧ (5 : Int) < (d_0.length : Int)) <|
    (I_determinant N ([([(0 : Int), (1 : Int), (1 : Int), (1 : Int), (1 : Int)] : List Int), ([(1 : Int), (0 : Int), (d_0.getD ((0 : Int).toNat) 0), (d_0.getD ((1 : Int).toNat) 0), (d_0.getD ((2 : Int).toNat) 0)] : List Int), ([(1 : Int), (d_0.getD ((0 : Int).toNat) 0), (0 : Int), (d_0.getD ((3 : Int).toNat) 0), (d_0.getD ((4 : Int).toNat) 0)] : List Int), ([(1 : Int), (d_0.getD ((1 : Int).toNat) 0), (d_0.getD ((3 : Int).toNat) 0), (0 : Int), (d_0.getD ((5 : Int).toNat) 0)] : List Int), ([(1 : Int), (d_0.getD ((2 : Int).toNat) 0), (d_0.getD ((4 : Int).toNat) 0), (d_0.getD ((5 : Int).toNat) 0), (0 : Int)] : List Int)] : List (List Int))).bind fun v2 =>
    some v2)
set_option maxRecDepth 20000 in
set_option maxHeartbeats 1600000 in
theorem I_MengerOf_w (N : Nat) (d_0 : List Int) (r : Int) (h : I_MengerOf N d_0 = some r) : PCall Try.prog 17 [.ro false (.ints d_0)] [] (.int r) := by
  unfold I_MengerOf at h
  refine pcall_intro (TT := TT) tt Try.func17 rfl rfl Try.ntmps17 (congrArg Array.toList Try.results17) rfl rfl fun w0 => ?_
  refine vSeq ?_
  refine vRegion ?_
  refine oVal tt rfl rfl rfl rfl rfl trivial ?_
  refine vNil ?_
  change VC _ _ _ _
  iterate 2 refine vSeq ?_
  refine vRegion ?_
  refine oVal tt rfl rfl rfl rfl rfl trivial ?_
  obtain ⟨v1, hc1, h⟩ := bind_inv h
  refine oCall (I_areSquares_w N (6 : Int) d_0 v1 hc1) rfl rfl rfl rfl rfl rfl rfl rfl ⟨rfl, rfl, trivial⟩ ?_
  refine oVal tt rfl rfl rfl rfl rfl trivial ?_
  refine vNil ?_
  change VC _ _ _ _
  refine vCond rfl (fun hb2 => ?_) (fun hb2 => ?_)
  · replace h := cnd_t hb2 h
    refine vSeq ?_
    refine vRegion ?_
    refine oVal tt rfl rfl rfl rfl rfl trivial ?_
    refine vNil ?_
    change VC _ _ _ _
    refine vRet ?_
    change ∃ _, _
    cases h
    exact ⟨[], _, rfl, trivial, rfl, (.eq rfl), rfl⟩
  · replace h := cnd_f hb2 h
    refine vSkip ?_
    change VC _ _ _ _
    refine vSeq ?_
    refine vRegionN 41 [0, 10, 20, 30, 40] [0, 0, 2, 6, 0, 16, 48, 0, 128, 384, 1022, 0, 2048, 6144, 0, 16384, 49152, 0, 131072, 393216, 1046528, 0, 2097152, 6291456, 0, 16777216, 50331648, 0, 134217728, 402653184, 1071644672, 0, 2147483648, 6442450944, 0, 17179869184, 51539607552, 0, 137438953472, 412316860416, 1097364144128, 2199023255551, 4398046511103, 8796093022207] (by kernel_rfl) (by kernel_rfl) (by kernel_rfl) (by kernel_rfl) (by kernel_rfl) rfl (by rfl) ?_
    refine nBuild tt (wNone rfl) rfl rfl rfl rfl rfl rfl rfl rfl rfl rfl rfl rfl ?_
    refine nVal tt rfl (wNone rfl) rfl rfl rfl rfl rfl trivial ?_
    obtain ⟨hg3, h⟩ := grd_inv h
    refine nVal tt rfl (wNone rfl) rfl rfl rfl rfl rfl hg3 ?_
    iterate 2 refine nVal tt rfl (wNone rfl) rfl rfl rfl rfl rfl trivial ?_
    obtain ⟨hg4, h⟩ := grd_inv h
    refine nVal tt rfl (wNone rfl) rfl rfl rfl rfl rfl hg4 ?_
    iterate 2 refine nVal tt rfl (wNone rfl) rfl rfl rfl rfl rfl trivial ?_
    obtain ⟨hg5, h⟩ := grd_inv h
    refine nVal tt rfl (wNone rfl) rfl rfl rfl rfl rfl hg5 ?_
    refine nVal tt rfl (wNone rfl) rfl rfl rfl rfl rfl trivial ?_
    refine nBuild tt (wNone rfl) rfl rfl rfl rfl rfl rfl rfl rfl rfl rfl rfl rfl ?_
    refine nVal tt rfl (wNone rfl) rfl rfl rfl rfl rfl trivial ?_
    refine nVal tt rfl (wNone rfl) rfl rfl rfl rfl rfl hg3 ?_
    iterate 2 refine nVal tt rfl (wNone rfl) rfl rfl rfl rfl rfl trivial ?_
    obtain ⟨hg6, h⟩ := grd_inv h
    refine nVal tt rfl (wNone rfl) rfl rfl rfl rfl rfl hg6 ?_
    iterate 2 refine nVal tt rfl (wNone rfl) rfl rfl rfl rfl rfl trivial ?_
    obtain ⟨hg7, h⟩ := grd_inv h
    refine nVal tt rfl (wNone rfl) rfl rfl rfl rfl rfl hg7 ?_
    refine nVal tt rfl (wNone rfl) rfl rfl rfl rfl rfl trivial ?_
    refine nBuild tt (wNone rfl) rfl rfl rfl rfl rfl rfl rfl rfl rfl rfl rfl rfl ?_
    refine nVal tt rfl (wNone rfl) rfl rfl rfl rfl rfl trivial ?_
    refine nVal tt rfl (wNone rfl) rfl rfl rfl rfl rfl hg4 ?_
    iterate 2 refine nVal tt rfl (wNone rfl) rfl rfl rfl rfl rfl trivial ?_
    refine nVal tt rfl (wNone rfl) rfl rfl rfl rfl rfl hg6 ?_
    iterate 2 refine nVal tt rfl (wNone rfl) rfl rfl rfl rfl rfl trivial ?_
    obtain ⟨hg8, h⟩ := grd_inv h
    refine nVal tt rfl (wNone rfl) rfl rfl rfl rfl rfl hg8 ?_
    refine nVal tt rfl (wNone rfl) rfl rfl rfl rfl rfl trivial ?_
    refine nBuild tt (wNone rfl) rfl rfl rfl rfl rfl rfl rfl rfl rfl rfl rfl rfl ?_
    refine nVal tt rfl (wNone rfl) rfl rfl rfl rfl rfl trivial ?_
    refine nVal tt rfl (wNone rfl) rfl rfl rfl rfl rfl hg5 ?_
    iterate 2 refine nVal tt rfl (wNone rfl) rfl rfl rfl rfl rfl trivial ?_
    refine nVal tt rfl (wNone rfl) rfl rfl rfl rfl rfl hg7 ?_
    iterate 2 refine nVal tt rfl (wNone rfl) rfl rfl rfl rfl rfl trivial ?_
    refine nVal tt rfl (wNone rfl) rfl rfl rfl rfl rfl hg8 ?_
    refine nVal tt rfl (wNone rfl) rfl rfl rfl rfl rfl trivial ?_
    refine nBuild tt (wNone rfl) rfl rfl rfl rfl rfl rfl rfl rfl rfl rfl rfl rfl ?_
    refine nNil ?_
    change VO _ _ _ _ _
    refine oFreeze (t := 6) rfl rfl rfl rfl ?_
    refine oFreeze (t := 16) rfl rfl rfl rfl ?_
    refine oFreeze (t := 26) rfl rfl rfl rfl ?_
    refine oFreeze (t := 36) rfl rfl rfl rfl ?_
    refine oFreeze (t := 46) rfl rfl rfl rfl ?_
    refine oBuild tt rfl rfl rfl rfl rfl rfl rfl rfl rfl rfl rfl ?_
    obtain ⟨v2, hc9, h⟩ := bind_inv h
    refine oCall (I_determinant_w N ([([(0 : Int), (1 : Int), (1 : Int), (1 : Int), (1 : Int)] : List Int), ([(1 : Int), (0 : Int), (d_0.getD ((0 : Int).toNat) 0), (d_0.getD ((1 : Int).toNat) 0), (d_0.getD ((2 : Int).toNat) 0)] : List Int), ([(1 : Int), (d_0.getD ((0 : Int).toNat) 0), (0 : Int), (d_0.getD ((3 : Int).toNat) 0), (d_0.getD ((4 : Int).toNat) 0)] : List Int), ([(1 : Int), (d_0.getD ((1 : Int).toNat) 0), (d_0.getD ((3 : Int).toNat) 0), (0 : Int), (d_0.getD ((5 : Int).toNat) 0)] : List Int), ([(1 : Int), (d_0.getD ((2 : Int).toNat) 0), (d_0.getD ((4 : Int).toNat) 0), (d_0.getD ((5 : Int).toNat) 0), (0 : Int)] : List Int)] : List (List Int)) v2 hc9) rfl rfl rfl rfl rfl rfl rfl rfl ⟨(.inl ⟨rfl, rfl⟩), trivial⟩ ?_
    refine oVal tt rfl rfl rfl rfl rfl trivial ?_
    refine vNil ?_
    change VC _ _ _ _
    refine vRet ?_
    change ∃ _, _
    cases h
    exact ⟨[], _, rfl, trivial, rfl, (.eq rfl), rfl⟩
end Go.Proofs.Ytgindcgphnbnaaa

namespace Go.Proofs.Ytgindcgphnbnaaa
set_option linter.unusedVariables false
set_option linter.unusedSimpArgs false
variable {N : Nat}
/-- a list without its element k -/
def cutL {α : Type} (l : List α) (k : Nat) : List α := l.take k ++ l.drop (k + 1)
theorem cutL_len {α : Type} {l : List α} {k : Nat} (h : k < l.length) : (cutL l k).length + 1 = l.length := by
  simp only [cutL, List.length_append, List.length_take, List.length_drop]; omega
theorem mem_cutL {α : Type} {l : List α} {k : Nat} {x : α} (h : x ∈ cutL l k) : x ∈ l := by
  rcases List.mem_append.1 h with h | h
  · exact List.mem_of_mem_take h
  · exact List.mem_of_mem_drop h
/-- a square matrix with small numbers -/
structure Smt (n : Nat) (m : List (List Int)) : Prop where
  len : m.length = n
  row : ∀ r ∈ m, r.length = n ∧ ∀ x ∈ r, -200 ≤ x ∧ x ≤ 200
def minor (m : List (List Int)) (j : Nat) : List (List Int) := (m.drop 1).map fun r => cutL r j
theorem Smt.minor {n : Nat} {m : List (List Int)} (h : Smt (n + 1) m) {j : Nat} (hj : j < n + 1) : Smt n (minor m j) := by
  refine ⟨by simp [Ytgindcgphnbnaaa.minor, h.len], fun r hr => ?_⟩
  simp only [Ytgindcgphnbnaaa.minor, List.mem_map] at hr
  obtain ⟨r0, h0, rfl⟩ := hr
  obtain ⟨h1, h2⟩ := h.row r0 (List.mem_of_mem_drop h0)
  refine ⟨by have := cutL_len (l := r0) (k := j) (by omega); omega, fun x hx => h2 x (mem_cutL hx)⟩
theorem copyI_s {l : List Int} (h : l.length ≤ 3000000) : I_copyInts N l = some l := by
  unfold I_copyInts
  rw [grd_pos (by omega)]; rfl
theorem getDm {α : Type} {l : List α} {i : Nat} {d : α} (h : i < l.length) : l.getD i d ∈ l := by
  rw [List.getD_eq_getElem?_getD, List.getElem?_eq_getElem h]
  exact List.getElem_mem _
theorem Smt.at {n : Nat} {m : List (List Int)} (h : Smt n m) {i : Nat} (hi : i < n) : (m.getD i []).length = n ∧ ∀ k, k < n → -200 ≤ (m.getD i []).getD k 0 ∧ (m.getD i []).getD k 0 ≤ 200 := by
  have hl := h.len
  have hm : m.getD i [] ∈ m := getDm (by omega)
  obtain ⟨h1, h2⟩ := h.row _ hm
  exact ⟨h1, fun k hk => h2 _ (getDm (by omega))⟩
theorem getD_drop1 (m : List (List Int)) (i : Nat) : (m.drop 1).getD i [] = m.getD (i + 1) [] := by
  simp [List.getD_eq_getElem?_getD, Nat.add_comm]
theorem minor_take {n : Nat} {m : List (List Int)} (h : Smt (n + 1) m) (j : Nat) {i : Nat} (hi : i < n) : (minor m j).take (i + 1) = (minor m j).take i ++ [cutL (m.getD (i + 1) []) j] := by
  have hl : (minor m j).length = n := by simp [minor, h.len]
  have := h.len
  rw [List.take_add_one, List.getElem?_eq_getElem (by omega)]
  congr 1
  simp [minor, List.getD_eq_getElem?_getD, List.getElem?_eq_getElem (show i + 1 < m.length by omega), Nat.add_comm 1 i]
theorem detI2_s {n : Nat} {m : List (List Int)} (h : Smt (n + 1) m) (hn : n ≤ 10) {j : Nat} (hj : j < n + 1) {k : List (List Int) → Option Int} : ∀ (fuel i : Nat), i ≤ n → n < fuel + i →
    I_determinant_l2 N m (j : Int) k fuel ((minor m j).take i, (i : Int)) = k (minor m j) := by
  have hlen := h.len
  have hd : (m.take m.length).drop ((1 : Int)).toNat = m.drop 1 := by rw [List.take_length]; rfl
  have hdl : (m.drop 1).length = n := by rw [List.length_drop]; omega
  have hml : (minor m j).length = n := by simp [minor, hlen]
  intro fuel
  induction fuel with
  | zero => intro i h1 h2; omega
  | succ fuel ih =>
    intro i h1 h2
    rw [I_determinant_l2]
    simp only [hd]
    by_cases hi : i < n
    · obtain ⟨r1, r2⟩ := h.at (i := i + 1) (by omega)
      have e1 : ((i : Int)).toNat = i := by omega
      have e2 : ((j : Int)).toNat = j := by omega
      have e3 : ((j : Int) + 1).toNat = j + 1 := by omega
      rw [cnd_dt (by omega), grd_pos (by omega), e1, getD_drop1, e2, e3]
      have hc1 : ((m.getD (i + 1) []).take j).length = j := by rw [List.length_take]; omega
      rw [grd_pos (by omega), List.drop_zero, copyI_s (by omega), Option.bind_some, grd_R (by omega) (by omega), grd_pos (by omega), List.take_length]
      have hc2 : ((m.getD (i + 1) []).drop (j + 1)).length = n - j := by rw [List.length_drop]; omega
      have hc3 : ((minor m j).take i).length = i := by rw [List.length_take]; omega
      rw [grd_pos (by omega), grd_pos (by omega), grd_R (by omega) (by omega), succ_cast]
      have := ih (i + 1) (by omega) (by omega)
      rw [minor_take h j hi] at this
      exact this
    · obtain rfl : i = n := by omega
      rw [cnd_df (by omega), List.take_of_length_le (by omega)]
/-- the first k of a row, without number j -/
theorem cut_take {r : List Int} {j k : Nat} (hk : k < r.length) : cutL (r.take (k + 1)) j = if k = j then cutL (r.take k) j else cutL (r.take k) j ++ [r.getD k 0] := by
  have e : r.take (k + 1) = r.take k ++ [r.getD k 0] := by
    rw [List.take_add_one, List.getElem?_eq_getElem hk, List.getD_eq_getElem?_getD, List.getElem?_eq_getElem hk]; rfl
  have hl : (r.take k).length = k := by rw [List.length_take]; omega
  rw [e]
  generalize r.take k = A at hl ⊢
  generalize r.getD k 0 = x
  unfold cutL
  by_cases h1 : k < j
  · have t1 : (A ++ [x]).take j = A ++ [x] := List.take_of_length_le (by simp; omega)
    have t2 : (A ++ [x]).drop (j + 1) = [] := List.drop_of_length_le (by simp; omega)
    have t3 : A.take j = A := List.take_of_length_le (by omega)
    have t4 : A.drop (j + 1) = [] := List.drop_of_length_le (by omega)
    rw [if_neg (by omega), t1, t2, t3, t4]; simp
  · by_cases h2 : k = j
    · subst h2
      have t1 : (A ++ [x]).take k = A := by rw [List.take_append_of_le_length (by omega), List.take_of_length_le (by omega)]
      have t2 : (A ++ [x]).drop (k + 1) = [] := List.drop_of_length_le (by simp; omega)
      have t3 : A.take k = A := List.take_of_length_le (by omega)
      have t4 : A.drop (k + 1) = [] := List.drop_of_length_le (by omega)
      rw [if_pos rfl, t1, t2, t3, t4]
    · rw [if_neg h2, List.take_append_of_le_length (by omega), List.drop_append_of_le_length (by omega), List.append_assoc]
theorem detS3_s {n : Nat} {m : List (List Int)} (h : Smt n m) (hn : n ≤ 10) {j i : Nat} (hi : i < n) {k : List Int → Option Int} : ∀ (fuel c : Nat), c ≤ n → n < fuel + c →
    S_l22Det_l3 N m (j : Int) (i : Int) k fuel (cutL ((m.getD i []).take c) j, (c : Int)) = k (cutL (m.getD i []) j) := by
  have hlen := h.len
  obtain ⟨r1, r2⟩ := h.at hi
  intro fuel
  induction fuel with
  | zero => intro c h1 h2; omega
  | succ fuel ih =>
    intro c h1 h2
    rw [S_l22Det_l3]
    have e1 : ((i : Int)).toNat = i := by omega
    by_cases hc : c < n
    · have e2 : ((c : Int)).toNat = c := by omega
      have hcl : (cutL ((m.getD i []).take c) j).length ≤ c := by
        simp only [cutL, List.length_append, List.length_take, List.length_drop]; omega
      have hr := ih (c + 1) (by omega) (by omega)
      rw [cut_take (by omega)] at hr
      rw [cnd_dt (by omega), e1, e2]
      by_cases hj : c = j
      · rw [cnd_nef (by omega), grd_R (by omega) (by omega), succ_cast]
        rw [if_pos hj] at hr
        exact hr
      · rw [cnd_net (by omega), grd_pos (by omega), grd_pos (by omega), grd_pos (by omega), grd_R (by omega) (by omega), succ_cast]
        rw [if_neg hj] at hr
        exact hr
    · obtain rfl : c = n := by omega
      rw [cnd_df (by omega), List.take_of_length_le (by omega)]
theorem detS2_s {n : Nat} {m : List (List Int)} (h : Smt (n + 1) m) (hN : 100 ≤ N) (hn : n ≤ 9) {j : Nat} (hj : j < n + 1) {k : List (List Int) → Option Int} : ∀ (fuel i : Nat), i ≤ n → n < fuel + i →
    S_l22Det_l2 N m (j : Int) k fuel ((minor m j).take i, ((i + 1 : Nat) : Int)) = k (minor m j) := by
  have hlen := h.len
  have hml : (minor m j).length = n := by simp [minor, hlen]
  intro fuel
  induction fuel with
  | zero => intro i h1 h2; omega
  | succ fuel ih =>
    intro i h1 h2
    rw [S_l22Det_l2]
    by_cases hi : i < n
    · rw [cnd_dt (by omega)]
      have hc3 : ((minor m j).take i).length = i := by rw [List.length_take]; omega
      have h3 := detS3_s (N := N) h (by omega) (j := j) (i := i + 1) (by omega) (k := fun (l333 : List Int) =>
            grd (((minor m j).take i).length + 1 ≤ 4294967296) <|
            grd (Rg64 (((i + 1 : Nat) : Int) + (1 : Int))) <|
            S_l22Det_l2 N m (j : Int) k fuel (((minor m j).take i ++ ([l333] : List (List Int))), (((i + 1 : Nat) : Int) + (1 : Int)))) N 0 (by omega) (by omega)
      have e0 : cutL ((m.getD (i + 1) []).take 0) j = [] := by simp [cutL]
      rw [e0] at h3
      refine h3.trans ?_
      rw [grd_pos (by omega), grd_R (by omega) (by omega), succ_cast]
      have := ih (i + 1) (by omega) (by omega)
      rw [minor_take h j hi] at this
      exact this
    · obtain rfl : i = n := by omega
      rw [cnd_df (by omega), List.take_of_length_le (by omega)]
theorem mul_bd2 {a b A B : Int} (h1 : -A ≤ a) (h2 : a ≤ A) (h3 : -B ≤ b) (h4 : b ≤ B) : -(A * B) ≤ a * b ∧ a * b ≤ A * B := by
  have hA : 0 ≤ A := by omega
  have hB : 0 ≤ B := by omega
  have k1 : 0 ≤ (A - a) * (B - b) := Int.mul_nonneg (by omega) (by omega)
  have k2 : 0 ≤ (A + a) * (B + b) := Int.mul_nonneg (by omega) (by omega)
  have k3 : 0 ≤ (A - a) * (B + b) := Int.mul_nonneg (by omega) (by omega)
  have k4 : 0 ≤ (A + a) * (B - b) := Int.mul_nonneg (by omega) (by omega)
  have e1 : (A - a) * (B - b) = A * B - A * b - a * B + a * b := by grind
  have e2 : (A + a) * (B + b) = A * B + A * b + a * B + a * b := by grind
  have e3 : (A - a) * (B + b) = A * B + A * b - a * B - a * b := by grind
  have e4 : (A + a) * (B - b) = A * B - A * b + a * B - a * b := by grind
  constructor <;> omega
/-- the bound of a determinant -/
def dBd : Nat → Int
  | 0 => 1
  | n + 1 => (n + 1 : Nat) * (200 * dBd n)
theorem dBd_pos : ∀ n, 0 ≤ dBd n
  | 0 => by simp [dBd]
  | n + 1 => Int.mul_nonneg (by omega) (Int.mul_nonneg (by omega) (dBd_pos n))
theorem det1_s {n : Nat} {m : List (List Int)} (h : Smt (n + 1) m) (hN : 100 ≤ N) (hn : n ≤ 4) {B : Int} (hB0 : 0 ≤ B) (hB : B ≤ 40000000000) {rI rS : List (List Int) → Option Int}
    (hrec : ∀ m', Smt n m' → ∃ v : Int, rI m' = some v ∧ rS m' = some v ∧ -B ≤ v ∧ v ≤ B) :
    ∀ (fuel i : Nat) (d : Int), i ≤ n + 1 → n + 1 < fuel + i → -((i : Nat) * (200 * B)) ≤ d → d ≤ (i : Nat) * (200 * B) →
    ∃ v : Int, I_determinant_l1 N m rI (fun d => some d) fuel (d, (i : Int)) = some v ∧ S_l22Det_l1 N m rS (fun d => some d) fuel (d, (i : Int)) = some v ∧ -(((n + 1 : Nat)) * (200 * B)) ≤ v ∧ v ≤ ((n + 1 : Nat)) * (200 * B) := by
  have hlen := h.len
  obtain ⟨r1, r2⟩ := h.at (i := 0) (by omega)
  have z : ((0 : Int)).toNat = 0 := rfl
  intro fuel
  induction fuel with
  | zero => intro i d h1 h2; omega
  | succ fuel ih =>
    intro i d h1 h2 b1 b2
    rw [I_determinant_l1, S_l22Det_l1, z]
    have hi5 : (i : Int) ≤ 5 := by omega
    have hP : (0 : Int) ≤ 200 * B := by omega
    have hiP : (i : Nat) * (200 * B) ≤ 5 * (200 * B) := Int.mul_le_mul_of_nonneg_right hi5 hP
    by_cases hi : i < n + 1
    · have e1 : ((i : Int)).toNat = i := by omega
      obtain ⟨x1, x2⟩ := r2 i hi
      have hsucc : (((i + 1 : Nat)) : Int) * (200 * B) = (i : Nat) * (200 * B) + 200 * B := by
        have : (((i + 1 : Nat)) : Int) = (i : Int) + 1 := by omega
        rw [this, Int.add_mul, Int.one_mul]
      have gI : 0 ≤ (i : Int) ∧ (i : Int) < ((m.getD 0 []).length : Int) := by omega
      have gS : 0 ≤ (0 : Int) ∧ (0 : Int) < (m.length : Int) := by omega
      rw [cnd_dt (by omega), cnd_dt (by omega), grd_pos gI, grd_pos gS, grd_pos gI, e1]
      by_cases hx : (m.getD 0 []).getD i 0 = 0
      · rw [cnd_eqt hx, cnd_eqt hx, grd_R (by omega) (by omega), grd_R (by omega) (by omega), succ_cast]
        exact ih (i + 1) d (by omega) (by omega) (by omega) (by omega)
      · rw [cnd_eqf hx, cnd_eqf hx, grd_pos (by omega)]
        obtain ⟨v, v1, v2, v3, v4⟩ := hrec _ (h.minor hi)
        have hmb := mul_bd2 x1 x2 v3 v4
        have hneg : (-((m.getD 0 []).getD i 0)) * v = -(((m.getD 0 []).getD i 0) * v) := by rw [Int.neg_mul]
        have htake : (minor m i).take 0 = [] := rfl
        have hI := detI2_s (N := N) h (by omega) hi (k := (fun (l93 : List (List Int)) =>
              grd ((2 : Int) ≠ 0) <|
              cnd ((Int.tmod (i : Int) (2 : Int)) == (1 : Int)) (
                grd (Rg64 (-((m.getD 0 []).getD i 0))) <|
                (rI l93).bind fun v94 =>
                grd (Rg64 ((-((m.getD 0 []).getD i 0)) * v94)) <|
                grd (Rg64 (d + ((-((m.getD 0 []).getD i 0)) * v94))) <|
                grd (Rg64 ((i : Int) + (1 : Int))) <|
                I_determinant_l1 N m rI (fun d => some d) fuel ((d + ((-((m.getD 0 []).getD i 0)) * v94)), ((i : Int) + (1 : Int)))) (
                (rI l93).bind fun v95 =>
                grd (Rg64 (((m.getD 0 []).getD i 0) * v95)) <|
                grd (Rg64 (d + (((m.getD 0 []).getD i 0) * v95))) <|
                grd (Rg64 ((i : Int) + (1 : Int))) <|
                I_determinant_l1 N m rI (fun d => some d) fuel ((d + (((m.getD 0 []).getD i 0) * v95)), ((i : Int) + (1 : Int)))))) N 0 (by omega) (by omega)
        have hS := detS2_s (N := N) h hN (by omega) hi (k := (fun (l308 : List (List Int)) =>
              (rS l308).bind fun v309 =>
              grd (Rg64 (((m.getD 0 []).getD i 0) * v309)) <|
              grd ((2 : Int) ≠ 0) <|
              cnd ((Int.tmod (i : Int) (2 : Int)) == (1 : Int)) (
                grd (Rg64 (-(((m.getD 0 []).getD i 0) * v309))) <|
                grd (Rg64 (d + (-(((m.getD 0 []).getD i 0) * v309)))) <|
                grd (Rg64 ((i : Int) + (1 : Int))) <|
                S_l22Det_l1 N m rS (fun d => some d) fuel ((d + (-(((m.getD 0 []).getD i 0) * v309))), ((i : Int) + (1 : Int)))) (
                grd (Rg64 (d + (((m.getD 0 []).getD i 0) * v309))) <|
                grd (Rg64 ((i : Int) + (1 : Int))) <|
                S_l22Det_l1 N m rS (fun d => some d) fuel ((d + (((m.getD 0 []).getD i 0) * v309)), ((i : Int) + (1 : Int)))))) N 0 (by omega) (by omega)
        rw [htake] at hI hS
        obtain ⟨y, hy⟩ : ∃ y, ((m.getD 0 []).getD i 0) * v = y := ⟨_, rfl⟩
        rw [hy] at hmb hneg
        rw [grd_pos (by decide)] at hI
        rw [v2, Option.bind_some, hy, grd_R (by omega) (by omega), grd_pos (by decide)] at hS
        cases hodd : ((Int.tmod (i : Int) (2 : Int)) == (1 : Int)) with
        | true =>
          rw [hodd, cnd_true, grd_R (by omega) (by omega), v1, Option.bind_some, hneg, grd_R (by omega) (by omega), grd_R (by omega) (by omega), grd_R (by omega) (by omega), succ_cast] at hI
          rw [hodd, cnd_true, grd_R (by omega) (by omega), grd_R (by omega) (by omega), grd_R (by omega) (by omega), succ_cast] at hS
          obtain ⟨u, u1, u2, u3⟩ := ih (i + 1) (d + -y) (by omega) (by omega) (by omega) (by omega)
          exact ⟨u, hI.trans u1, hS.trans u2, u3⟩
        | false =>
          rw [hodd, cnd_false, v1, Option.bind_some, hy, grd_R (by omega) (by omega), grd_R (by omega) (by omega), grd_R (by omega) (by omega), succ_cast] at hI
          rw [hodd, cnd_false, grd_R (by omega) (by omega), grd_R (by omega) (by omega), succ_cast] at hS
          obtain ⟨u, u1, u2, u3⟩ := ih (i + 1) (d + y) (by omega) (by omega) (by omega) (by omega)
          exact ⟨u, hI.trans u1, hS.trans u2, u3⟩
    · obtain rfl : i = n + 1 := by omega
      rw [cnd_df (by omega), cnd_df (by omega)]
      exact ⟨d, rfl, rfl, b1, b2⟩
end Go.Proofs.Ytgindcgphnbnaaa

namespace Go.Proofs.Ytgindcgphnbnaaa
open Go.RowKit
set_option linter.unusedVariables false
set_option linter.unusedSimpArgs false
def S_IsPlanar (N : Nat) (d_0 : List Int) : Option (Bool) :=
  cnd ((d_0.length : Int) == (6 : Int)) (
    (S_l22Fine N d_0).bind fun v1 =>
    cnd v1 (
      (S_MengerOf N d_0).bind fun v2 =>
      cnd (v2 == (0 : Int)) (
        grd (0 ≤ (0 : Int) ∧ (0 : Int) < (d_0.length : Int)) <|
        grd (0 ≤ (1 : Int) ∧ (1 : Int) < (d_0.length : Int)) <|
        grd (0 ≤ (3 : Int) ∧ (3 : Int) < (d_0.length : Int)) <|
        (S_IsTriangle N (d_0.getD ((0 : Int).toNat) 0) (d_0.getD ((1 : Int).toNat) 0) (d_0.getD ((3 : Int).toNat) 0)).bind fun v3 =>
        cnd v3 (
          grd (0 ≤ (2 : Int) ∧ (2 : Int) < (d_0.length : Int)) <|
          grd (0 ≤ (4 : Int) ∧ (4 : Int) < (d_0.length : Int)) <|
          (S_IsTriangle N (d_0.getD ((0 : Int).toNat) 0) (d_0.getD ((2 : Int).toNat) 0) (d_0.getD ((4 : Int).toNat) 0)).bind fun v4 =>
          cnd v4 (
            grd (0 ≤ (5 : Int) ∧ (5 : Int) < (d_0.length : Int)) <|
            (S_IsTriangle N (d_0.getD ((1 : Int).toNat) 0) (d_0.getD ((2 : Int).toNat) 0) (d_0.getD ((5 : Int).toNat) 0)).bind fun v5 =>
            cnd v5 (
              (S_IsTriangle N (d_0.getD ((3 : Int).toNat) 0) (d_0.getD ((4 : Int).toNat) 0) (d_0.getD ((5 : Int).toNat) 0)).bind fun v6 =>
              some v6) (
              some false)) (
            some false)) (
          some false)) (
        some false)) (
      some false)) (
    some false)
set_option maxRecDepth 20000 in
set_option maxHeartbeats 1600000 in
theorem S_IsPlanar_w (N : Nat) (d_0 : List Int) (r : Bool) (h : S_IsPlanar N d_0 = some r) : PCall Try.prog 19 [.ro false (.ints d_0)] [] (.bool r) := by
  unfold S_IsPlanar at h
  refine pcall_intro (TT := TT) tt Try.func19 rfl rfl Try.ntmps19 (congrArg Array.toList Try.results19) rfl rfl fun w0 => ?_
  refine vSeq ?_
  refine vRegion ?_
  refine oVal tt rfl rfl rfl rfl rfl trivial ?_
  refine vNil ?_
  change VC _ _ _ _
  refine vSeq ?_
  refine vRegionD (by kernel_rfl) (by kernel_rfl) ?_
  iterate 4 refine cVal tt rfl (wNone rfl) rfl rfl rfl trivial ?_
  refine cSplit rfl rfl rfl (fun hb1 => ?_) (fun hb1 => ?_)
  · replace h := cnd_t hb1 h
    refine cVal tt rfl (wSome rfl rfl rfl rfl hb1) rfl rfl rfl trivial ?_
    obtain ⟨v1, hc2, h⟩ := bind_inv h
    refine cCall (S_l22Fine_w N d_0 v1 hc2) rfl (wSome rfl rfl rfl rfl hb1) rfl rfl rfl rfl rfl rfl ⟨rfl, trivial⟩ ?_
    refine cPickT rfl (wNone rfl) rfl rfl rfl hb1 rfl ?_
    refine cVal tt rfl (wNone rfl) rfl rfl rfl trivial ?_
    refine cSplit rfl rfl rfl (fun hb3 => ?_) (fun hb3 => ?_)
    · replace h := cnd_t hb3 h
      refine cVal tt rfl (wSome rfl rfl rfl rfl hb3) rfl rfl rfl trivial ?_
      obtain ⟨v2, hc4, h⟩ := bind_inv h
      refine cCall (S_MengerOf_w N d_0 v2 hc4) rfl (wSome rfl rfl rfl rfl hb3) rfl rfl rfl rfl rfl rfl ⟨rfl, trivial⟩ ?_
      refine cVal tt rfl (wSome rfl rfl rfl rfl hb3) rfl rfl rfl trivial ?_
      refine cPickT rfl (wNone rfl) rfl rfl rfl hb3 rfl ?_
      refine cVal tt rfl (wNone rfl) rfl rfl rfl trivial ?_
      refine cSplit rfl rfl rfl (fun hb5 => ?_) (fun hb5 => ?_)
      · replace h := cnd_t hb5 h
        refine cVal tt rfl (wSome rfl rfl rfl rfl hb5) rfl rfl rfl trivial ?_
        obtain ⟨hg6, h⟩ := grd_inv h
        refine cVal tt rfl (wSome rfl rfl rfl rfl hb5) rfl rfl rfl hg6 ?_
        iterate 2 refine cVal tt rfl (wSome rfl rfl rfl rfl hb5) rfl rfl rfl trivial ?_
        obtain ⟨hg7, h⟩ := grd_inv h
        refine cVal tt rfl (wSome rfl rfl rfl rfl hb5) rfl rfl rfl hg7 ?_
        iterate 2 refine cVal tt rfl (wSome rfl rfl rfl rfl hb5) rfl rfl rfl trivial ?_
        obtain ⟨hg8, h⟩ := grd_inv h
        refine cVal tt rfl (wSome rfl rfl rfl rfl hb5) rfl rfl rfl hg8 ?_
        refine cVal tt rfl (wSome rfl rfl rfl rfl hb5) rfl rfl rfl trivial ?_
        obtain ⟨v3, hc9, h⟩ := bind_inv h
        refine cCall (S_IsTriangle_w N (d_0.getD ((0 : Int).toNat) 0) (d_0.getD ((1 : Int).toNat) 0) (d_0.getD ((3 : Int).toNat) 0) v3 hc9) rfl (wSome rfl rfl rfl rfl hb5) rfl rfl rfl rfl rfl rfl ⟨rfl, rfl, rfl, trivial⟩ ?_
        refine cPickT rfl (wNone rfl) rfl rfl rfl hb5 rfl ?_
        refine cVal tt rfl (wNone rfl) rfl rfl rfl trivial ?_
        refine cSplit rfl rfl rfl (fun hb10 => ?_) (fun hb10 => ?_)
        · replace h := cnd_t hb10 h
          refine cVal tt rfl (wSome rfl rfl rfl rfl hb10) rfl rfl rfl trivial ?_
          refine cVal tt rfl (wSome rfl rfl rfl rfl hb10) rfl rfl rfl hg6 ?_
          iterate 2 refine cVal tt rfl (wSome rfl rfl rfl rfl hb10) rfl rfl rfl trivial ?_
          obtain ⟨hg11, h⟩ := grd_inv h
          refine cVal tt rfl (wSome rfl rfl rfl rfl hb10) rfl rfl rfl hg11 ?_
          iterate 2 refine cVal tt rfl (wSome rfl rfl rfl rfl hb10) rfl rfl rfl trivial ?_
          obtain ⟨hg12, h⟩ := grd_inv h
          refine cVal tt rfl (wSome rfl rfl rfl rfl hb10) rfl rfl rfl hg12 ?_
          refine cVal tt rfl (wSome rfl rfl rfl rfl hb10) rfl rfl rfl trivial ?_
          obtain ⟨v4, hc13, h⟩ := bind_inv h
          refine cCall (S_IsTriangle_w N (d_0.getD ((0 : Int).toNat) 0) (d_0.getD ((2 : Int).toNat) 0) (d_0.getD ((4 : Int).toNat) 0) v4 hc13) rfl (wSome rfl rfl rfl rfl hb10) rfl rfl rfl rfl rfl rfl ⟨rfl, rfl, rfl, trivial⟩ ?_
          refine cPickT rfl (wNone rfl) rfl rfl rfl hb10 rfl ?_
          refine cVal tt rfl (wNone rfl) rfl rfl rfl trivial ?_
          refine cSplit rfl rfl rfl (fun hb14 => ?_) (fun hb14 => ?_)
          · replace h := cnd_t hb14 h
            refine cVal tt rfl (wSome rfl rfl rfl rfl hb14) rfl rfl rfl trivial ?_
            refine cVal tt rfl (wSome rfl rfl rfl rfl hb14) rfl rfl rfl hg7 ?_
            iterate 2 refine cVal tt rfl (wSome rfl rfl rfl rfl hb14) rfl rfl rfl trivial ?_
            refine cVal tt rfl (wSome rfl rfl rfl rfl hb14) rfl rfl rfl hg11 ?_
            iterate 2 refine cVal tt rfl (wSome rfl rfl rfl rfl hb14) rfl rfl rfl trivial ?_
            obtain ⟨hg15, h⟩ := grd_inv h
            refine cVal tt rfl (wSome rfl rfl rfl rfl hb14) rfl rfl rfl hg15 ?_
            refine cVal tt rfl (wSome rfl rfl rfl rfl hb14) rfl rfl rfl trivial ?_
            obtain ⟨v5, hc16, h⟩ := bind_inv h
            refine cCall (S_IsTriangle_w N (d_0.getD ((1 : Int).toNat) 0) (d_0.getD ((2 : Int).toNat) 0) (d_0.getD ((5 : Int).toNat) 0) v5 hc16) rfl (wSome rfl rfl rfl rfl hb14) rfl rfl rfl rfl rfl rfl ⟨rfl, rfl, rfl, trivial⟩ ?_
            refine cPickT rfl (wNone rfl) rfl rfl rfl hb14 rfl ?_
            refine cVal tt rfl (wNone rfl) rfl rfl rfl trivial ?_
            refine cSplit rfl rfl rfl (fun hb17 => ?_) (fun hb17 => ?_)
            · replace h := cnd_t hb17 h
              refine cVal tt rfl (wSome rfl rfl rfl rfl hb17) rfl rfl rfl trivial ?_
              refine cVal tt rfl (wSome rfl rfl rfl rfl hb17) rfl rfl rfl hg8 ?_
              iterate 2 refine cVal tt rfl (wSome rfl rfl rfl rfl hb17) rfl rfl rfl trivial ?_
              refine cVal tt rfl (wSome rfl rfl rfl rfl hb17) rfl rfl rfl hg12 ?_
              iterate 2 refine cVal tt rfl (wSome rfl rfl rfl rfl hb17) rfl rfl rfl trivial ?_
              refine cVal tt rfl (wSome rfl rfl rfl rfl hb17) rfl rfl rfl hg15 ?_
              refine cVal tt rfl (wSome rfl rfl rfl rfl hb17) rfl rfl rfl trivial ?_
              obtain ⟨v6, hc18, h⟩ := bind_inv h
              refine cCall (S_IsTriangle_w N (d_0.getD ((3 : Int).toNat) 0) (d_0.getD ((4 : Int).toNat) 0) (d_0.getD ((5 : Int).toNat) 0) v6 hc18) rfl (wSome rfl rfl rfl rfl hb17) rfl rfl rfl rfl rfl rfl ⟨rfl, rfl, rfl, trivial⟩ ?_
              refine cPickT rfl (wNone rfl) rfl rfl rfl hb17 rfl ?_
              refine cVal tt rfl (wNone rfl) rfl rfl rfl trivial ?_
              refine cNil ?_
              change VC _ _ _ _
              refine vRet ?_
              change ∃ _, _
              cases h
              exact ⟨[], _, rfl, trivial, rfl, (.eq rfl), rfl⟩
            · replace h := cnd_f hb17 h
              iterate 10 refine cNoT rfl rfl rfl rfl hb17 rfl rfl ?_
              refine cPickF rfl (wNone rfl) rfl rfl rfl hb17 rfl ?_
              refine cVal tt rfl (wNone rfl) rfl rfl rfl trivial ?_
              refine cNil ?_
              change VC _ _ _ _
              refine vRet ?_
              change ∃ _, _
              cases h
              exact ⟨[], _, rfl, trivial, rfl, (.eq rfl), rfl⟩
          · replace h := cnd_f hb14 h
            iterate 10 refine cNoT rfl rfl rfl rfl hb14 rfl rfl ?_
            refine cPickF rfl (wNone rfl) rfl rfl rfl hb14 rfl ?_
            refine cVal tt rfl (wNone rfl) rfl rfl rfl trivial ?_
            iterate 10 refine cNoT rfl rfl rfl rfl rfl rfl rfl ?_
            refine cPickF rfl (wNone rfl) rfl rfl rfl rfl rfl ?_
            refine cVal tt rfl (wNone rfl) rfl rfl rfl trivial ?_
            refine cNil ?_
            change VC _ _ _ _
            refine vRet ?_
            change ∃ _, _
            cases h
            exact ⟨[], _, rfl, trivial, rfl, (.eq rfl), rfl⟩
        · replace h := cnd_f hb10 h
          iterate 10 refine cNoT rfl rfl rfl rfl hb10 rfl rfl ?_
          refine cPickF rfl (wNone rfl) rfl rfl rfl hb10 rfl ?_
          refine cVal tt rfl (wNone rfl) rfl rfl rfl trivial ?_
          iterate 10 refine cNoT rfl rfl rfl rfl rfl rfl rfl ?_
          refine cPickF rfl (wNone rfl) rfl rfl rfl rfl rfl ?_
          refine cVal tt rfl (wNone rfl) rfl rfl rfl trivial ?_
          iterate 10 refine cNoT rfl rfl rfl rfl rfl rfl rfl ?_
          refine cPickF rfl (wNone rfl) rfl rfl rfl rfl rfl ?_
          refine cVal tt rfl (wNone rfl) rfl rfl rfl trivial ?_
          refine cNil ?_
          change VC _ _ _ _
          refine vRet ?_
          change ∃ _, _
          cases h
          exact ⟨[], _, rfl, trivial, rfl, (.eq rfl), rfl⟩
      · replace h := cnd_f hb5 h
        iterate 10 refine cNoT rfl rfl rfl rfl hb5 rfl rfl ?_
        refine cPickF rfl (wNone rfl) rfl rfl rfl hb5 rfl ?_
        refine cVal tt rfl (wNone rfl) rfl rfl rfl trivial ?_
        iterate 10 refine cNoT rfl rfl rfl rfl rfl rfl rfl ?_
        refine cPickF rfl (wNone rfl) rfl rfl rfl rfl rfl ?_
        refine cVal tt rfl (wNone rfl) rfl rfl rfl trivial ?_
        iterate 10 refine cNoT rfl rfl rfl rfl rfl rfl rfl ?_
        refine cPickF rfl (wNone rfl) rfl rfl rfl rfl rfl ?_
        refine cVal tt rfl (wNone rfl) rfl rfl rfl trivial ?_
        iterate 10 refine cNoT rfl rfl rfl rfl rfl rfl rfl ?_
        refine cPickF rfl (wNone rfl) rfl rfl rfl rfl rfl ?_
        refine cVal tt rfl (wNone rfl) rfl rfl rfl trivial ?_
        refine cNil ?_
        change VC _ _ _ _
        refine vRet ?_
        change ∃ _, _
        cases h
        exact ⟨[], _, rfl, trivial, rfl, (.eq rfl), rfl⟩
    · replace h := cnd_f hb3 h
      iterate 3 refine cNoT rfl rfl rfl rfl hb3 rfl rfl ?_
      refine cPickF rfl (wNone rfl) rfl rfl rfl hb3 rfl ?_
      refine cVal tt rfl (wNone rfl) rfl rfl rfl trivial ?_
      iterate 10 refine cNoT rfl rfl rfl rfl rfl rfl rfl ?_
      refine cPickF rfl (wNone rfl) rfl rfl rfl rfl rfl ?_
      refine cVal tt rfl (wNone rfl) rfl rfl rfl trivial ?_
      iterate 10 refine cNoT rfl rfl rfl rfl rfl rfl rfl ?_
      refine cPickF rfl (wNone rfl) rfl rfl rfl rfl rfl ?_
      refine cVal tt rfl (wNone rfl) rfl rfl rfl trivial ?_
      iterate 10 refine cNoT rfl rfl rfl rfl rfl rfl rfl ?_
      refine cPickF rfl (wNone rfl) rfl rfl rfl rfl rfl ?_
      refine cVal tt rfl (wNone rfl) rfl rfl rfl trivial ?_
      iterate 10 refine cNoT rfl rfl rfl rfl rfl rfl rfl ?_
      refine cPickF rfl (wNone rfl) rfl rfl rfl rfl rfl ?_
      refine cVal tt rfl (wNone rfl) rfl rfl rfl trivial ?_
      refine cNil ?_
      change VC _ _ _ _
      refine vRet ?_
      change ∃ _, _
      cases h
      exact ⟨[], _, rfl, trivial, rfl, (.eq rfl), rfl⟩
  · replace h := cnd_f hb1 h
    iterate 2 refine cNoT rfl rfl rfl rfl hb1 rfl rfl ?_
    refine cPickF rfl (wNone rfl) rfl rfl rfl hb1 rfl ?_
    refine cVal tt rfl (wNone rfl) rfl rfl rfl trivial ?_
    iterate 3 refine cNoT rfl rfl rfl rfl rfl rfl rfl ?_
    refine cPickF rfl (wNone rfl) rfl rfl rfl rfl rfl ?_
    refine cVal tt rfl (wNone rfl) rfl rfl rfl trivial ?_
    iterate 10 refine cNoT rfl rfl rfl rfl rfl rfl rfl ?_
    refine cPickF rfl (wNone rfl) rfl rfl rfl rfl rfl ?_
    refine cVal tt rfl (wNone rfl) rfl rfl rfl trivial ?_
    iterate 10 refine cNoT rfl rfl rfl rfl rfl rfl rfl ?_
    refine cPickF rfl (wNone rfl) rfl rfl rfl rfl rfl ?_
    refine cVal tt rfl (wNone rfl) rfl rfl rfl trivial ?_
    iterate 10 refine cNoT rfl rfl rfl rfl rfl rfl rfl ?_
    refine cPickF rfl (wNone rfl) rfl rfl rfl rfl rfl ?_
    refine cVal tt rfl (wNone rfl) rfl rfl rfl trivial ?_
    iterate 10 refine cNoT rfl rfl rfl rfl rfl rfl rfl ?_
    refine cPickF rfl (wNone rfl) rfl rfl rfl rfl rfl ?_
    refine cVal tt rfl (wNone rfl) rfl rfl rfl trivial ?_
    refine cNil ?_
    change VC _ _ _ _
    refine vRet ?_
    change ∃ _, _
    cases h
    exact ⟨[], _, rfl, trivial, rfl, (.eq rfl), rfl⟩
def I_IsPlanar (N : Nat) (d_0 : List Int) : Option (Bool) :=
  (I_areSquares N (6 : Int) d_0).bind fun v1 =>
  cnd v1 (
    (I_MengerOf N d_0).bind fun v2 =>
    cnd (v2 == (0 : Int)) (
      grd (0 ≤ (0 : Int) ∧ (0 : Int) < (d_0.length : Int)) <|
      grd (0 ≤ (1 : Int) ∧ (1 : Int) < (d_0.length : Int)) <|
      grd (0 ≤ (3 : Int) ∧ (3 : Int) < (d_0.length : Int)) <|
      (I_IsTriangle N (d_0.getD ((0 : Int).toNat) 0) (d_0.getD ((1 : Int).toNat) 0) (d_0.getD ((3 : Int).toNat) 0)).bind fun v3 =>
      cnd v3 (
        grd (0 ≤ (2 : Int) ∧ (2 : Int) < (d_0.length : Int)) <|
        grd (0 ≤ (4 : Int) ∧ (4 : Int) < (d_0.length : Int)) <|
        (I_IsTriangle N (d_0.getD ((0 : Int).toNat) 0) (d_0.getD ((2 : Int).toNat) 0) (d_0.getD ((4 : Int).toNat) 0)).bind fun v4 =>
        cnd v4 (
          grd (0 ≤ (5 : Int) ∧ (5 : Int) < (d_0.length : Int)) <|
          (I_IsTriangle N (d_0.getD ((1 : Int).toNat) 0) (d_0.getD ((2 : Int).toNat) 0) (d_0.getD ((5 : Int).toNat) 0)).bind fun v5 =>
          cnd v5 (
            (I_IsTriangle N (d_0.getD ((3 : Int).toNat) 0) (d_0.getD ((4 : Int).toNat) 0) (d_0.getD ((5 : Int).toNat) 0)).bind fun v6 =>
            some v6) (
            some false)) (
          some false)) (
        some false)) (
      some false)) (
    some false)
set_option maxRecDepth 20000 in
set_option maxHeartbeats 1600000 in
theorem I_IsPlanar_w (N : Nat) (d_0 : List Int) (r : Bool) (h : I_IsPlanar N d_0 = some r) : PCall Try.prog 20 [.ro false (.ints d_0)] [] (.bool r) := by
  unfold I_IsPlanar at h
  refine pcall_intro (TT := TT) tt Try.func20 rfl rfl Try.ntmps20 (congrArg Array.toList Try.results20) rfl rfl fun w0 => ?_
  refine vSeq ?_
  refine vRegion ?_
  refine oVal tt rfl rfl rfl rfl rfl trivial ?_
  refine vNil ?_
  change VC _ _ _ _
  refine vSeq ?_
  refine vRegionD (by kernel_rfl) (by kernel_rfl) ?_
  refine cVal tt rfl (wNone rfl) rfl rfl rfl trivial ?_
  obtain ⟨v1, hc1, h⟩ := bind_inv h
  refine cCall (I_areSquares_w N (6 : Int) d_0 v1 hc1) rfl (wNone rfl) rfl rfl rfl rfl rfl rfl ⟨rfl, rfl, trivial⟩ ?_
  refine cVal tt rfl (wNone rfl) rfl rfl rfl trivial ?_
  refine cSplit rfl rfl rfl (fun hb2 => ?_) (fun hb2 => ?_)
  · replace h := cnd_t hb2 h
    refine cVal tt rfl (wSome rfl rfl rfl rfl hb2) rfl rfl rfl trivial ?_
    obtain ⟨v2, hc3, h⟩ := bind_inv h
    refine cCall (I_MengerOf_w N d_0 v2 hc3) rfl (wSome rfl rfl rfl rfl hb2) rfl rfl rfl rfl rfl rfl ⟨rfl, trivial⟩ ?_
    refine cVal tt rfl (wSome rfl rfl rfl rfl hb2) rfl rfl rfl trivial ?_
    refine cPickT rfl (wNone rfl) rfl rfl rfl hb2 rfl ?_
    refine cVal tt rfl (wNone rfl) rfl rfl rfl trivial ?_
    refine cSplit rfl rfl rfl (fun hb4 => ?_) (fun hb4 => ?_)
    · replace h := cnd_t hb4 h
      refine cVal tt rfl (wSome rfl rfl rfl rfl hb4) rfl rfl rfl trivial ?_
      obtain ⟨hg5, h⟩ := grd_inv h
      refine cVal tt rfl (wSome rfl rfl rfl rfl hb4) rfl rfl rfl hg5 ?_
      iterate 2 refine cVal tt rfl (wSome rfl rfl rfl rfl hb4) rfl rfl rfl trivial ?_
      obtain ⟨hg6, h⟩ := grd_inv h
      refine cVal tt rfl (wSome rfl rfl rfl rfl hb4) rfl rfl rfl hg6 ?_
      iterate 2 refine cVal tt rfl (wSome rfl rfl rfl rfl hb4) rfl rfl rfl trivial ?_
      obtain ⟨hg7, h⟩ := grd_inv h
      refine cVal tt rfl (wSome rfl rfl rfl rfl hb4) rfl rfl rfl hg7 ?_
      refine cVal tt rfl (wSome rfl rfl rfl rfl hb4) rfl rfl rfl trivial ?_
      obtain ⟨v3, hc8, h⟩ := bind_inv h
      refine cCall (I_IsTriangle_w N (d_0.getD ((0 : Int).toNat) 0) (d_0.getD ((1 : Int).toNat) 0) (d_0.getD ((3 : Int).toNat) 0) v3 hc8) rfl (wSome rfl rfl rfl rfl hb4) rfl rfl rfl rfl rfl rfl ⟨rfl, rfl, rfl, trivial⟩ ?_
      refine cPickT rfl (wNone rfl) rfl rfl rfl hb4 rfl ?_
      refine cVal tt rfl (wNone rfl) rfl rfl rfl trivial ?_
      refine cSplit rfl rfl rfl (fun hb9 => ?_) (fun hb9 => ?_)
      · replace h := cnd_t hb9 h
        refine cVal tt rfl (wSome rfl rfl rfl rfl hb9) rfl rfl rfl trivial ?_
        refine cVal tt rfl (wSome rfl rfl rfl rfl hb9) rfl rfl rfl hg5 ?_
        iterate 2 refine cVal tt rfl (wSome rfl rfl rfl rfl hb9) rfl rfl rfl trivial ?_
        obtain ⟨hg10, h⟩ := grd_inv h
        refine cVal tt rfl (wSome rfl rfl rfl rfl hb9) rfl rfl rfl hg10 ?_
        iterate 2 refine cVal tt rfl (wSome rfl rfl rfl rfl hb9) rfl rfl rfl trivial ?_
        obtain ⟨hg11, h⟩ := grd_inv h
        refine cVal tt rfl (wSome rfl rfl rfl rfl hb9) rfl rfl rfl hg11 ?_
        refine cVal tt rfl (wSome rfl rfl rfl rfl hb9) rfl rfl rfl trivial ?_
        obtain ⟨v4, hc12, h⟩ := bind_inv h
        refine cCall (I_IsTriangle_w N (d_0.getD ((0 : Int).toNat) 0) (d_0.getD ((2 : Int).toNat) 0) (d_0.getD ((4 : Int).toNat) 0) v4 hc12) rfl (wSome rfl rfl rfl rfl hb9) rfl rfl rfl rfl rfl rfl ⟨rfl, rfl, rfl, trivial⟩ ?_
        refine cPickT rfl (wNone rfl) rfl rfl rfl hb9 rfl ?_
        refine cVal tt rfl (wNone rfl) rfl rfl rfl trivial ?_
        refine cSplit rfl rfl rfl (fun hb13 => ?_) (fun hb13 => ?_)
        · replace h := cnd_t hb13 h
          refine cVal tt rfl (wSome rfl rfl rfl rfl hb13) rfl rfl rfl trivial ?_
          refine cVal tt rfl (wSome rfl rfl rfl rfl hb13) rfl rfl rfl hg6 ?_
          iterate 2 refine cVal tt rfl (wSome rfl rfl rfl rfl hb13) rfl rfl rfl trivial ?_
          refine cVal tt rfl (wSome rfl rfl rfl rfl hb13) rfl rfl rfl hg10 ?_
          iterate 2 refine cVal tt rfl (wSome rfl rfl rfl rfl hb13) rfl rfl rfl trivial ?_
          obtain ⟨hg14, h⟩ := grd_inv h
          refine cVal tt rfl (wSome rfl rfl rfl rfl hb13) rfl rfl rfl hg14 ?_
          refine cVal tt rfl (wSome rfl rfl rfl rfl hb13) rfl rfl rfl trivial ?_
          obtain ⟨v5, hc15, h⟩ := bind_inv h
          refine cCall (I_IsTriangle_w N (d_0.getD ((1 : Int).toNat) 0) (d_0.getD ((2 : Int).toNat) 0) (d_0.getD ((5 : Int).toNat) 0) v5 hc15) rfl (wSome rfl rfl rfl rfl hb13) rfl rfl rfl rfl rfl rfl ⟨rfl, rfl, rfl, trivial⟩ ?_
          refine cPickT rfl (wNone rfl) rfl rfl rfl hb13 rfl ?_
          refine cVal tt rfl (wNone rfl) rfl rfl rfl trivial ?_
          refine cSplit rfl rfl rfl (fun hb16 => ?_) (fun hb16 => ?_)
          · replace h := cnd_t hb16 h
            refine cVal tt rfl (wSome rfl rfl rfl rfl hb16) rfl rfl rfl trivial ?_
            refine cVal tt rfl (wSome rfl rfl rfl rfl hb16) rfl rfl rfl hg7 ?_
            iterate 2 refine cVal tt rfl (wSome rfl rfl rfl rfl hb16) rfl rfl rfl trivial ?_
            refine cVal tt rfl (wSome rfl rfl rfl rfl hb16) rfl rfl rfl hg11 ?_
            iterate 2 refine cVal tt rfl (wSome rfl rfl rfl rfl hb16) rfl rfl rfl trivial ?_
            refine cVal tt rfl (wSome rfl rfl rfl rfl hb16) rfl rfl rfl hg14 ?_
            refine cVal tt rfl (wSome rfl rfl rfl rfl hb16) rfl rfl rfl trivial ?_
            obtain ⟨v6, hc17, h⟩ := bind_inv h
            refine cCall (I_IsTriangle_w N (d_0.getD ((3 : Int).toNat) 0) (d_0.getD ((4 : Int).toNat) 0) (d_0.getD ((5 : Int).toNat) 0) v6 hc17) rfl (wSome rfl rfl rfl rfl hb16) rfl rfl rfl rfl rfl rfl ⟨rfl, rfl, rfl, trivial⟩ ?_
            refine cPickT rfl (wNone rfl) rfl rfl rfl hb16 rfl ?_
            refine cVal tt rfl (wNone rfl) rfl rfl rfl trivial ?_
            refine cNil ?_
            change VC _ _ _ _
            refine vRet ?_
            change ∃ _, _
            cases h
            exact ⟨[], _, rfl, trivial, rfl, (.eq rfl), rfl⟩
          · replace h := cnd_f hb16 h
            iterate 10 refine cNoT rfl rfl rfl rfl hb16 rfl rfl ?_
            refine cPickF rfl (wNone rfl) rfl rfl rfl hb16 rfl ?_
            refine cVal tt rfl (wNone rfl) rfl rfl rfl trivial ?_
            refine cNil ?_
            change VC _ _ _ _
            refine vRet ?_
            change ∃ _, _
            cases h
            exact ⟨[], _, rfl, trivial, rfl, (.eq rfl), rfl⟩
        · replace h := cnd_f hb13 h
          iterate 10 refine cNoT rfl rfl rfl rfl hb13 rfl rfl ?_
          refine cPickF rfl (wNone rfl) rfl rfl rfl hb13 rfl ?_
          refine cVal tt rfl (wNone rfl) rfl rfl rfl trivial ?_
          iterate 10 refine cNoT rfl rfl rfl rfl rfl rfl rfl ?_
          refine cPickF rfl (wNone rfl) rfl rfl rfl rfl rfl ?_
          refine cVal tt rfl (wNone rfl) rfl rfl rfl trivial ?_
          refine cNil ?_
          change VC _ _ _ _
          refine vRet ?_
          change ∃ _, _
          cases h
          exact ⟨[], _, rfl, trivial, rfl, (.eq rfl), rfl⟩
      · replace h := cnd_f hb9 h
        iterate 10 refine cNoT rfl rfl rfl rfl hb9 rfl rfl ?_
        refine cPickF rfl (wNone rfl) rfl rfl rfl hb9 rfl ?_
        refine cVal tt rfl (wNone rfl) rfl rfl rfl trivial ?_
        iterate 10 refine cNoT rfl rfl rfl rfl rfl rfl rfl ?_
        refine cPickF rfl (wNone rfl) rfl rfl rfl rfl rfl ?_
        refine cVal tt rfl (wNone rfl) rfl rfl rfl trivial ?_
        iterate 10 refine cNoT rfl rfl rfl rfl rfl rfl rfl ?_
        refine cPickF rfl (wNone rfl) rfl rfl rfl rfl rfl ?_
        refine cVal tt rfl (wNone rfl) rfl rfl rfl trivial ?_
        refine cNil ?_
        change VC _ _ _ _
        refine vRet ?_
        change ∃ _, _
        cases h
        exact ⟨[], _, rfl, trivial, rfl, (.eq rfl), rfl⟩
    · replace h := cnd_f hb4 h
      iterate 10 refine cNoT rfl rfl rfl rfl hb4 rfl rfl ?_
      refine cPickF rfl (wNone rfl) rfl rfl rfl hb4 rfl ?_
      refine cVal tt rfl (wNone rfl) rfl rfl rfl trivial ?_
      iterate 10 refine cNoT rfl rfl rfl rfl rfl rfl rfl ?_
      refine cPickF rfl (wNone rfl) rfl rfl rfl rfl rfl ?_
      refine cVal tt rfl (wNone rfl) rfl rfl rfl trivial ?_
      iterate 10 refine cNoT rfl rfl rfl rfl rfl rfl rfl ?_
      refine cPickF rfl (wNone rfl) rfl rfl rfl rfl rfl ?_
      refine cVal tt rfl (wNone rfl) rfl rfl rfl trivial ?_
      iterate 10 refine cNoT rfl rfl rfl rfl rfl rfl rfl ?_
      refine cPickF rfl (wNone rfl) rfl rfl rfl rfl rfl ?_
      refine cVal tt rfl (wNone rfl) rfl rfl rfl trivial ?_
      refine cNil ?_
      change VC _ _ _ _
      refine vRet ?_
      change ∃ _, _
      cases h
      exact ⟨[], _, rfl, trivial, rfl, (.eq rfl), rfl⟩
  · replace h := cnd_f hb2 h
    iterate 3 refine cNoT rfl rfl rfl rfl hb2 rfl rfl ?_
    refine cPickF rfl (wNone rfl) rfl rfl rfl hb2 rfl ?_
    refine cVal tt rfl (wNone rfl) rfl rfl rfl trivial ?_
    iterate 10 refine cNoT rfl rfl rfl rfl rfl rfl rfl ?_
    refine cPickF rfl (wNone rfl) rfl rfl rfl rfl rfl ?_
    refine cVal tt rfl (wNone rfl) rfl rfl rfl trivial ?_
    iterate 10 refine cNoT rfl rfl rfl rfl rfl rfl rfl ?_
    refine cPickF rfl (wNone rfl) rfl rfl rfl rfl rfl ?_
    refine cVal tt rfl (wNone rfl) rfl rfl rfl trivial ?_
    iterate 10 refine cNoT rfl rfl rfl rfl rfl rfl rfl ?_
    refine cPickF rfl (wNone rfl) rfl rfl rfl rfl rfl ?_
    refine cVal tt rfl (wNone rfl) rfl rfl rfl trivial ?_
    iterate 10 refine cNoT rfl rfl rfl rfl rfl rfl rfl ?_
    refine cPickF rfl (wNone rfl) rfl rfl rfl rfl rfl ?_
    refine cVal tt rfl (wNone rfl) rfl rfl rfl trivial ?_
    refine cNil ?_
    change VC _ _ _ _
    refine vRet ?_
    change ∃ _, _
    cases h
    exact ⟨[], _, rfl, trivial, rfl, (.eq rfl), rfl⟩
end Go.Proofs.Ytgindcgphnbnaaa

namespace Go.Proofs.Ytgindcgphnbnaaa
open Go.RowKit
set_option linter.unusedVariables false
set_option linter.unusedSimpArgs false
def S_LastSquares_l1 (N : Nat) (d_0 : List Int) (k : (List Int) → Option (List Int)) : Nat → ((List Int) × Int) → Option (List Int)
  | 0, _ => none
  | n + 1, (l12, x13) =>
    cnd (decide (x13 ≤ (200 : Int))) (
      grd (0 ≤ (0 : Int) ∧ (0 : Int) < (d_0.length : Int)) <|
      grd (0 ≤ (1 : Int) ∧ (1 : Int) < (d_0.length : Int)) <|
      grd (0 ≤ (2 : Int) ∧ (2 : Int) < (d_0.length : Int)) <|
      grd (0 ≤ (3 : Int) ∧ (3 : Int) < (d_0.length : Int)) <|
      grd (0 ≤ (4 : Int) ∧ (4 : Int) < (d_0.length : Int)) <|
      (S_IsPlanar N ([(d_0.getD ((0 : Int).toNat) 0), (d_0.getD ((1 : Int).toNat) 0), (d_0.getD ((2 : Int).toNat) 0), (d_0.getD ((3 : Int).toNat) 0), (d_0.getD ((4 : Int).toNat) 0), x13] : List Int)).bind fun v15 =>
      cnd v15 (
        grd (l12.length + 1 ≤ 4294967296) <|
        grd (Rg64 (x13 + (1 : Int))) <|
        S_LastSquares_l1 N d_0 k n ((l12 ++ ([x13] : List Int)), (x13 + (1 : Int)))) (
        grd (Rg64 (x13 + (1 : Int))) <|
        S_LastSquares_l1 N d_0 k n (l12, (x13 + (1 : Int))))) (
      k l12)
def S_LastSquares (N : Nat) (d_0 : List Int) : Option (List Int) :=
  cnd ((d_0.length : Int) != (5 : Int)) (
    some ([] : List Int)) (
    (S_l22Fine N d_0).bind fun v1 =>
    cnd (!v1) (
      some ([] : List Int)) (
      S_LastSquares_l1 N d_0 (fun (l8 : List Int) =>
            some l8) N (([] : List Int), (0 : Int))))
set_option maxRecDepth 20000 in
set_option maxHeartbeats 1600000 in
theorem S_LastSquares_w (N : Nat) (d_0 : List Int) (r : List Int) (h : S_LastSquares N d_0 = some r) : PCall Try.prog 21 [.ro false (.ints d_0)] [(3, .ints r)] (.row 0 0 r.length) := by
  unfold S_LastSquares at h
  refine pcall_intro (TT := TT) tt Try.func21 rfl rfl Try.ntmps21 (congrArg Array.toList Try.results21) rfl rfl fun w0 => ?_
  refine vSeq ?_
  refine vRegion ?_
  refine oVal tt rfl rfl rfl rfl rfl trivial ?_
  refine vNil ?_
  change VC _ _ _ _
  refine vSeq ?_
  refine vRegion ?_
  refine oEmpty tt (wNone rfl) rfl rfl rfl rfl ?_
  refine oVal tt rfl rfl rfl rfl rfl trivial ?_
  refine vNil ?_
  change VC _ _ _ _
  iterate 2 refine vSeq ?_
  refine vRegion ?_
  iterate 4 refine oVal tt rfl rfl rfl rfl rfl trivial ?_
  refine oSplit rfl rfl rfl (fun hb1 => ?_) (fun hb1 => ?_)
  · replace h := cnd_t hb1 h
    iterate 3 refine oNoF rfl rfl rfl rfl hb1 rfl rfl ?_
    refine oPick rfl rfl rfl rfl rfl hb1 rfl ?_
    refine vNil ?_
    change VC _ _ _ _
    refine vCondT rfl rfl ?_
    refine vSeq ?_
    refine vRegion ?_
    iterate 2 refine oVal tt rfl rfl rfl rfl rfl trivial ?_
    refine vNil ?_
    change VC _ _ _ _
    refine vNilT 2 9001 3 (.ints []) rfl rfl rfl rfl ?_
    refine vRet ?_
    change ∃ _, _
    cases h
    exact ⟨[9001], _, rfl, ⟨rfl, trivial⟩, rfl, (.eq rfl), rfl⟩
  · replace h := cnd_f hb1 h
    refine oValG tt rfl rfl rfl rfl rfl hb1 rfl rfl rfl trivial ?_
    obtain ⟨v1, hc2, h⟩ := bind_inv h
    refine oCallG (S_l22Fine_w N d_0 v1 hc2) rfl rfl rfl rfl hb1 rfl rfl rfl rfl rfl rfl rfl ⟨rfl, trivial⟩ ?_
    refine oValG tt rfl rfl rfl rfl rfl hb1 rfl rfl rfl trivial ?_
    refine oPickF rfl rfl rfl rfl rfl hb1 rfl ?_
    refine vNil ?_
    change VC _ _ _ _
    refine vCond rfl (fun hb3 => ?_) (fun hb3 => ?_)
    · replace h := cnd_t hb3 h
      refine vSeq ?_
      refine vRegion ?_
      iterate 2 refine oVal tt rfl rfl rfl rfl rfl trivial ?_
      refine vNil ?_
      change VC _ _ _ _
      refine vNilT 2 9001 3 (.ints []) rfl rfl rfl rfl ?_
      refine vRet ?_
      change ∃ _, _
      cases h
      exact ⟨[9001], _, rfl, ⟨rfl, trivial⟩, rfl, (.eq rfl), rfl⟩
    · replace h := cnd_f hb3 h
      refine vSkip ?_
      change VC _ _ _ _
      iterate 2 refine vSeq ?_
      refine vRegion ?_
      refine oVal tt rfl rfl rfl rfl rfl trivial ?_
      refine vNil ?_
      change VC _ _ _ _
      refine vJoin (F := fun k => S_LastSquares_l1 N d_0 k) h (α := List Int) (J := fun (l8 : List Int) => (⟨[(3, .row 40 0 l8.length)], [(40, some (3, .ints l8))], []⟩ : PS)) ?_ ?_
      · rintro l8 h
        show VC _ _ _ (⟨[(3, .row 40 0 l8.length)], [(40, some (3, .ints l8))], []⟩ : PS)
        refine vSeq ?_
        refine vRegion ?_
        iterate 2 refine oVal tt rfl rfl rfl rfl rfl trivial ?_
        refine vNil ?_
        change VC _ _ _ _
        refine vRet ?_
        change ∃ _, _
        cases h
        exact ⟨[40], _, rfl, ⟨rfl, trivial⟩, rfl, (.eq rfl), rfl⟩
      · intro k h
        refine vBlock ?_
        refine vNilT 3 40 3 (.ints []) rfl rfl rfl rfl ?_
        refine vLoopS (α := (List Int) × Int) (fun | (l12, x13) => (⟨[(0, .ro false (.ints d_0)), (3, .row 40 0 l12.length), (4, .int x13)], [(40, some (3, .ints l12))], []⟩ : PS)) (S_LastSquares_l1 N d_0 k) h (En.of ⟨rfl, rfl, rfl, trivial⟩ ⟨rfl, trivial⟩ trivial) (fun _ => rfl) ?_
        rintro n ⟨l12, x13⟩ h
        rw [S_LastSquares_l1] at h
        show VC _ _ _ (⟨[(0, .ro false (.ints d_0)), (3, .row 40 0 l12.length), (4, .int x13)], [(40, some (3, .ints l12))], []⟩ : PS)
        iterate 2 refine vSeq ?_
        refine vRegion ?_
        iterate 2 refine oVal tt rfl rfl rfl rfl rfl trivial ?_
        refine vNil ?_
        change VC _ _ _ _
        refine vCond rfl (fun hb4 => ?_) (fun hb4 => ?_)
        · replace h := cnd_t hb4 h
          refine vSkip ?_
          change VC _ _ _ _
          refine vSeq ?_
          refine vBlock ?_
          refine vSeq ?_
          refine vRegionN 16 [] [0, 1, 3, 0, 8, 24, 0, 64, 192, 0, 512, 1536, 0, 4096, 12288, 0, 65535, 131071] (by kernel_rfl) (by kernel_rfl) (by kernel_rfl) (by kernel_rfl) (by kernel_rfl) rfl (by rfl) ?_
          refine nVal tt rfl (wNone rfl) rfl rfl rfl rfl rfl trivial ?_
          obtain ⟨hg5, h⟩ := grd_inv h
          refine nVal tt rfl (wNone rfl) rfl rfl rfl rfl rfl hg5 ?_
          iterate 2 refine nVal tt rfl (wNone rfl) rfl rfl rfl rfl rfl trivial ?_
          obtain ⟨hg6, h⟩ := grd_inv h
          refine nVal tt rfl (wNone rfl) rfl rfl rfl rfl rfl hg6 ?_
          iterate 2 refine nVal tt rfl (wNone rfl) rfl rfl rfl rfl rfl trivial ?_
          obtain ⟨hg7, h⟩ := grd_inv h
          refine nVal tt rfl (wNone rfl) rfl rfl rfl rfl rfl hg7 ?_
          iterate 2 refine nVal tt rfl (wNone rfl) rfl rfl rfl rfl rfl trivial ?_
          obtain ⟨hg8, h⟩ := grd_inv h
          refine nVal tt rfl (wNone rfl) rfl rfl rfl rfl rfl hg8 ?_
          iterate 2 refine nVal tt rfl (wNone rfl) rfl rfl rfl rfl rfl trivial ?_
          obtain ⟨hg9, h⟩ := grd_inv h
          refine nVal tt rfl (wNone rfl) rfl rfl rfl rfl rfl hg9 ?_
          iterate 2 refine nVal tt rfl (wNone rfl) rfl rfl rfl rfl rfl trivial ?_
          refine nNil ?_
          change VO _ _ _ _ _
          refine oBuild tt rfl rfl rfl rfl rfl rfl rfl rfl rfl rfl rfl ?_
          obtain ⟨v15, hc10, h⟩ := bind_inv h
          refine oCall (S_IsPlanar_w N ([(d_0.getD ((0 : Int).toNat) 0), (d_0.getD ((1 : Int).toNat) 0), (d_0.getD ((2 : Int).toNat) 0), (d_0.getD ((3 : Int).toNat) 0), (d_0.getD ((4 : Int).toNat) 0), x13] : List Int) v15 hc10) rfl rfl rfl rfl rfl rfl rfl rfl ⟨(.inl ⟨rfl, rfl⟩), trivial⟩ ?_
          refine vNil ?_
          change VC _ _ _ _
          refine vCond rfl (fun hb11 => ?_) (fun hb11 => ?_)
          · replace h := cnd_t hb11 h
            refine vRegion ?_
            iterate 2 refine oVal tt rfl rfl rfl rfl rfl trivial ?_
            refine oBuild tt rfl rfl rfl rfl rfl rfl rfl rfl rfl rfl rfl ?_
            obtain ⟨hg12, h⟩ := grd_inv h
            refine oAppend tt rfl rfl rfl rfl rfl rfl rfl rfl rfl rfl rfl rfl rfl rfl rfl rfl (Nat.le_of_eq (Nat.zero_add _)) hg12 ?_
            refine oVal tt rfl rfl rfl rfl rfl trivial ?_
            refine vNil ?_
            change VC _ _ _ _
            refine vRegion ?_
            refine oVal tt rfl rfl rfl rfl rfl trivial ?_
            obtain ⟨hg13, h⟩ := grd_inv h
            refine oVal tt rfl rfl rfl rfl rfl hg13 ?_
            refine oVal tt rfl rfl rfl rfl rfl trivial ?_
            refine vNil ?_
            change ∃ _, _
            exact ⟨((l12 ++ ([x13] : List Int)), (x13 + (1 : Int))), (En.of ⟨rfl, rfl, rfl, trivial⟩ ⟨rfl, trivial⟩ trivial), h⟩
          · replace h := cnd_f hb11 h
            refine vSkip ?_
            change VC _ _ _ _
            refine vRegion ?_
            refine oVal tt rfl rfl rfl rfl rfl trivial ?_
            obtain ⟨hg14, h⟩ := grd_inv h
            refine oVal tt rfl rfl rfl rfl rfl hg14 ?_
            refine oVal tt rfl rfl rfl rfl rfl trivial ?_
            refine vNil ?_
            change ∃ _, _
            exact ⟨(l12, (x13 + (1 : Int))), (En.of ⟨rfl, rfl, rfl, trivial⟩ ⟨rfl, trivial⟩ trivial), h⟩
        · replace h := cnd_f hb4 h
          refine vExit ?_
          change ∃ _, _
          exact ⟨l12, (En.of ⟨rfl, trivial⟩ ⟨rfl, trivial⟩ trivial), h⟩
def I_LastSquares_l1 (N : Nat) (d_0 : List Int) (k : (List Int) → Option (List Int)) : Nat → ((List Int) × Int) → Option (List Int)
  | 0, _ => none
  | n + 1, (l18, x19) =>
    cnd (decide (x19 ≤ (200 : Int))) (
      (I_copyInts N d_0).bind fun v22 =>
      grd (v22.length + 1 ≤ 4294967296) <|
      (I_IsPlanar N (v22 ++ ([x19] : List Int))).bind fun v23 =>
      cnd v23 (
        grd (l18.length + 1 ≤ 4294967296) <|
        grd (Rg64 (x19 + (1 : Int))) <|
        I_LastSquares_l1 N d_0 k n ((l18 ++ ([x19] : List Int)), (x19 + (1 : Int)))) (
        grd (Rg64 (x19 + (1 : Int))) <|
        I_LastSquares_l1 N d_0 k n (l18, (x19 + (1 : Int))))) (
      k l18)
def I_LastSquares (N : Nat) (d_0 : List Int) : Option (List Int) :=
  (I_areSquares N (5 : Int) d_0).bind fun v1 =>
  cnd (!v1) (
    some ([] : List Int)) (
    I_LastSquares_l1 N d_0 (fun (l12 : List Int) =>
          some l12) N (([] : List Int), (0 : Int)))
set_option maxRecDepth 20000 in
set_option maxHeartbeats 1600000 in
theorem I_LastSquares_w (N : Nat) (d_0 : List Int) (r : List Int) (h : I_LastSquares N d_0 = some r) : PCall Try.prog 22 [.ro false (.ints d_0)] [(3, .ints r)] (.row 0 0 r.length) := by
  unfold I_LastSquares at h
  refine pcall_intro (TT := TT) tt Try.func22 rfl rfl Try.ntmps22 (congrArg Array.toList Try.results22) rfl rfl fun w0 => ?_
  refine vSeq ?_
  refine vRegion ?_
  refine oVal tt rfl rfl rfl rfl rfl trivial ?_
  refine vNil ?_
  change VC _ _ _ _
  refine vSeq ?_
  refine vRegion ?_
  refine oEmpty tt (wNone rfl) rfl rfl rfl rfl ?_
  refine oVal tt rfl rfl rfl rfl rfl trivial ?_
  refine vNil ?_
  change VC _ _ _ _
  iterate 2 refine vSeq ?_
  refine vRegion ?_
  refine oVal tt rfl rfl rfl rfl rfl trivial ?_
  obtain ⟨v1, hc1, h⟩ := bind_inv h
  refine oCall (I_areSquares_w N (5 : Int) d_0 v1 hc1) rfl rfl rfl rfl rfl rfl rfl rfl ⟨rfl, rfl, trivial⟩ ?_
  refine oVal tt rfl rfl rfl rfl rfl trivial ?_
  refine vNil ?_
  change VC _ _ _ _
  refine vCond rfl (fun hb2 => ?_) (fun hb2 => ?_)
  · replace h := cnd_t hb2 h
    refine vSeq ?_
    refine vRegion ?_
    iterate 2 refine oVal tt rfl rfl rfl rfl rfl trivial ?_
    refine vNil ?_
    change VC _ _ _ _
    refine vNilT 2 9001 3 (.ints []) rfl rfl rfl rfl ?_
    refine vRet ?_
    change ∃ _, _
    cases h
    exact ⟨[9001], _, rfl, ⟨rfl, trivial⟩, rfl, (.eq rfl), rfl⟩
  · replace h := cnd_f hb2 h
    refine vSkip ?_
    change VC _ _ _ _
    iterate 2 refine vSeq ?_
    refine vRegion ?_
    refine oVal tt rfl rfl rfl rfl rfl trivial ?_
    refine vNil ?_
    change VC _ _ _ _
    refine vJoin (F := fun k => I_LastSquares_l1 N d_0 k) h (α := List Int) (J := fun (l12 : List Int) => (⟨[(3, .row 23 0 l12.length)], [(23, some (3, .ints l12))], []⟩ : PS)) ?_ ?_
    · rintro l12 h
      show VC _ _ _ (⟨[(3, .row 23 0 l12.length)], [(23, some (3, .ints l12))], []⟩ : PS)
      refine vSeq ?_
      refine vRegion ?_
      iterate 2 refine oVal tt rfl rfl rfl rfl rfl trivial ?_
      refine vNil ?_
      change VC _ _ _ _
      refine vRet ?_
      change ∃ _, _
      cases h
      exact ⟨[23], _, rfl, ⟨rfl, trivial⟩, rfl, (.eq rfl), rfl⟩
    · intro k h
      refine vBlock ?_
      refine vNilT 3 23 3 (.ints []) rfl rfl rfl rfl ?_
      refine vLoopS (α := (List Int) × Int) (fun | (l18, x19) => (⟨[(0, .ro false (.ints d_0)), (3, .row 23 0 l18.length), (4, .int x19)], [(23, some (3, .ints l18))], []⟩ : PS)) (I_LastSquares_l1 N d_0 k) h (En.of ⟨rfl, rfl, rfl, trivial⟩ ⟨rfl, trivial⟩ trivial) (fun _ => rfl) ?_
      rintro n ⟨l18, x19⟩ h
      rw [I_LastSquares_l1] at h
      show VC _ _ _ (⟨[(0, .ro false (.ints d_0)), (3, .row 23 0 l18.length), (4, .int x19)], [(23, some (3, .ints l18))], []⟩ : PS)
      iterate 2 refine vSeq ?_
      refine vRegion ?_
      iterate 2 refine oVal tt rfl rfl rfl rfl rfl trivial ?_
      refine vNil ?_
      change VC _ _ _ _
      refine vCond rfl (fun hb3 => ?_) (fun hb3 => ?_)
      · replace h := cnd_t hb3 h
        refine vSkip ?_
        change VC _ _ _ _
        refine vSeq ?_
        refine vBlock ?_
        refine vSeq ?_
        refine vRegion ?_
        refine oVal tt rfl rfl rfl rfl rfl trivial ?_
        obtain ⟨v22, hc4, h⟩ := bind_inv h
        refine oCall (I_copyInts_w N d_0 v22 hc4) rfl rfl rfl rfl rfl rfl rfl rfl ⟨rfl, trivial⟩ ?_
        refine oVal tt rfl rfl rfl rfl rfl trivial ?_
        refine oBuild tt rfl rfl rfl rfl rfl rfl rfl rfl rfl rfl rfl ?_
        obtain ⟨hg5, h⟩ := grd_inv h
        refine oAppend tt rfl rfl rfl rfl rfl rfl rfl rfl rfl rfl rfl rfl rfl rfl rfl rfl (Nat.le_of_eq (Nat.zero_add _)) hg5 ?_
        obtain ⟨v23, hc6, h⟩ := bind_inv h
        refine oCall (I_IsPlanar_w N (v22 ++ ([x19] : List Int)) v23 hc6) rfl rfl rfl rfl rfl rfl rfl rfl ⟨(.inl ⟨rfl, rfl⟩), trivial⟩ ?_
        refine vNil ?_
        change VC _ _ _ _
        refine vCond rfl (fun hb7 => ?_) (fun hb7 => ?_)
        · replace h := cnd_t hb7 h
          refine vRegion ?_
          iterate 2 refine oVal tt rfl rfl rfl rfl rfl trivial ?_
          refine oBuild tt rfl rfl rfl rfl rfl rfl rfl rfl rfl rfl rfl ?_
          obtain ⟨hg8, h⟩ := grd_inv h
          refine oAppend tt rfl rfl rfl rfl rfl rfl rfl rfl rfl rfl rfl rfl rfl rfl rfl rfl (Nat.le_of_eq (Nat.zero_add _)) hg8 ?_
          refine oVal tt rfl rfl rfl rfl rfl trivial ?_
          refine vNil ?_
          change VC _ _ _ _
          refine vRegion ?_
          refine oVal tt rfl rfl rfl rfl rfl trivial ?_
          obtain ⟨hg9, h⟩ := grd_inv h
          refine oVal tt rfl rfl rfl rfl rfl hg9 ?_
          refine oVal tt rfl rfl rfl rfl rfl trivial ?_
          refine vNil ?_
          change ∃ _, _
          exact ⟨((l18 ++ ([x19] : List Int)), (x19 + (1 : Int))), (En.of ⟨rfl, rfl, rfl, trivial⟩ ⟨rfl, trivial⟩ trivial), h⟩
        · replace h := cnd_f hb7 h
          refine vSkip ?_
          change VC _ _ _ _
          refine vRegion ?_
          refine oVal tt rfl rfl rfl rfl rfl trivial ?_
          obtain ⟨hg10, h⟩ := grd_inv h
          refine oVal tt rfl rfl rfl rfl rfl hg10 ?_
          refine oVal tt rfl rfl rfl rfl rfl trivial ?_
          refine vNil ?_
          change ∃ _, _
          exact ⟨(l18, (x19 + (1 : Int))), (En.of ⟨rfl, rfl, rfl, trivial⟩ ⟨rfl, trivial⟩ trivial), h⟩
      · replace h := cnd_f hb3 h
        refine vExit ?_
        change ∃ _, _
        exact ⟨l18, (En.of ⟨rfl, trivial⟩ ⟨rfl, trivial⟩ trivial), h⟩
end Go.Proofs.Ytgindcgphnbnaaa

namespace Go.Proofs.Ytgindcgphnbnaaa
set_option linter.unusedVariables false
set_option linter.unusedSimpArgs false
variable {N : Nat}
theorem within_q (x lo hi : Int) : I_within N x lo hi = some (inB x lo hi) := by
  unfold I_within inB
  by_cases h : lo ≤ x
  · rw [cnd_dt (by omega), decide_eq_true h, Bool.true_and]
  · rw [cnd_df (by omega), decide_eq_false h, Bool.false_and]
theorem l1In_q (x lo hi : Int) : S_l1In N x lo hi = some (inB x lo hi) := by
  unfold S_l1In inB
  by_cases h : lo ≤ x
  · rw [cnd_dt (by omega), decide_eq_true h, Bool.true_and]
  · rw [cnd_df (by omega), decide_eq_false h, Bool.false_and]
/-- all numbers are squares of lengths -/
def allSq (d : List Int) : Bool := (List.range d.length).all fun i => inB (d.getD i 0) 0 200
theorem fine_s (hN : 4000000 ≤ N) {d : List Int} (hd : d.length ≤ 3000000) : S_l22Fine N d = some (allSq d) := by
  unfold S_l22Fine
  refine (srch (len := d.length) (ok := fun i => inB (d.getD i 0) 0 200) (bad := some false) (fin := some true) (by omega) ?_ ?_).trans (by rw [cnd_some, cnd_bool]; rfl)
  · intro n i hi _
    rw [S_l22Fine_l1]
    have e : ((i : Int)).toNat = i := by omega
    rw [cnd_dt (by omega), grd_pos (by omega), e, l1In_q, Option.bind_some, cnd_not, grd_R (by omega) (by omega), succ_cast]
  · intro n _
    rw [S_l22Fine_l1, cnd_df (by omega)]
theorem areSq_s (hN : 4000000 ≤ N) {d : List Int} (hd : d.length ≤ 3000000) (n : Int) : I_areSquares N n d = some (allSq d && ((d.length : Int) == n)) := by
  unfold I_areSquares
  refine (srch (len := d.length) (ok := fun i => inB (d.getD i 0) 0 200) (bad := some false) (fin := some ((d.length : Int) == n)) (by omega) ?_ ?_).trans ?_
  · intro m i hi _
    rw [I_areSquares_l1]
    have e : ((i : Int)).toNat = i := by omega
    rw [cnd_dt (by omega), grd_pos (by omega), e, within_q, Option.bind_some, cnd_not, grd_R (by omega) (by omega), succ_cast]
  · intro m _
    rw [I_areSquares_l1, cnd_df (by omega)]
  · show cnd (allSq d) _ _ = _
    cases allSq d <;> rfl
theorem sq_bd {a b : Int} (ha : 0 ≤ a) (ha' : a ≤ 200) (hb : 0 ≤ b) (hb' : b ≤ 200) : 0 ≤ a * b ∧ a * b ≤ 40000 := by
  have h1 : 0 ≤ a * b := Int.mul_nonneg ha hb
  have h2 : a * b ≤ 200 * 200 := Int.mul_le_mul ha' hb' hb (by omega)
  exact ⟨h1, by omega⟩
theorem all3 {a b c : Int} : allSq [a, b, c] = (inB a 0 200 && (inB b 0 200 && inB c 0 200)) := by
  unfold allSq
  have : (List.range ([a, b, c] : List Int).length) = [0, 1, 2] := rfl
  rw [this]
  simp [List.all_cons]
theorem heron_x (hN : 4000000 ≤ N) (a b c : Int) : ∃ v : Int, S_HeronOf N a b c = some v ∧ I_HeronOf N a b c = some v := by
  unfold S_HeronOf I_HeronOf
  rw [fine_s hN (by simp), areSq_s hN (by simp), Option.bind_some, Option.bind_some]
  have e3 : ((([a, b, c] : List Int).length : Int) == 3) = true := rfl
  rw [e3, Bool.and_true]
  cases h : allSq [a, b, c] with
  | false => exact ⟨0, rfl, rfl⟩
  | true =>
    rw [all3, Bool.and_eq_true, Bool.and_eq_true] at h
    obtain ⟨ha, hb, hc⟩ := h
    have ha := inB_true.1 ha
    have hb := inB_true.1 hb
    have hc := inB_true.1 hc
    have p1 := sq_bd ha.1 ha.2 hb.1 hb.2
    have p2 := sq_bd hb.1 hb.2 hc.1 hc.2
    have p3 := sq_bd hc.1 hc.2 ha.1 ha.2
    have p4 := sq_bd ha.1 ha.2 ha.1 ha.2
    have p5 := sq_bd hb.1 hb.2 hb.1 hb.2
    have p6 := sq_bd hc.1 hc.2 hc.1 hc.2
    generalize a * b = q1 at *
    generalize b * c = q2 at *
    generalize c * a = q3 at *
    generalize a * a = q4 at *
    generalize b * b = q5 at *
    generalize c * c = q6 at *
    rw [Bool.not_true, cnd_false]
    simp (disch := omega) only [grd_R]
    exact ⟨_, rfl, rfl⟩
theorem triangle_x (hN : 4000000 ≤ N) (a b c : Int) : ∃ v : Bool, S_IsTriangle N a b c = some v ∧ I_IsTriangle N a b c = some v := by
  unfold S_IsTriangle I_IsTriangle
  rw [fine_s hN (by simp), areSq_s hN (by simp), Option.bind_some, Option.bind_some]
  have e3 : ((([a, b, c] : List Int).length : Int) == 3) = true := rfl
  rw [e3, Bool.and_true]
  obtain ⟨v, h1, h2⟩ := heron_x (N := N) hN a b c
  rw [h1, h2]
  cases allSq [a, b, c]
  · exact ⟨false, rfl, rfl⟩
  · exact ⟨_, rfl, rfl⟩
theorem det_s : ∀ (n d : Nat) (m : List (List Int)), 100 ≤ N → n ≤ 5 → n < d → Smt n m → ∃ v : Int, I_determinant_r N d m = some v ∧ S_l22Det_r N d m = some v ∧ -dBd n ≤ v ∧ v ≤ dBd n := by
  intro n
  induction n with
  | zero =>
    intro d m hN hn hd h
    obtain ⟨d', rfl⟩ : ∃ d', d = d' + 1 := ⟨d - 1, by omega⟩
    have hl := h.len
    rw [I_determinant_r, S_l22Det_r]
    unfold I_determinant_b S_l22Det_b
    rw [cnd_eqt (by omega), cnd_eqt (by omega)]
    exact ⟨1, rfl, rfl, by decide, by decide⟩
  | succ n ih =>
    intro d m hN hn hd h
    obtain ⟨d', rfl⟩ : ∃ d', d = d' + 1 := ⟨d - 1, by omega⟩
    have hl := h.len
    rw [I_determinant_r, S_l22Det_r]
    unfold I_determinant_b S_l22Det_b
    rw [cnd_eqf (by omega), cnd_eqf (by omega), grd_pos (by omega)]
    have hB : dBd n ≤ 40000000000 := by
      have : n = 0 ∨ n = 1 ∨ n = 2 ∨ n = 3 ∨ n = 4 := by omega
      rcases this with rfl | rfl | rfl | rfl | rfl <;> decide
    obtain ⟨v, v1, v2, v3, v4⟩ := det1_s (N := N) h hN (by omega) (dBd_pos n) hB (rI := I_determinant_r N d') (rS := S_l22Det_r N d') (fun m' hm' => ih d' m' hN (by omega) (by omega) hm') N 0 0 (by omega) (by omega) (by simp) (by simp)
    exact ⟨v, v1, v2, v3, v4⟩
theorem allSq_at {d : List Int} (h : allSq d = true) {i : Nat} (hi : i < d.length) : 0 ≤ d.getD i 0 ∧ d.getD i 0 ≤ 200 := by
  unfold allSq at h
  rw [List.all_eq_true] at h
  exact inB_true.1 (h i (List.mem_range.2 hi))
theorem menger_x (hN : 4000000 ≤ N) {d : List Int} (hd : d.length ≤ 3000000) : ∃ v : Int, S_MengerOf N d = some v ∧ I_MengerOf N d = some v := by
  unfold S_MengerOf I_MengerOf
  rw [areSq_s hN hd, Option.bind_some]
  by_cases h6 : (d.length : Int) = 6
  · rw [cnd_nef h6, fine_s hN hd, Option.bind_some]
    have e6 : ((d.length : Int) == 6) = true := by simpa using h6
    rw [e6, Bool.and_true]
    cases hq : allSq d with
    | false => exact ⟨0, rfl, rfl⟩
    | true =>
      rw [Bool.not_true, cnd_false, cnd_false]
      have b0 := allSq_at hq (i := 0) (by omega)
      have b1 := allSq_at hq (i := 1) (by omega)
      have b2 := allSq_at hq (i := 2) (by omega)
      have b3 := allSq_at hq (i := 3) (by omega)
      have b4 := allSq_at hq (i := 4) (by omega)
      have b5 := allSq_at hq (i := 5) (by omega)
      have z0 : ((0 : Int)).toNat = 0 := rfl
      have z1 : ((1 : Int)).toNat = 1 := rfl
      have z2 : ((2 : Int)).toNat = 2 := rfl
      have z3 : ((3 : Int)).toNat = 3 := rfl
      have z4 : ((4 : Int)).toNat = 4 := rfl
      have z5 : ((5 : Int)).toNat = 5 := rfl
      rw [z0, z1, z2, z3, z4, z5]
      generalize d.getD 0 0 = x0 at *
      generalize d.getD 1 0 = x1 at *
      generalize d.getD 2 0 = x2 at *
      generalize d.getD 3 0 = x3 at *
      generalize d.getD 4 0 = x4 at *
      generalize d.getD 5 0 = x5 at *
      obtain ⟨v, v1, v2, _⟩ := det_s (N := N) 5 N [[0, 1, 1, 1, 1], [1, 0, x0, x1, x2], [1, x0, 0, x3, x4], [1, x1, x3, 0, x5], [1, x2, x4, x5, 0]] (by omega) (by omega) (by omega) ⟨rfl, fun r hr => by
        simp only [List.mem_cons, List.mem_nil_iff, or_false] at hr
        rcases hr with rfl | rfl | rfl | rfl | rfl <;> refine ⟨rfl, fun x hx => ?_⟩ <;> simp only [List.mem_cons, List.mem_nil_iff, or_false] at hx <;> rcases hx with rfl | rfl | rfl | rfl | rfl <;> omega⟩
      have v1' : I_determinant N [[0, 1, 1, 1, 1], [1, 0, x0, x1, x2], [1, x0, 0, x3, x4], [1, x1, x3, 0, x5], [1, x2, x4, x5, 0]] = some v := v1
      have v2' : S_l22Det N [[0, 1, 1, 1, 1], [1, 0, x0, x1, x2], [1, x0, 0, x3, x4], [1, x1, x3, 0, x5], [1, x2, x4, x5, 0]] = some v := v2
      refine ⟨v, ?_, ?_⟩
      · simp (disch := omega) only [grd_pos]
        rw [v2']; rfl
      · simp (disch := omega) only [grd_pos]
        rw [v1']; rfl
  · have e6 : ((d.length : Int) == 6) = false := by simpa using h6
    rw [cnd_net h6, e6, Bool.and_false]
    exact ⟨0, rfl, rfl⟩
theorem planar_x (hN : 4000000 ≤ N) {d : List Int} (hd : d.length ≤ 3000000) : ∃ v : Bool, S_IsPlanar N d = some v ∧ I_IsPlanar N d = some v := by
  unfold S_IsPlanar I_IsPlanar
  rw [areSq_s hN hd, Option.bind_some]
  obtain ⟨m, m1, m2⟩ := menger_x (N := N) hN hd
  by_cases h6 : (d.length : Int) = 6
  · rw [cnd_eqt h6, fine_s hN hd, Option.bind_some, m1, m2]
    have e6 : ((d.length : Int) == 6) = true := by simpa using h6
    rw [e6, Bool.and_true]
    cases hq : allSq d with
    | false => exact ⟨false, rfl, rfl⟩
    | true =>
      rw [cnd_true, cnd_true, Option.bind_some, Option.bind_some]
      obtain ⟨t1, a1, b1⟩ := triangle_x (N := N) hN (d.getD ((0 : Int)).toNat 0) (d.getD ((1 : Int)).toNat 0) (d.getD ((3 : Int)).toNat 0)
      obtain ⟨t2, a2, b2⟩ := triangle_x (N := N) hN (d.getD ((0 : Int)).toNat 0) (d.getD ((2 : Int)).toNat 0) (d.getD ((4 : Int)).toNat 0)
      obtain ⟨t3, a3, b3⟩ := triangle_x (N := N) hN (d.getD ((1 : Int)).toNat 0) (d.getD ((2 : Int)).toNat 0) (d.getD ((5 : Int)).toNat 0)
      obtain ⟨t4, a4, b4⟩ := triangle_x (N := N) hN (d.getD ((3 : Int)).toNat 0) (d.getD ((4 : Int)).toNat 0) (d.getD ((5 : Int)).toNat 0)
      have g0 : 0 ≤ (0 : Int) ∧ (0 : Int) < (d.length : Int) := by omega
      have g1 : 0 ≤ (1 : Int) ∧ (1 : Int) < (d.length : Int) := by omega
      have g2 : 0 ≤ (2 : Int) ∧ (2 : Int) < (d.length : Int) := by omega
      have g3 : 0 ≤ (3 : Int) ∧ (3 : Int) < (d.length : Int) := by omega
      have g4 : 0 ≤ (4 : Int) ∧ (4 : Int) < (d.length : Int) := by omega
      have g5 : 0 ≤ (5 : Int) ∧ (5 : Int) < (d.length : Int) := by omega
      simp only [grd_pos g0, grd_pos g1, grd_pos g2, grd_pos g3, grd_pos g4, grd_pos g5, a1, a2, a3, a4, b1, b2, b3, b4, Option.bind_some]
      cases (m == 0) <;> cases t1 <;> cases t2 <;> cases t3 <;> exact ⟨_, rfl, rfl⟩
  · have e6 : ((d.length : Int) == 6) = false := by simpa using h6
    rw [cnd_eqf h6, e6, Bool.and_false]
    exact ⟨false, rfl, rfl⟩
theorem five {d : List Int} (h : d.length = 5) (x : Int) : [d.getD 0 0, d.getD 1 0, d.getD 2 0, d.getD 3 0, d.getD 4 0, x] = d ++ [x] := by
  match d, h with
  | [a, b, c, e, f], _ => rfl
theorem last1_s (hN : 4000000 ≤ N) {d : List Int} (h5 : d.length = 5) : ∀ (fuel i : Nat) (l : List Int), i ≤ 201 → 201 < fuel + i → l.length ≤ i →
    ∃ l' : List Int, l'.length ≤ 201 ∧ S_LastSquares_l1 N d (fun x => some x) fuel (l, (i : Int)) = some l' ∧ I_LastSquares_l1 N d (fun x => some x) fuel (l, (i : Int)) = some l' := by
  intro fuel
  induction fuel with
  | zero => intro i l h1 h2; omega
  | succ fuel ih =>
    intro i l h1 h2 h3
    rw [S_LastSquares_l1, I_LastSquares_l1]
    by_cases hi : i ≤ 200
    · have z0 : ((0 : Int)).toNat = 0 := rfl
      have z1 : ((1 : Int)).toNat = 1 := rfl
      have z2 : ((2 : Int)).toNat = 2 := rfl
      have z3 : ((3 : Int)).toNat = 3 := rfl
      have z4 : ((4 : Int)).toNat = 4 := rfl
      have g0 : 0 ≤ (0 : Int) ∧ (0 : Int) < (d.length : Int) := by omega
      have g1 : 0 ≤ (1 : Int) ∧ (1 : Int) < (d.length : Int) := by omega
      have g2 : 0 ≤ (2 : Int) ∧ (2 : Int) < (d.length : Int) := by omega
      have g3 : 0 ≤ (3 : Int) ∧ (3 : Int) < (d.length : Int) := by omega
      have g4 : 0 ≤ (4 : Int) ∧ (4 : Int) < (d.length : Int) := by omega
      obtain ⟨b, a1, a2⟩ := planar_x (N := N) hN (d := d ++ [(i : Int)]) (by simp; omega)
      have gd : d.length + 1 ≤ 4294967296 := by omega
      rw [cnd_dt (by omega), cnd_dt (by omega), grd_pos g0, grd_pos g1, grd_pos g2, grd_pos g3, grd_pos g4, z0, z1, z2, z3, z4, five h5, a1, copyI_s (by omega), Option.bind_some, Option.bind_some, grd_pos gd, a2, Option.bind_some]
      cases b with
      | true =>
        have gl : l.length + 1 ≤ 4294967296 := by omega
        rw [cnd_true, cnd_true, grd_pos gl, grd_R (x := (i : Int) + 1) (by omega) (by omega), grd_pos gl, grd_R (x := (i : Int) + 1) (by omega) (by omega), succ_cast]
        exact ih (i + 1) _ (by omega) (by omega) (by simp; omega)
      | false =>
        rw [cnd_false, cnd_false, grd_R (x := (i : Int) + 1) (by omega) (by omega), grd_R (x := (i : Int) + 1) (by omega) (by omega), succ_cast]
        exact ih (i + 1) _ (by omega) (by omega) (by omega)
    · rw [cnd_df (by omega), cnd_df (by omega)]
      exact ⟨l, by omega, rfl, rfl⟩
theorem last_x (hN : 4000000 ≤ N) {d : List Int} (hd : d.length ≤ 3000000) : ∃ l : List Int, l.length ≤ 201 ∧ S_LastSquares N d = some l ∧ I_LastSquares N d = some l := by
  unfold S_LastSquares I_LastSquares
  rw [areSq_s hN hd, Option.bind_some]
  by_cases h5 : (d.length : Int) = 5
  · rw [cnd_nef h5, fine_s hN hd, Option.bind_some]
    have e5 : ((d.length : Int) == 5) = true := by simpa using h5
    rw [e5, Bool.and_true]
    cases allSq d with
    | false => exact ⟨[], by simp, rfl, rfl⟩
    | true =>
      rw [Bool.not_true, cnd_false, cnd_false]
      exact last1_s hN (by omega) N 0 [] (by omega) (by omega) (by simp)
  · have e5 : ((d.length : Int) == 5) = false := by simpa using h5
    rw [cnd_net h5, e5, Bool.and_false]
    exact ⟨[], by simp, rfl, rfl⟩
end Go.Proofs.Ytgindcgphnbnaaa

namespace Go.Proofs.Ytgindcgphnbnaaa
open Go.RowKit
set_option linter.unusedVariables false
set_option linter.unusedSimpArgs false
def L_FnExactMengerOf (N : Nat) (aD_0 : List Int) : Option (Bool) :=
  cnd (decide ((aD_0.length : Int) > (1048576 : Int))) (
    some true) (
    (L_toIntS N aD_0).bind fun v1 =>
    (S_MengerOf N v1).bind fun v2 =>
    (L_toIntS N aD_0).bind fun v3 =>
    (I_MengerOf N v3).bind fun v4 =>
    cnd (v4 != v2) (
      some false) (
      (L_toIntS N aD_0).bind fun v5 =>
      (L_eqIntS N v3 v5).bind fun v6 =>
      cnd (!v6) (
        some false) (
        some true)))
set_option maxRecDepth 20000 in
set_option maxHeartbeats 1600000 in
theorem L_FnExactMengerOf_w (N : Nat) (aD_0 : List Int) (r : Bool) (h : L_FnExactMengerOf N aD_0 = some r) : PCall Try.prog 3 [.ro false (.ints aD_0)] [] (.bool r) := by
  unfold L_FnExactMengerOf at h
  refine pcall_intro (TT := TT) tt Try.func3 rfl rfl Try.ntmps3 (congrArg Array.toList Try.results3) rfl rfl fun w0 => ?_
  refine vSeq ?_
  refine vRegion ?_
  refine oVal tt rfl rfl rfl rfl rfl trivial ?_
  refine vNil ?_
  change VC _ _ _ _
  iterate 2 refine vSeq ?_
  refine vRegion ?_
  iterate 3 refine oVal tt rfl rfl rfl rfl rfl trivial ?_
  refine vNil ?_
  change VC _ _ _ _
  refine vCond rfl (fun hb1 => ?_) (fun hb1 => ?_)
  · replace h := cnd_t hb1 h
    refine vSeq ?_
    refine vRegion ?_
    refine oVal tt rfl rfl rfl rfl rfl trivial ?_
    refine vNil ?_
    change VC _ _ _ _
    refine vRet ?_
    change ∃ _, _
    cases h
    exact ⟨[], _, rfl, trivial, rfl, (.eq rfl), rfl⟩
  · replace h := cnd_f hb1 h
    refine vSkip ?_
    change VC _ _ _ _
    refine vSeq ?_
    refine vRegion ?_
    refine oVal tt rfl rfl rfl rfl rfl trivial ?_
    obtain ⟨v1, hc2, h⟩ := bind_inv h
    refine oCall (L_toIntS_w N aD_0 v1 hc2) rfl rfl rfl rfl rfl rfl rfl rfl ⟨rfl, trivial⟩ ?_
    obtain ⟨v2, hc3, h⟩ := bind_inv h
    refine oCall (S_MengerOf_w N v1 v2 hc3) rfl rfl rfl rfl rfl rfl rfl rfl ⟨(.inl ⟨rfl, rfl⟩), trivial⟩ ?_
    refine oVal tt rfl rfl rfl rfl rfl trivial ?_
    refine vNil ?_
    change VC _ _ _ _
    refine vSeq ?_
    refine vRegion ?_
    refine oVal tt rfl rfl rfl rfl rfl trivial ?_
    obtain ⟨v3, hc4, h⟩ := bind_inv h
    refine oCall (L_toIntS_w N aD_0 v3 hc4) rfl rfl rfl rfl rfl rfl rfl rfl ⟨rfl, trivial⟩ ?_
    refine oVal tt rfl rfl rfl rfl rfl trivial ?_
    refine vNil ?_
    change VC _ _ _ _
    refine vSeq ?_
    refine vRegion ?_
    refine oVal tt rfl rfl rfl rfl rfl trivial ?_
    obtain ⟨v4, hc5, h⟩ := bind_inv h
    refine oCall (I_MengerOf_w N v3 v4 hc5) rfl rfl rfl rfl rfl rfl rfl rfl ⟨(.inl ⟨rfl, rfl⟩), trivial⟩ ?_
    refine oVal tt rfl rfl rfl rfl rfl trivial ?_
    refine vNil ?_
    change VC _ _ _ _
    iterate 2 refine vSeq ?_
    refine vRegion ?_
    iterate 3 refine oVal tt rfl rfl rfl rfl rfl trivial ?_
    refine vNil ?_
    change VC _ _ _ _
    refine vCond rfl (fun hb6 => ?_) (fun hb6 => ?_)
    · replace h := cnd_t hb6 h
      refine vSeq ?_
      refine vRegion ?_
      refine oVal tt rfl rfl rfl rfl rfl trivial ?_
      refine vNil ?_
      change VC _ _ _ _
      refine vRet ?_
      change ∃ _, _
      cases h
      exact ⟨[], _, rfl, trivial, rfl, (.eq rfl), rfl⟩
    · replace h := cnd_f hb6 h
      refine vSkip ?_
      change VC _ _ _ _
      iterate 2 refine vSeq ?_
      refine vRegion ?_
      iterate 2 refine oVal tt rfl rfl rfl rfl rfl trivial ?_
      obtain ⟨v5, hc7, h⟩ := bind_inv h
      refine oCall (L_toIntS_w N aD_0 v5 hc7) rfl rfl rfl rfl rfl rfl rfl rfl ⟨rfl, trivial⟩ ?_
      obtain ⟨v6, hc8, h⟩ := bind_inv h
      refine oCall (L_eqIntS_w N v3 v5 v6 hc8) rfl rfl rfl rfl rfl rfl rfl rfl ⟨(.inl ⟨rfl, rfl⟩), (.inl ⟨rfl, rfl⟩), trivial⟩ ?_
      refine oVal tt rfl rfl rfl rfl rfl trivial ?_
      refine vNil ?_
      change VC _ _ _ _
      refine vCond rfl (fun hb9 => ?_) (fun hb9 => ?_)
      · replace h := cnd_t hb9 h
        refine vSeq ?_
        refine vRegion ?_
        refine oVal tt rfl rfl rfl rfl rfl trivial ?_
        refine vNil ?_
        change VC _ _ _ _
        refine vRet ?_
        change ∃ _, _
        cases h
        exact ⟨[], _, rfl, trivial, rfl, (.eq rfl), rfl⟩
      · replace h := cnd_f hb9 h
        refine vSkip ?_
        change VC _ _ _ _
        refine vSeq ?_
        refine vRegion ?_
        refine oVal tt rfl rfl rfl rfl rfl trivial ?_
        refine vNil ?_
        change VC _ _ _ _
        refine vRet ?_
        change ∃ _, _
        cases h
        exact ⟨[], _, rfl, trivial, rfl, (.eq rfl), rfl⟩
end Go.Proofs.Ytgindcgphnbnaaa

namespace Go.Proofs.Ytgindcgphnbnaaa
open Go.RowKit
set_option linter.unusedVariables false
set_option linter.unusedSimpArgs false
def L_FnExactIsPlanar (N : Nat) (aD_0 : List Int) : Option (Bool) :=
  cnd (decide ((aD_0.length : Int) > (1048576 : Int))) (
    some true) (
    (L_toIntS N aD_0).bind fun v1 =>
    (S_IsPlanar N v1).bind fun v2 =>
    (L_toIntS N aD_0).bind fun v3 =>
    (I_IsPlanar N v3).bind fun v4 =>
    cnd (v4 != v2) (
      some false) (
      (L_toIntS N aD_0).bind fun v5 =>
      (L_eqIntS N v3 v5).bind fun v6 =>
      cnd (!v6) (
        some false) (
        some true)))
set_option maxRecDepth 20000 in
set_option maxHeartbeats 1600000 in
theorem L_FnExactIsPlanar_w (N : Nat) (aD_0 : List Int) (r : Bool) (h : L_FnExactIsPlanar N aD_0 = some r) : PCall Try.prog 4 [.ro false (.ints aD_0)] [] (.bool r) := by
  unfold L_FnExactIsPlanar at h
  refine pcall_intro (TT := TT) tt Try.func4 rfl rfl Try.ntmps4 (congrArg Array.toList Try.results4) rfl rfl fun w0 => ?_
  refine vSeq ?_
  refine vRegion ?_
  refine oVal tt rfl rfl rfl rfl rfl trivial ?_
  refine vNil ?_
  change VC _ _ _ _
  iterate 2 refine vSeq ?_
  refine vRegion ?_
  iterate 3 refine oVal tt rfl rfl rfl rfl rfl trivial ?_
  refine vNil ?_
  change VC _ _ _ _
  refine vCond rfl (fun hb1 => ?_) (fun hb1 => ?_)
  · replace h := cnd_t hb1 h
    refine vSeq ?_
    refine vRegion ?_
    refine oVal tt rfl rfl rfl rfl rfl trivial ?_
    refine vNil ?_
    change VC _ _ _ _
    refine vRet ?_
    change ∃ _, _
    cases h
    exact ⟨[], _, rfl, trivial, rfl, (.eq rfl), rfl⟩
  · replace h := cnd_f hb1 h
    refine vSkip ?_
    change VC _ _ _ _
    refine vSeq ?_
    refine vRegion ?_
    refine oVal tt rfl rfl rfl rfl rfl trivial ?_
    obtain ⟨v1, hc2, h⟩ := bind_inv h
    refine oCall (L_toIntS_w N aD_0 v1 hc2) rfl rfl rfl rfl rfl rfl rfl rfl ⟨rfl, trivial⟩ ?_
    obtain ⟨v2, hc3, h⟩ := bind_inv h
    refine oCall (S_IsPlanar_w N v1 v2 hc3) rfl rfl rfl rfl rfl rfl rfl rfl ⟨(.inl ⟨rfl, rfl⟩), trivial⟩ ?_
    refine oVal tt rfl rfl rfl rfl rfl trivial ?_
    refine vNil ?_
    change VC _ _ _ _
    refine vSeq ?_
    refine vRegion ?_
    refine oVal tt rfl rfl rfl rfl rfl trivial ?_
    obtain ⟨v3, hc4, h⟩ := bind_inv h
    refine oCall (L_toIntS_w N aD_0 v3 hc4) rfl rfl rfl rfl rfl rfl rfl rfl ⟨rfl, trivial⟩ ?_
    refine oVal tt rfl rfl rfl rfl rfl trivial ?_
    refine vNil ?_
    change VC _ _ _ _
    refine vSeq ?_
    refine vRegion ?_
    refine oVal tt rfl rfl rfl rfl rfl trivial ?_
    obtain ⟨v4, hc5, h⟩ := bind_inv h
    refine oCall (I_IsPlanar_w N v3 v4 hc5) rfl rfl rfl rfl rfl rfl rfl rfl ⟨(.inl ⟨rfl, rfl⟩), trivial⟩ ?_
    refine oVal tt rfl rfl rfl rfl rfl trivial ?_
    refine vNil ?_
    change VC _ _ _ _
    iterate 2 refine vSeq ?_
    refine vRegion ?_
    iterate 2 refine oVal tt rfl rfl rfl rfl rfl trivial ?_
    refine oPure (wNone rfl) (pNeB Try.underlying4 rfl rfl rfl) rfl rfl ?_
    refine vNil ?_
    change VC _ _ _ _
    refine vCond rfl (fun hb6 => ?_) (fun hb6 => ?_)
    · replace h := cnd_t hb6 h
      refine vSeq ?_
      refine vRegion ?_
      refine oVal tt rfl rfl rfl rfl rfl trivial ?_
      refine vNil ?_
      change VC _ _ _ _
      refine vRet ?_
      change ∃ _, _
      cases h
      exact ⟨[], _, rfl, trivial, rfl, (.eq rfl), rfl⟩
    · replace h := cnd_f hb6 h
      refine vSkip ?_
      change VC _ _ _ _
      iterate 2 refine vSeq ?_
      refine vRegion ?_
      iterate 2 refine oVal tt rfl rfl rfl rfl rfl trivial ?_
      obtain ⟨v5, hc7, h⟩ := bind_inv h
      refine oCall (L_toIntS_w N aD_0 v5 hc7) rfl rfl rfl rfl rfl rfl rfl rfl ⟨rfl, trivial⟩ ?_
      obtain ⟨v6, hc8, h⟩ := bind_inv h
      refine oCall (L_eqIntS_w N v3 v5 v6 hc8) rfl rfl rfl rfl rfl rfl rfl rfl ⟨(.inl ⟨rfl, rfl⟩), (.inl ⟨rfl, rfl⟩), trivial⟩ ?_
      refine oVal tt rfl rfl rfl rfl rfl trivial ?_
      refine vNil ?_
      change VC _ _ _ _
      refine vCond rfl (fun hb9 => ?_) (fun hb9 => ?_)
      · replace h := cnd_t hb9 h
        refine vSeq ?_
        refine vRegion ?_
        refine oVal tt rfl rfl rfl rfl rfl trivial ?_
        refine vNil ?_
        change VC _ _ _ _
        refine vRet ?_
        change ∃ _, _
        cases h
        exact ⟨[], _, rfl, trivial, rfl, (.eq rfl), rfl⟩
      · replace h := cnd_f hb9 h
        refine vSkip ?_
        change VC _ _ _ _
        refine vSeq ?_
        refine vRegion ?_
        refine oVal tt rfl rfl rfl rfl rfl trivial ?_
        refine vNil ?_
        change VC _ _ _ _
        refine vRet ?_
        change ∃ _, _
        cases h
        exact ⟨[], _, rfl, trivial, rfl, (.eq rfl), rfl⟩
end Go.Proofs.Ytgindcgphnbnaaa
