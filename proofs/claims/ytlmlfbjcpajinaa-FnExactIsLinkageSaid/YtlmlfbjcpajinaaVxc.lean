/- The rules inside a region that draws its order, in general, and the region. No program in sight. -/
import Derived.Test.YtlmlfbjcpajinaaVxb
namespace Go.Proofs.Ytlmlfbjcpajinaa
open Go.RowKit Go.Deep
set_option linter.unusedSimpArgs false
set_option linter.unusedVariables false
section
variable {C : Cx} {ops : Array Oper} {TT : List (Nat × Ty)} {cr B : List Nat} {j : Nat} {o : Oper} {K : PS → Prop} {rest : List Oper} {tm : List (Nat × D)} {rw' : List (Nat × Option (TypeId × Sq))} {bx : List (Nat × Option (List D))} {s s1 : PS}
theorem AgreeN.ev (h : AgreeN ops cr B j o s s1) (x : Operand) (hx : x ∈ o.op.operands) : s1.ev x = s.ev x := by
  cases x with
  | tmp t => exact h.t t (List.mem_append_left _ (List.mem_filterMap.2 ⟨.tmp t, by simpa using hx, rfl⟩))
  | _ => rfl
def visB (ops : Array Oper) (cr B : List Nat) (j : Nat) (s : PS) (l : List Operand) : Bool := match cr with
  | [] => true
  | c :: cr' => l.all fun x => !ment (hid ops (c :: cr') B j) (hid ops (c :: cr') B j) (s.ev x)
theorem AgreeN.same (h : AgreeN ops cr B j o s s1) {l : List Operand} (hv : visB ops cr B j s l = true) : ∀ x ∈ l, Same s s1 (s.ev x) := fun x hx => by
  cases cr with
  | nil => exact ⟨fun r _ => h.r r rfl, fun r _ => h.b r rfl⟩
  | cons c cr' =>
    simp only [visB, List.all_eq_true] at hv
    have := hv x hx
    have hm : ment (hid ops (c :: cr') B j) (hid ops (c :: cr') B j) (s.ev x) = false := by simpa using this
    exact ⟨fun r hr => h.r r ((ment_hit hm).1 hr), fun r hr => h.b r ((ment_hit hm).2 hr)⟩
theorem Wanted.okN (h : Wanted C ops o s) {M : Mp} {a : Act} {w : World} (hag : AgreeN ops cr B j o s s1) (hr : Rel C.w0 C.O0 C.n M s1 a w) : Region.wanted o (yielded ops a.tmps) = true := by
  rcases h with hg | ⟨j, want, t, b, hg, hd, ht, hs, hb⟩
  · simp [Region.wanted, hg]
  · have h1 : s1.t t = .bool b := by rw [hag.t t (looksAt_guard hg hd)]; exact hs
    simp [Region.wanted, hg, yield_of hr hd h1 ht, hb]
theorem nStep {e : Ef} (hw : Wanted C ops o s) (hc : chkE ops cr B j e = true) (h : ∀ s1, AgreeN ops cr B j o s s1 → Step C o s1 (fun s' => s' = s1.ap o.dst e)) (hr : QN C ops cr B K (j + 1) rest (s.ap o.dst e)) : QN C ops cr B K j (o :: rest) s :=
  ⟨e, ⟨fun s1 M a w hag hrl => .inl ⟨hw.okN hag hrl, h s1 hag⟩⟩, hc, hr⟩
theorem nNil (h : K s) : QN C ops cr B K j [] s := h
theorem nVal (hT : TTOK C.P TT) (hi : isV o.op = true) (hw : Wanted C ops o ⟨tm, rw', bx⟩) {t : Nat} (hd : o.dst = some t) (hn : Nat.blt t C.n = true) {ob : Prop} {d : D} (hv : evalF TT ⟨tm, rw', bx⟩ o.op = some (ob, d)) (hvis : visB ops cr B j ⟨tm, rw', bx⟩ (opsL o.op) = true)
    (hc : chkE ops cr B j ⟨d, [], []⟩ = true) (hob : ob) (h : QN C ops cr B K (j + 1) rest ⟨(t, d) :: tm, rw', bx⟩) : QN C ops cr B K j (o :: rest) ⟨tm, rw', bx⟩ :=
  nStep (e := ⟨d, [], []⟩) hw hc (fun s1 hag => sVal hT (by rw [evalV_congrN (fun x hx => hag.ev x hx) (hag.same hvis)]; exact evalF_ok hv) (by rw [hd]; exact hn) hob (by rw [hd]; rfl)) (by rw [hd]; exact h)
theorem nNo {i y : Nat} {want b : Bool} (hg : o.guard = some (i, want)) (hgd : gdst ops i = some y) (hy : Nat.blt y C.n = true) (hs : (PS.t ⟨tm, rw', bx⟩ y) = .bool b) (hb : b = !want) {t : Nat} (hd : o.dst = some t) (hn : Nat.blt t C.n = true) (h : QN C ops cr B K (j + 1) rest ⟨(t, .tup []) :: tm, rw', bx⟩) : QN C ops cr B K j (o :: rest) ⟨tm, rw', bx⟩ :=
  ⟨⟨.tup [], [], []⟩, ⟨fun s1 M a w hag hr => .inr ⟨by
    have h1 : s1.t y = .bool b := by rw [hag.t y (looksAt_guard hg hgd)]; exact hs
    simp [Region.wanted, hg, yield_of hr hgd h1 hy, hb], rfl, by rw [hd]; exact hn⟩⟩, rfl, by rw [hd]; exact h⟩
theorem nNoT {i y : Nat} {b : Bool} (hg : o.guard = some (i, true)) (hgd : gdst ops i = some y) (hy : Nat.blt y C.n = true) (hs : (PS.t ⟨tm, rw', bx⟩ y) = .bool b) (hb : b = false) {t : Nat} (hd : o.dst = some t) (hn : Nat.blt t C.n = true) (h : QN C ops cr B K (j + 1) rest ⟨(t, .tup []) :: tm, rw', bx⟩) : QN C ops cr B K j (o :: rest) ⟨tm, rw', bx⟩ := nNo hg hgd hy hs hb hd hn h
theorem nNoF {i y : Nat} {b : Bool} (hg : o.guard = some (i, false)) (hgd : gdst ops i = some y) (hy : Nat.blt y C.n = true) (hs : (PS.t ⟨tm, rw', bx⟩ y) = .bool b) (hb : b = true) {t : Nat} (hd : o.dst = some t) (hn : Nat.blt t C.n = true) (h : QN C ops cr B K (j + 1) rest ⟨(t, .tup []) :: tm, rw', bx⟩) : QN C ops cr B K j (o :: rest) ⟨tm, rw', bx⟩ := nNo hg hgd hy hs hb hd hn h
theorem nNoU {i y : Nat} {want : Bool} (hg : o.guard = some (i, want)) (hgd : gdst ops i = some y) (hs : (PS.t ⟨tm, rw', bx⟩ y) = .tup []) {t : Nat} (hd : o.dst = some t) (hn : Nat.blt t C.n = true) (h : QN C ops cr B K (j + 1) rest ⟨(t, .tup []) :: tm, rw', bx⟩) : QN C ops cr B K j (o :: rest) ⟨tm, rw', bx⟩ :=
  ⟨⟨.tup [], [], []⟩, ⟨fun s1 M a w hag hr => .inr ⟨by
    have h1 := hr.tmp y
    rw [hag.t y (looksAt_guard hg hgd), hs] at h1
    obtain ⟨us, h2, h3, _⟩ := h1.tup_inv
    have h5 : (ops[i]?).bind (·.dst) = some y := by
      have hd' := hgd
      unfold gdst at hd'
      rw [Array.getElem?_toList] at hd'
      cases h : ops[i]? with
      | none => rw [h] at hd'; cases hd'
      | some o => rw [h] at hd'; exact hd'
    have hy : yielded ops a.tmps i = none := by
      simp only [yielded, h5, Option.bind_some]
      cases h6 : a.tmps[y]? with
      | none => rfl
      | some v =>
        have : v = .tuple us := by simpa [h6] using h2
        subst this; rfl
    simp [Region.wanted, hg, hy], rfl, by rw [hd]; exact hn⟩⟩, rfl, by rw [hd]; exact h⟩
theorem nPickT {c x y : Operand} {b : Bool} (hop : o.op = .pick c x y) (hw : Wanted C ops o ⟨tm, rw', bx⟩) (hc : (PS.ev ⟨tm, rw', bx⟩ c) = .bool b) {t : Nat} (hd : o.dst = some t) (hn : Nat.blt t C.n = true) {d : D} (hb : b = true) (hx : (fcD (PS.ev ⟨tm, rw', bx⟩ x) some) = some d) (hck : chkE ops cr B j ⟨d, [], []⟩ = true)
    (h : QN C ops cr B K (j + 1) rest ⟨(t, d) :: tm, rw', bx⟩) : QN C ops cr B K j (o :: rest) ⟨tm, rw', bx⟩ := by
  rw [fcD_eq] at hx
  cases hx
  refine nStep (e := ⟨_, [], []⟩) hw hck (fun s1 hag => ?_) (by rw [hd]; exact h)
  have e : ∀ z ∈ [c, x, y], s1.ev z = (PS.ev ⟨tm, rw', bx⟩ z) := fun z hz => hag.ev z (by rw [hop]; simpa [Op.operands] using hz)
  exact sPick hop (by rw [e c (by simp)]; exact hc) (by rw [hd]; exact hn) (.inl ⟨hb, (e x (by simp)).symm⟩) (by rw [hd]; rfl)
theorem nPickF {c x y : Operand} {b : Bool} (hop : o.op = .pick c x y) (hw : Wanted C ops o ⟨tm, rw', bx⟩) (hc : (PS.ev ⟨tm, rw', bx⟩ c) = .bool b) {t : Nat} (hd : o.dst = some t) (hn : Nat.blt t C.n = true) {d : D} (hb : b = false) (hx : (fcD (PS.ev ⟨tm, rw', bx⟩ y) some) = some d) (hck : chkE ops cr B j ⟨d, [], []⟩ = true)
    (h : QN C ops cr B K (j + 1) rest ⟨(t, d) :: tm, rw', bx⟩) : QN C ops cr B K j (o :: rest) ⟨tm, rw', bx⟩ := by
  rw [fcD_eq] at hx
  cases hx
  refine nStep (e := ⟨_, [], []⟩) hw hck (fun s1 hag => ?_) (by rw [hd]; exact h)
  have e : ∀ z ∈ [c, x, y], s1.ev z = (PS.ev ⟨tm, rw', bx⟩ z) := fun z hz => hag.ev z (by rw [hop]; simpa [Op.operands] using hz)
  exact sPick hop (by rw [e c (by simp)]; exact hc) (by rw [hd]; exact hn) (.inr ⟨hb, (e y (by simp)).symm⟩) (by rw [hd]; rfl)
theorem AgreeN.fits {f : FuncId} {args : Array Operand} {ts : Array TypeId} {ds : List D} (hag : AgreeN ops cr B j o s s1) (hop : o.op = .call { callee := .value (.func f), args := args, argTypes := ts }) (hvis : visB ops cr B j s args.toList = true) (hfit : fits s args.toList ds) : Ytlmlfbjcpajinaa.fits s1 args.toList ds := by
  rw [fits_congrN _ _ (fun x hx => hag.ev x (by rw [hop]; simp only [Op.operands, Call.operands]; exact Array.mem_append.2 (.inr (by simpa using hx)))) (hag.same hvis)]
  exact hfit
theorem nCall {f : FuncId} {args : Array Operand} {ts : Array TypeId} {ds : List D} {d d' : D} (hp : PCall C.P f ds [] d) (hop : o.op = .call { callee := .value (.func f), args := args, argTypes := ts }) (hw : Wanted C ops o ⟨tm, rw', bx⟩) {b : Nat} (hd : o.dst = some b) (hn : Nat.blt b C.n = true)
    (hno : (ds.all noIds) = true) (hm : noIds d = true) (hre : ren id (fun j => 0 + j) d = d) (hx : (fcD d some) = some d') (hvis : visB ops cr B j ⟨tm, rw', bx⟩ args.toList = true) (hck : chkE ops cr B j ⟨d', [], []⟩ = true) (hfit : fits ⟨tm, rw', bx⟩ args.toList ds) (h : QN C ops cr B K (j + 1) rest ⟨(b, d') :: tm, rw', bx⟩) :
    QN C ops cr B K j (o :: rest) ⟨tm, rw', bx⟩ := by
  rw [fcD_eq] at hx
  cases hx
  exact nStep (e := ⟨_, [], []⟩) hw hck (fun s1 hag => sCall0 hop hp (by rw [hd]; exact hn) (hag.fits hop hvis hfit) hno hm hre (by rw [hd]; rfl)) (by rw [hd]; exact h)
theorem fresh_sub {p b r : Nat → Bool} (h : Fresh s p p) (hb : ∀ x, b x = true → p x = true) (hr : ∀ x, r x = true → p x = true) : Fresh s b r :=
  ⟨fun x => ment_le hb hr _ (h.t x), fun x cs hx d hd => mentS_le hb hr _ (h.b x cs hx d hd)⟩
theorem nCallR {f : FuncId} {args : Array Operand} {ts : Array TypeId} {ds : List D} {rows : List (TypeId × Sq)} {d d' : D} {nr : List (Nat × Option (TypeId × Sq))} (hp : PCall C.P f ds rows d) (hop : o.op = .call { callee := .value (.func f), args := args, argTypes := ts }) (hw : Wanted C ops o ⟨tm, rw', bx⟩) {b : Nat} (hd : o.dst = some b) (hn : Nat.blt b C.n = true)
    (hno : (ds.all noIds) = true) (hm : ment (fun _ => true) (fun r => (look (nrL (rowB b) rows) r).isNone) (ren id (fun j => rowB b + j) d) = false) (hx : (fcD (ren id (fun j => rowB b + j) d) some) = some d') (hnr : nrL (rowB b) rows = nr) (hcr : cr.contains j = true) (hvis : visB ops cr B j ⟨tm, rw', bx⟩ args.toList = true)
    (hck : chkE ops cr B j ⟨d', nr, []⟩ = true) (hfit : fits ⟨tm, rw', bx⟩ args.toList ds) (h : QN C ops cr B K (j + 1) rest ⟨(b, d') :: tm, nr ++ rw', bx⟩) : QN C ops cr B K j (o :: rest) ⟨tm, rw', bx⟩ := by
  rw [fcD_eq] at hx
  cases hx
  cases hnr
  refine nStep (e := ⟨_, _, []⟩) hw hck (fun s1 hag => sCall hop hp (by rw [hd]; exact hn) (hag.fits hop hvis hfit) hno ?_ (by rw [hd]; exact hm) (by rw [hd]; rfl)) (by rw [hd]; exact h)
  rw [hd]
  refine fresh_sub (hag.fr hcr) (fun x hx => by cases hx) fun x hx => ?_
  simp only [chkE, Bool.and_eq_true, List.all_eq_true] at hck
  cases hl : look (nrL (rowB b) rows) x with
  | none => have hx' : (look (nrL (rowB b) rows) x).isSome = true := hx
            rw [hl] at hx'; cases hx'
  | some y => exact (hck.1.1 _ (look_mem hl)).2
theorem nAlloc (hT : TTOK C.P TT) (hw : Wanted C ops o ⟨tm, rw', bx⟩) {t : TypeId} {b : Nat} {y : Ty} {cs : List D} (hop : o.op = .alloc t) (hd : o.dst = some b) (hy : look TT t = some y) (hcs : (fcL (zeroD y).cells some) = some cs) (hn : Nat.blt b C.n = true) (hcr : cr.contains j = true) (hnm : nm ops j b = true)
    (hfl : (zeroD y).flat = true) (hm : (cs.all fun d => !mentS (fun y => Nat.beq y b) noB d) = true) (hck : chkE ops cr B j ⟨.ptr b 0, [], [(b, some cs)]⟩ = true) (h : QN C ops cr B K (j + 1) rest ⟨(b, .ptr b 0) :: tm, rw', (b, some cs) :: bx⟩) : QN C ops cr B K j (o :: rest) ⟨tm, rw', bx⟩ := by
  rw [fcL_eq] at hcs
  cases hcs
  exact nStep (e := ⟨.ptr b 0, [], [(b, some _)]⟩) hw hck (fun s1 hag => sAlloc hT hop hd hy hn (fresh_sub (hag.fr hcr) (fun x hx => by rw [Nat.eq_of_beq_eq_true hx]; exact hnm) (fun x hx => by cases hx)) hfl hm (by rw [hd]; rfl)) (by rw [hd]; exact h)
theorem nBox (hw : Wanted C ops o ⟨tm, rw', bx⟩) {t : TypeId} {x : Operand} {b : Nat} {d : D} {cs : List D} (hop : o.op = .box t x) (hd : o.dst = some b) (hx : (fcD (PS.ev ⟨tm, rw', bx⟩ x) some) = some d) (hfl : d.flat = true) (hcs : (fcL d.cells some) = some cs) (hn : Nat.blt b C.n = true) (hcr : cr.contains j = true) (hnm : nm ops j b = true)
    (hm : (cs.all fun d => !mentS (fun y => Nat.beq y b) noB d) = true) (hck : chkE ops cr B j ⟨.ptr b 0, [], [(b, some cs)]⟩ = true) (h : QN C ops cr B K (j + 1) rest ⟨(b, .ptr b 0) :: tm, rw', (b, some cs) :: bx⟩) : QN C ops cr B K j (o :: rest) ⟨tm, rw', bx⟩ := by
  rw [fcD_eq] at hx
  rw [fcL_eq] at hcs
  cases hx
  cases hcs
  refine nStep (e := ⟨.ptr b 0, [], [(b, some _)]⟩) hw hck (fun s1 hag => ?_) (by rw [hd]; exact h)
  have e := hag.ev x (by rw [hop]; simp [Op.operands])
  exact sBox hop hd e hfl hn (fresh_sub (hag.fr hcr) (fun x hx => by rw [Nat.eq_of_beq_eq_true hx]; exact hnm) (fun x hx => by cases hx)) hm (by rw [hd]; rfl)
theorem nBuild (hT : TTOK C.P TT) (hw : Wanted C ops o ⟨tm, rw', bx⟩) {t e : TypeId} {k q q' : Sq} {by' m b : Nat} {parts : Array (Nat × Operand)} {ds : List D} (hop : o.op = .buildSlice t m parts) (hd : o.dst = some b) (hy : look TT t = some (.sl e k by')) (hp : partsD ⟨tm, rw', bx⟩ 0 parts.toList = some ds)
    (hm : Nat.beq ds.length m = true) (hq : k.ofL ds = some q) (hbig : Nat.ble (m * k.sz) 16777216 = true) (hn : Nat.blt b C.n = true) (hcr : cr.contains j = true) (hnm : nm ops j b = true) (hq' : fcQ q some = some q') (hck : chkE ops cr B j ⟨.row b 0 m, [(b, some (e, q'))], []⟩ = true)
    (h : QN C ops cr B K (j + 1) rest ⟨(b, .row b 0 m) :: tm, (b, some (e, q')) :: rw', bx⟩) : QN C ops cr B K j (o :: rest) ⟨tm, rw', bx⟩ := by
  rw [fcQ_eq] at hq'
  cases hq'
  refine nStep (e := ⟨.row b 0 m, [(b, some (e, _))], []⟩) hw hck (fun s1 hag => ?_) (by rw [hd]; exact h)
  refine sBuildSlice hT hop hd hy ?_ hm hq hbig hn (fresh_sub (hag.fr hcr) (fun x hx => by cases hx) (fun x hx => by rw [← Nat.eq_of_beq_eq_true hx]; exact hnm)) (by rw [hd]; rfl)
  rw [partsD_congrN _ _ fun p hp => hag.ev p.2 (by rw [hop]; simp only [Op.operands]; exact List.mem_toArray.2 (List.mem_map.2 ⟨p, hp, rfl⟩))]
  exact hp
theorem nSplit {i y : Nat} {want b : Bool} (hg : o.guard = some (i, want)) (hgd : gdst ops i = some y) (hs : (PS.t ⟨tm, rw', bx⟩ y) = .bool b) (h1 : b = true → QN C ops cr B K j (o :: rest) ⟨tm, rw', bx⟩) (h2 : b = false → QN C ops cr B K j (o :: rest) ⟨tm, rw', bx⟩) : QN C ops cr B K j (o :: rest) ⟨tm, rw', bx⟩ := by
  cases b
  · exact h2 rfl
  · exact h1 rfl

theorem qn_values {nA : Nat} : ∀ (l : List Oper) (k : Nat) (s0 : PS) (us : Nat → Ef), k + l.length = nA → (∀ j : Nat, j < l.length → l[j]? = ops[k + j]?) → QN C ops cr B K k l (putE ops s0 us (fun _ => true) k) →
    ∃ es : Nat → Ef, (∀ j, j < k → es j = us j) ∧ (∀ j o, k ≤ j → j < nA → ops[j]? = some o → QE C ops cr B j o (putE ops s0 es (fun _ => true) j) (es j)) ∧ (∀ j, k ≤ j → j < nA → chkE ops cr B j (es j) = true) ∧ K (putE ops s0 es (fun _ => true) nA)
  | [], k, s0, us, hn, hl, h => ⟨us, fun _ _ => rfl, fun j o h1 h2 => absurd h2 (by simp at hn; omega), fun j h1 h2 => absurd h2 (by simp at hn; omega), by simp at hn; subst hn; exact h⟩
  | o :: rest, k, s0, us, hn, hl, h => by
    obtain ⟨v, hy, hck, hr⟩ := h
    have ho : ops[k]? = some o := by simpa using (hl 0 (by simp)).symm
    let us' : Nat → Ef := fun j => if j = k then v else us j
    have hsame : ∀ m, m ≤ k → putE ops s0 us' (fun _ => true) m = putE ops s0 us (fun _ => true) m := by
      intro m
      induction m with
      | zero => intro _; rfl
      | succ m ih => intro hm; simp only [putE, if_true]; rw [ih (by omega)]; simp only [us', show m ≠ k from by omega, if_false]
    have hnext : putE ops s0 us' (fun _ => true) (k + 1) = (putE ops s0 us (fun _ => true) k).ap o.dst v := by
      simp only [putE, if_true]; rw [hsame k (Nat.le_refl _)]; simp [us', odst, ho]
    obtain ⟨vs, h1, h2, h4, h3⟩ := qn_values (nA := nA) rest (k + 1) s0 us' (by simp at hn; omega) (fun j hj => by have := hl (j + 1) (by simp; omega); simpa [Nat.add_assoc, Nat.add_comm 1 j] using this) (by rw [hnext]; exact hr)
    have hvs : ∀ m, m ≤ k + 1 → putE ops s0 vs (fun _ => true) m = putE ops s0 us' (fun _ => true) m := by
      intro m
      induction m with
      | zero => intro _; rfl
      | succ m ih => intro hm; simp only [putE, if_true]; rw [ih (by omega), h1 m (by omega)]
    have hvk : vs k = v := by rw [h1 k (by omega)]; simp [us']
    refine ⟨vs, fun j hj => ?_, fun j o' hj hjn ho' => ?_, fun j hj hjn => ?_, h3⟩
    · rw [h1 j (by omega)]; simp only [us', show j ≠ k from by omega, if_false]
    · rcases Nat.lt_or_ge k j with hlt | hge
      · exact h2 j o' hlt hjn ho'
      · have hjk : j = k := by omega
        subst hjk
        rw [ho] at ho'; cases ho'
        rw [hvs j (by omega), hsame j (Nat.le_refl _), hvk]
        exact hy
    · rcases Nat.lt_or_ge k j with hlt | hge
      · exact h4 j hlt hjn
      · have hjk : j = k := by omega
        subst hjk
        rw [hvk]; exact hck

theorem Rel.drew {w0 : World} {O0 : Nat → Prop} {n : Nat} {M : Mp} {s : PS} {a : Act} {w : World} (hr : Rel w0 O0 n M s a w) : Rel w0 O0 n M s a { w with drawn := w.drawn + 1 } :=
  hr.later rfl rfl rfl (Nat.le_refl _) fun _ _ => rfl

/-- **A region that draws its order**: its first nA operations in the order of the text, as long as what they make is named apart; then its tail, each operation of which waits for all before it. -/
theorem vRegionN {id : Nat} {l : List Oper} {Q : Exit → PS → Prop} (nA : Nat) (cr B : List Nat) (hm : C.P.follows .mixedOrders = true) (hp : pairV .any l.toArray = true) (hb : bitsB .any l.toArray B = true) (hd : disB l.toArray cr = true) (ht : tailB l.toArray B nA = true) (hn : Nat.ble nA l.length = true)
    (hf : (cr.all fun c => frB s (nm l.toArray c) (nm l.toArray c)) = true) (h : QN C l.toArray cr B (VO C l.toArray (Q .normal) (l.drop nA)) 0 (l.take nA) s) : VC C (.region id l.toArray true) Q s := by
  refine ⟨fun M a w hr => wp_region_any hm ?_⟩
  have hn' := Nat.le_of_ble_eq_true hn
  obtain ⟨es, _, h2, h4, h3⟩ := qn_values (C := C) (ops := l.toArray) (nA := nA) (l.take nA) 0 s (fun _ => ⟨.dead, [], []⟩) (by simp; omega) (fun j hj => by
    have h1 : j < nA := by have := List.length_take_le nA l; omega
    simp [List.getElem?_take, h1]) h
  refine wpAny_part (C := C) (md := .any) (es := es) hp hb hd ht (by simpa using hn') s ⟨fun j hj => h4 j (Nat.zero_le _) hj⟩ (fun c hc => ?_) (fun j o hj ho => h2 j o (Nat.zero_le _) hj ho) (fun fuel listed M a w hsz hli hcnt hR => ?_) l.toArray.size _ M a _ (by simp) (fun j h1 h2 => ?_)
    (Nat.le_trans (List.countP_le_length) (by simp)) (fun j oj hoj hl => ?_) ?_
  · simp only [List.all_eq_true] at hf
    exact frB_ok (hf c (by simpa using hc))
  · exact wpAny_of_list hp hb ht (l.drop nA) nA (Nat.le_refl _) (fun j => by simp) fuel listed a w hsz hli hcnt (h3.out M a w _ hR fun M' s' a' w' hk hR' => ⟨s', M', hk, hR'⟩)
  · simp only [List.size_toArray] at h2
    simp [h2]
  · have := (Array.getElem?_eq_some_iff.1 hoj).1
    simp only [List.size_toArray] at this
    simp [this] at hl
  · rw [putE_congr (L' := fun _ => false) fun j hj => by have : j < l.length := by omega
                                                         simp [this]]
    have h0 : ∀ k, putE l.toArray s es (fun _ => false) k = s := by
      intro k; induction k with
      | zero => rfl
      | succ k ih => simp [putE, ih]
    rw [h0]
    exact hr.drew
end
end Go.Proofs.Ytlmlfbjcpajinaa
