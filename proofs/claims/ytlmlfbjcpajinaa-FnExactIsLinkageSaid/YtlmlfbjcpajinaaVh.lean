/- append, and a row given away to be read only. No program in sight. -/
import Derived.Test.YtlmlfbjcpajinaaVg
namespace Go.Proofs.Ytlmlfbjcpajinaa
open Go.RowKit Go.Deep
set_option linter.unusedSimpArgs false
set_option linter.unusedVariables false

theorem Sq.app_ok {q q2 q' : Sq} (h : q.app q2 = some q') : q'.len = q.len + q2.len ∧ q'.sz = q.sz ∧ q2.sz = q.sz ∧ (∀ i, i < q.len → q'.elem true i = q.elem true i) ∧ ∀ i, q.len ≤ i → q'.elem true i = q2.elem true (i - q.len) := by
  unfold Sq.app at h
  split at h <;> simp only [Option.some.injEq, reduceCtorEq] at h <;> subst h
  all_goals
    refine ⟨by simp [Sq.len], rfl, rfl, fun i hi => ?_, fun i hi => ?_⟩
    · simp only [Sq.len] at hi; simp [Sq.elem, List.getElem?_append_left hi]
    · simp only [Sq.len] at hi; simp [Sq.elem, Sq.len, List.getElem?_append_right hi]
theorem Sq.elem_take (q : Sq) (k i : Nat) (h : i < k) : (q.take k).elem true i = q.elem true i := by cases q <;> simp [Sq.take, Sq.elem, List.getElem?_take, h]
theorem Sq.elem_one (q : Sq) (i j : Nat) (d : D) (h : (q.elem true i)[j]? = some d) : d.one = true := by
  cases q <;> simp only [Sq.elem] at h <;> rcases j with _ | _ | j <;> simp at h <;> subst h <;> rfl
theorem Sq.sz_pos (q : Sq) : 0 < q.sz := by cases q <;> simp [Sq.sz]

def srcSq (s : PS) : D → Option (Prop × Sq)
  | .ro f q => match f || q.flat with | true => some (True, q) | false => none
  | .row r off m => match s.r r with | some (_, q) => some (off + m ≤ q.len, (q.take (off + m)).drop off) | none => none
  | _ => none

section
variable {P : Program} {w0 : World} {O0 : Nat → Prop} {n : Nat} {M : Mp} {s s' : PS} {a : Act} {w w' : World}

structure Src (F : Nat → Prop) (M : Mp) (w : World) (q : Sq) (v : Value) (news : List Value) : Prop where
  form : ∃ ao c, v = .slice ao q.len c ∧ (0 < q.len → ∃ b o, ao = some ⟨b, o, none⟩ ∧ ∀ j u, news[j]? = some u → w.cell? ⟨b, o + j, none⟩ = some u)
  len : news.length = q.len * q.sz
  one : ∀ u ∈ news, u.oneCell' = true
  vr : ∀ i j d, i < q.len → (q.elem true i)[j]? = some d → VR M (Ow F M) w d (news.getD (i * q.sz + j) undef)

theorem src_mk {q : Sq} {v : Value} {ao : Option Addr} {c b o : Nat} {u : Nat → Nat → Value} (hv : v = .slice ao q.len c) (hao : 0 < q.len → ao = some ⟨b, o, none⟩)
    (hu : ∀ i j d, i < q.len → (q.elem true i)[j]? = some d → w.cell? ⟨b, o + i * q.sz + j, none⟩ = some (u i j) ∧ VR M (Ow (Fs w0 O0) M) w d (u i j)) : ∃ news, Src (Fs w0 O0) M w q v news := by
  have hz := q.sz_pos
  have hsplit : ∀ x, x < q.len * q.sz → x / q.sz < q.len ∧ x % q.sz < q.sz ∧ (x / q.sz) * q.sz + x % q.sz = x := fun x hx =>
    ⟨(Nat.div_lt_iff_lt_mul hz).2 hx, Nat.mod_lt _ hz, by rw [Nat.mul_comm]; exact Nat.div_add_mod _ _⟩
  have hel : ∀ i j, j < q.sz → ∃ d, (q.elem true i)[j]? = some d := fun i j hj => ⟨_, List.getElem?_eq_getElem (by rw [Sq.elem_len]; exact hj)⟩
  refine ⟨(List.range (q.len * q.sz)).map fun x => u (x / q.sz) (x % q.sz), ⟨ao, c, hv, fun h0 => ⟨b, o, hao h0, fun j y hy => ?_⟩⟩, by simp, fun y hy => ?_, fun i j d hi hd => ?_⟩
  · rw [List.getElem?_map] at hy
    obtain ⟨j', hj', rfl⟩ := Option.map_eq_some_iff.1 hy
    obtain ⟨hj, rfl⟩ : j < q.len * q.sz ∧ j = j' := by
      obtain ⟨h1, h2⟩ := List.getElem?_eq_some_iff.1 hj'
      simp at h1 h2; exact ⟨h1, h2⟩
    obtain ⟨h1, h2, h3⟩ := hsplit j hj
    obtain ⟨d, hd⟩ := hel (j / q.sz) (j % q.sz) h2
    have := (hu _ _ d h1 hd).1
    rw [Nat.add_assoc, h3] at this; exact this
  · simp at hy
    obtain ⟨x, hx, rfl⟩ := hy
    obtain ⟨h1, h2, h3⟩ := hsplit x hx
    obtain ⟨d, hd⟩ := hel (x / q.sz) (x % q.sz) h2
    exact (hu _ _ d h1 hd).2.one (Sq.elem_one _ _ _ _ hd)
  · have hj : j < q.sz := by rw [← Sq.elem_len true q i]; exact (List.getElem?_eq_some_iff.1 hd).1
    have hlt : i * q.sz + j < q.len * q.sz := by
      have : (i + 1) * q.sz ≤ q.len * q.sz := Nat.mul_le_mul_right _ hi
      rw [Nat.add_mul, Nat.one_mul] at this; omega
    have h1 : (i * q.sz + j) / q.sz = i := by rw [Nat.mul_comm, Nat.mul_add_div hz, Nat.div_eq_of_lt hj]; omega
    have h2 : (i * q.sz + j) % q.sz = j := by rw [Nat.mul_comm, Nat.mul_add_mod, Nat.mod_eq_of_lt hj]
    simpa [hlt, h1, h2] using (hu i j d hi hd).2

theorem src_ok (h : Rel w0 O0 n M s a w) {d : D} {v : Value} (hv : VR M (Ow (Fs w0 O0) M) w d v) {ob : Prop} {q : Sq} (hs : srcSq s d = some (ob, q)) (ho : ob) : ∃ news, Src (Fs w0 O0) M w q v news := by
  cases hv with
  | ro f q0 ao cap b o u hn hc hao hu hv =>
    simp only [srcSq] at hs
    split at hs
    case h_2 => cases hs
    rename_i hf
    simp only [Option.some.injEq, Prod.mk.injEq] at hs
    obtain ⟨_, rfl⟩ := hs
    have he : ∀ i, q0.elem true i = q0.elem f i := fun i => by
      cases f
      · exact Sq.elem_flat (by simpa using hf) _ _ _
      · rfl
    exact src_mk (b := b) (o := o) (u := u) rfl (fun h0 => (hao h0).1) fun i j d hi hd => by rw [he] at hd; exact ⟨hu i j d hi hd, hv i j d hi hd⟩
  | row r off m _ g1 g2 =>
    simp only [srcSq] at hs
    split at hs
    case h_2 => cases hs
    rename_i e q0 hr
    simp only [Option.some.injEq, Prod.mk.injEq] at hs
    obtain ⟨rfl, rfl⟩ := hs
    have hlen : ((q0.take (off + m)).drop off).len = m := by rw [Sq.len_drop, Sq.len_take]; omega
    have hsz : ((q0.take (off + m)).drop off).sz = q0.sz := by rw [Sq.sz_drop, Sq.sz_take]
    have hel : ∀ i, i < m → ((q0.take (off + m)).drop off).elem true i = q0.elem true (off + i) := fun i hi => Sq.elem_sub _ _ _ _ _ (by omega)
    rcases h.row r e q0 hr with ⟨hg, h0⟩ | ⟨g, cap, cur, hg, hh, hl, hm, hcs, hc⟩
    · have := g2 _ hg
      simp only [RowV] at this
      obtain ⟨rfl, rfl, rfl⟩ := this
      exact src_mk (ao := none) (c := 0) (b := 0) (o := 0) (u := fun _ _ => undef) (by rw [hlen]) (by omega) (by intro i j d hi; omega)
    · have := g2 _ hg
      simp only [RowV] at this
      obtain ⟨h1, ao, h2, h3⟩ := this
      refine src_mk (ao := ao) (c := cap - off) (b := g) (o := off * q0.sz) (u := fun i j => cur.getD ((off + i) * q0.sz + j) undef) (by rw [h2, hlen]) (fun h0 => h3 (by omega)) fun i j d hi hd => ?_
      rw [hlen] at hi
      rw [hel i hi] at hd
      have hj : j < q0.sz := by rw [← Sq.elem_len true q0 (off + i)]; exact (List.getElem?_eq_some_iff.1 hd).1
      have hlt : (off + i) * q0.sz + j < cur.size := by
        rw [hcs]
        have h4 : (off + i + 1) * q0.sz ≤ cap * q0.sz := Nat.mul_le_mul_right _ (by omega)
        rw [Nat.add_mul, Nat.one_mul] at h4; omega
      refine ⟨?_, hc (off + i) j d (by omega) hd⟩
      rw [hsz, show off * q0.sz + i * q0.sz + j = (off + i) * q0.sz + j from by rw [Nat.add_mul], cell_of_row w g _ cur e (0, 0) hh]
      simp [hlt]
  | _ => simp [srcSq] at hs

theorem run_append_none (base : Nat) (t ty e : TypeId) (i : TypeInfo) (size c : Nat) (ht : P.underlying t = some (.slice e)) (hi : P.info? e = some i)
    (v : Value) (m : Nat) (xs : List Value) (hown : w.ownsRow base e size v m xs) :
    (Builtin.append_ #[t, t] ty #[v, .slice none 0 c]).run P w = .ok v w := by
  rcases hown.2 with ⟨rfl, rfl⟩ | ⟨g, cap, cur, rfl, _, _, hnc, _⟩
  · simp [Builtin.append_, Go.run_underlying ht, sizeOf, typeInfo, hi, Builtin.lenOf, Builtin.firstCells, go_sem]
  · simp [Builtin.append_, Go.run_underlying ht, sizeOf, typeInfo, hi, Builtin.lenOf, Builtin.firstCells, hnc, storeCells, go_sem]

/-- append onto a row of the call's own: it may be moved; other names for it are given up. -/
theorem append_ok (h : Rel w0 O0 n M s a w) {t ty e : TypeId} {k q q2 q' : Sq} {bytes r m : Nat} {v vs : Value} {news : List Value} (hT : TyOK P t (.sl e k bytes)) (hk : k.sz = q.sz) (hr : s.r r = some (e, q))
    (hv : VR M (Ow (Fs w0 O0) M) w (.row r 0 m) v) (hm : m ≤ q.len) (hsrc : Src (Fs w0 O0) M w q2 vs news) (happ : (q.take m).app q2 = some q') (hb1 : (m + q2.len) * bytes ≤ 140737488355328) (hb2 : m + q2.len ≤ maxLen) :
    ∃ v' w' M', (Builtin.append_ #[t, t] ty #[v, vs]).run P w = .ok v' w' ∧ Rel w0 O0 n M' ((s.kill r).setR r (some (e, q'))) a w' ∧ VR M' (Ow (Fs w0 O0) M') w' (.row r 0 (m + q2.len)) v' := by
  obtain ⟨hu, _, i, hi, hsz, hby, z, hz, hzc⟩ := hT
  obtain ⟨p1, p2, p3, p4, p5⟩ := Sq.app_ok happ
  rw [Sq.len_take, Nat.min_eq_left hm] at p1 p4 p5
  rw [Sq.sz_take] at p2 p3
  -- what is owned now
  have hvn : ∀ x, M.γ r = some x → RowV x 0 m v := by cases hv with | row _ _ _ _ _ h => exact h
  have own : ∃ xs, w.ownsRow 0 e q.sz v m xs ∧ (∀ i j d, i < m → (q.elem true i)[j]? = some d → VR M (Ow (Fs w0 O0) M) w d (xs.getD (i * q.sz + j) undef)) ∧ (∀ g, v.ownBlock = some g → M.owned g ∧ ∃ c z, M.γ r = some (some (g, c, z))) := by
    rcases h.row r e q hr with ⟨hg, h0⟩ | ⟨g, cap, cur, hg, hh, hl, hmx, hcs, hc⟩
    · have := hvn _ hg
      simp only [RowV] at this
      obtain ⟨rfl, rfl, _⟩ := this
      exact ⟨[], World.ownsRow_nil _ _ _ _, by intro i j d hi; omega, by simp [Value.ownBlock]⟩
    · have := hvn _ hg
      simp only [RowV] at this
      obtain ⟨h1, ao, h2, h3⟩ := this
      have h4 := h3 (.inr trivial)
      rw [Nat.zero_mul] at h4
      subst h4
      have hmc : m * q.sz ≤ cur.size := by rw [hcs]; exact Nat.mul_le_mul_right _ (by omega)
      refine ⟨cur.toList.take (m * q.sz), ⟨by simp; omega, .inr ⟨g, cap, cur, by simpa using h2, Nat.zero_le _, hh, by omega, hmx, hcs, rfl⟩⟩, fun i j d hi hd => ?_, fun g' hg' => ?_⟩
      · have hj : j < q.sz := by rw [← Sq.elem_len true q i]; exact (List.getElem?_eq_some_iff.1 hd).1
        have hlt : i * q.sz + j < m * q.sz := by
          have : (i + 1) * q.sz ≤ m * q.sz := Nat.mul_le_mul_right _ hi
          rw [Nat.add_mul, Nat.one_mul] at this; omega
        have := hc i j d (by omega) hd
        simpa [List.getElem?_take, hlt] using this
      · rw [h2] at hg'
        simp [Value.ownBlock] at hg'
        subst hg'
        exact ⟨.inr ⟨r, _, _, hg⟩, _, _, hg⟩
  obtain ⟨xs, hown, hxs, hblk⟩ := own
  obtain ⟨⟨ao, c, hvs, hao⟩, hnl, hn1, hnv⟩ := hsrc
  have hzs : z.cells.size = q.sz := by rw [hzc, ← hk]; cases k <;> rfl
  have run : ∃ v' w', (Builtin.append_ #[t, t] ty #[v, vs]).run P w = .ok v' w' ∧ w'.ownsRow 0 e q.sz v' (m + q2.len) (xs ++ news) ∧ w.grownBy w' v.ownBlock ∧
      (v' = .slice none 0 0 ↔ v = .slice none 0 0 ∧ q2.len = 0) ∧ (v'.ownBlock = v.ownBlock ∨ v'.ownBlock = some w.heap.size) := by
    rw [hvs]
    by_cases h0 : 0 < q2.len
    · obtain ⟨b, o, hab, hc⟩ := hao h0
      rw [hab]
      exact run_append_own_at w 0 t ty e i z q.sz bytes hu hi hz (hsz.trans hk) hby hzs q.sz_pos v m xs hown ⟨b, o, none⟩ q2.len c news (by rw [hnl, p3]) (fun j u hj => by rw [add_lit]; exact hc j u hj) hn1 hb2 hb1 (Nat.zero_le _)
    · have h00 : q2.len = 0 := by omega
      have hnil : news = [] := by rw [h00, Nat.zero_mul] at hnl; exact List.length_eq_zero_iff.1 hnl
      cases ao with
      | none =>
        rw [h00, hnil, List.append_nil, Nat.add_zero]
        exact ⟨v, w, run_append_none 0 t ty e i q.sz c hu hi v m xs hown, hown, ⟨rfl, rfl, rfl, Nat.le_refl _, fun _ _ _ => rfl⟩, by simp, .inl rfl⟩
      | some ad =>
        exact run_append_own_at w 0 t ty e i z q.sz bytes hu hi hz (hsz.trans hk) hby hzs q.sz_pos v m xs hown ad q2.len c news (by rw [hnl, p3]) (by rw [hnil]; simp) hn1 hb2 hb1 (Nat.zero_le _)
  obtain ⟨v', w', hrun, hown', hgrow, hiff, hat⟩ := run
  have hxl : xs.length = m * q.sz := hown.1
  -- the new place
  have place : ∃ x : Option (Nat × Nat × Nat), RowV x 0 (m + q2.len) v' ∧ v'.oneCell' = true ∧ ((x = none ∧ q'.len = 0) ∨ ∃ g cap cur, x = some (g, cap, q'.sz) ∧ v'.ownBlock = some g ∧ w'.heap[g]? = some (.cells cur e (0, 0)) ∧ q'.len ≤ cap ∧ cap ≤ maxLen ∧ cur.size = cap * q'.sz ∧
      cur.toList.take ((m + q2.len) * q.sz) = xs ++ news) := by
    rcases hown'.2 with ⟨rfl, h0⟩ | ⟨g, cap, cur, rfl, _, hg, h1, h2, h3, h4⟩
    · exact ⟨none, ⟨rfl, h0, rfl⟩, rfl, .inl ⟨rfl, by omega⟩⟩
    · exact ⟨some (g, cap, q'.sz), ⟨by omega, some ⟨g, 0, none⟩, by simp, fun _ => by simp⟩, rfl, .inr ⟨g, cap, cur, rfl, rfl, hg, by omega, h2, by rw [p2]; exact h3, h4⟩⟩
  obtain ⟨x, hx1, hx2, hx3⟩ := place
  let M' : Mp := ⟨M.β, fun y => if y = r then some x else M.γ y⟩
  have hxg : ∀ g c z, x = some (g, c, z) → v'.ownBlock = some g ∧ g < w'.heap.size := fun g c z he => by
    rcases hx3 with ⟨h1, _⟩ | ⟨g', cap, cur, h1, h2, h3, _⟩
    · rw [h1] at he; cases he
    · rw [h1] at he; cases he; exact ⟨h2, (Array.getElem?_eq_some_iff.1 h3).1⟩
  have hg2 : ∀ g, v'.ownBlock = some g → (∃ c z, M.γ r = some (some (g, c, z))) ∨ g = w.heap.size := fun g hg => by
    rcases hat with h1 | h1
    · rw [h1] at hg; exact .inl (hblk g hg).2
    · rw [h1] at hg; cases hg; exact .inr rfl
  have hown1 : ∀ k, M'.owned k → M.owned k ∨ k = w.heap.size := by
    rintro k (⟨b, hb⟩ | ⟨y, c, z, hy⟩)
    · exact .inl (.inl ⟨b, hb⟩)
    · simp only [M'] at hy
      split at hy
      · cases hy
        obtain ⟨h1, _⟩ := hxg k c z rfl
        rcases hg2 k h1 with ⟨c', z', h2⟩ | h2
        · exact .inl (.inr ⟨r, c', z', h2⟩)
        · exact .inr h2
      · exact .inl (.inr ⟨y, c, z, hy⟩)
  have hA : ∀ f b, b < w.heap.size → Ow (Fs w0 O0) M f b → Ow (Fs w0 O0) M' f b ∧ b < w'.heap.size ∧ w'.heap[b]? = w.heap[b]? := fun f b h1 h2 =>
    ⟨⟨fun h3 => by rcases hown1 b h3 with h4 | h4; exact h2.1 h4; omega, h2.2⟩, by have := hgrow.size; omega, hgrow.block b h1 (fun e => h2.1 (hblk b e.symm).1)⟩
  have hγ : ∀ y z, y ≠ r → M'.γ y = some z → M.γ y = some z := fun y z h1 h2 => by simpa [M', h1] using h2
  have hβ : ∀ b k, M'.β b = some k → M.β b = some k := fun _ _ h => h
  have hoth : ∀ k, M.owned k → (∀ c z, M.γ r ≠ some (some (k, c, z))) → w'.heap[k]? = w.heap[k]? := fun k h1 h2 =>
    hgrow.block k (h.lt k h1) (fun e => by obtain ⟨_, c, z, h3⟩ := hblk k e.symm; exact h2 c z h3)
  refine ⟨v', w', M', hrun, ⟨?_, h.dfr, h.sz, fun t => ?_, fun b cs hb => ?_, fun b hb => ?_, fun y e' p hy => ?_, fun y hy => ?_, fun k hk => ?_, h.inj1, fun y y' k c z c' z' h1 h2 => ?_, fun b y k c z h1 h2 => ?_⟩, .row _ _ _ _ hx2 fun y hy => ?_⟩
  · refine h.fr.step hgrow.os hgrow.tape hgrow.output hgrow.size fun k h1 h2 => hgrow.block k (Nat.lt_of_lt_of_le h1 h.fr.size) fun e => ?_
    rcases h.low k (hblk k e.symm).1 with h3 | h3
    · omega
    · exact h2 h3
  · have : ((s.kill r).setR r (some (e, q'))).t t = kl r (s.t t) := PS.t_kill s r t
    rw [this]; exact VR.kl hA hγ hβ (h.tmp t)
  · have hb' : (s.kill r).b b = some cs := hb
    rw [PS.b_kill] at hb'
    obtain ⟨cs0, h0, rfl⟩ := Option.map_eq_some_iff.1 hb'
    obtain ⟨k, cur, e2, a1, a2, a3, a4⟩ := h.box b cs0 h0
    refine ⟨k, cur, e2, a1, (hoth k (.inl ⟨b, a1⟩) fun c z hh => h.inj3 _ _ _ _ _ a1 hh).trans a2, by simpa using a3, fun j d hd => ?_⟩
    rw [List.getElem?_map] at hd
    obtain ⟨d0, h1, rfl⟩ := Option.map_eq_some_iff.1 hd
    exact VR.klS hA hγ hβ (a4 j d0 h1)
  · have hb' : (s.kill r).b b = none := hb
    rw [PS.b_kill] at hb'
    exact h.boxn b (by simpa using hb')
  · rw [PS.r_setR] at hy
    by_cases hyr : r = y
    · subst hyr
      rw [if_pos rfl] at hy
      cases hy
      rcases hx3 with ⟨h1, h2⟩ | ⟨g, cap, cur, h1, h2, h3, h4, h5, h6, h7⟩
      · exact .inl ⟨by simp [M', h1], h2⟩
      · refine .inr ⟨g, cap, cur, by simp [M', h1], h3, h4, h5, h6, fun i j d hi' hd => ?_⟩
        rw [p2]
        have hj : j < q.sz := by rw [← p2, ← Sq.elem_len true q' i]; exact (List.getElem?_eq_some_iff.1 hd).1
        have hlt : i * q.sz + j < (m + q2.len) * q.sz := by
          have : (i + 1) * q.sz ≤ (m + q2.len) * q.sz := Nat.mul_le_mul_right _ (by omega)
          rw [Nat.add_mul, Nat.one_mul] at this; omega
        have hget : cur.getD (i * q.sz + j) undef = (xs ++ news).getD (i * q.sz + j) undef := by
          rw [← h7]; simp [List.getElem?_take, hlt]
        rw [hget]
        by_cases him : i < m
        · rw [p4 i him, Sq.elem_take _ _ _ him] at hd
          have hlt2 : i * q.sz + j < xs.length := by
            rw [hxl]
            have : (i + 1) * q.sz ≤ m * q.sz := Nat.mul_le_mul_right _ him
            rw [Nat.add_mul, Nat.one_mul] at this; omega
          have := (hxs i j d him hd).elem_any hd hA (M' := M')
          simpa [List.getElem?_append_left hlt2] using this
        · have him' : m ≤ i := by omega
          rw [p5 i him'] at hd
          have hge : xs.length ≤ i * q.sz + j := by rw [hxl]; exact Nat.le_trans (Nat.mul_le_mul_right _ him') (Nat.le_add_right _ _)
          have hidx : i * q.sz + j - xs.length = (i - m) * q2.sz + j := by
            rw [hxl, p3, Nat.sub_mul]
            have := Nat.mul_le_mul_right q.sz him'
            omega
          have := (hnv (i - m) j d (by omega) hd).elem_any hd hA (M' := M')
          rw [← hidx] at this
          simpa [List.getElem?_append_right hge] using this
    · rw [if_neg hyr] at hy
      have hy' : s.r y = some (e', p) := hy
      rcases h.row y e' p hy' with ⟨h1, h2⟩ | ⟨g, cap, cur, h1, h2, h3, h4, h5, h6⟩
      · exact .inl ⟨by simp [M', Ne.symm hyr, h1], h2⟩
      · exact .inr ⟨g, cap, cur, by simp [M', Ne.symm hyr, h1], (hoth g (.inr ⟨y, _, _, h1⟩) fun c z hh => hyr (h.inj2 _ _ _ _ _ _ _ hh h1)).trans h2, h3, h4, h5, fun i j d hi' hd => (h6 i j d hi' hd).elem_any hd hA⟩
  · rw [PS.r_setR] at hy
    by_cases hyr : r = y
    · rw [if_pos hyr] at hy; cases hy
    · rw [if_neg hyr] at hy
      simpa [M', Ne.symm hyr] using h.rown y hy
  · rcases hown1 k hk with h1 | rfl
    · exact h.low k h1
    · exact .inl h.fr.size
  · have hno : ∀ y c z k c' z', y ≠ r → M.γ y = some (some (k, c, z)) → x = some (k, c', z') → False := fun y c z k c' z' hy h3 h4 => by
      obtain ⟨h5, _⟩ := hxg _ _ _ h4
      rcases hg2 k h5 with ⟨c2, z2, h6⟩ | rfl
      · exact hy (h.inj2 _ _ _ _ _ _ _ h3 h6)
      · have := h.lt _ (.inr ⟨y, c, z, h3⟩); omega
    simp only [M'] at h1 h2
    split at h1 <;> split at h2
    · simp_all
    · cases h1; exact (hno _ _ _ _ _ _ (by assumption) h2 rfl).elim
    · cases h2; exact (hno _ _ _ _ _ _ (by assumption) h1 rfl).elim
    · exact h.inj2 _ _ _ _ _ _ _ h1 h2
  · simp only [M'] at h2
    split at h2
    · cases h2
      obtain ⟨h5, _⟩ := hxg _ _ _ rfl
      rcases hg2 k h5 with ⟨c2, z2, h6⟩ | rfl
      · exact h.inj3 _ _ _ _ _ h1 h6
      · have := h.lt _ (.inl ⟨b, h1⟩); omega
    · exact h.inj3 _ _ _ _ _ h1 h2
  · have : x = y := by simpa [M'] using hy
    subst this; exact hx1
end
end Go.Proofs.Ytlmlfbjcpajinaa
