/- The pebble game of the program. -/
import Derived.Test.YtkpmijmlbpdknaaPq
import Derived.Test.YtkpmijmlbpdknaaG2
import Derived.Test.YtkpmijmlbpdknaaG7
import Derived.Test.YtkpmijmlbpdknaaG31
import Derived.Test.YtkpmijmlbpdknaaG33
import Derived.Test.YtkpmijmlbpdknaaG34
namespace Go.Proofs.Ytkpmijmlbpdknaa
set_option linter.unusedVariables false
set_option linter.unusedSimpArgs false
variable {n : Nat} {a b : Int} {N : Nat}
theorem mfind_app : ∀ (l : List (Int × Int)) (k v w : Int), mfind (l ++ [(k, v)]) w = match mfind l w with | some p => some p | none => if k = w then some (l.length, v) else none
  | [], k, v, w => by simp [mfind]
  | (x, y) :: l, k, v, w => by
    simp only [List.cons_append, mfind]
    by_cases h : x = w
    · simp [h]
    · rw [if_neg h, if_neg h, mfind_app l k v w]
      cases mfind l w with
      | some p => simp
      | none => simp only [Option.map_none]; split <;> simp
theorem mset_new {l : List (Int × Int)} {k v : Int} (h : mhas l k = false) : mset l k v = l ++ [(k, v)] := by
  unfold mhas at h
  unfold mset
  cases hm : mfind l k with
  | none => rfl
  | some p => rw [hm] at h; cases h
theorem mget_new {l : List (Int × Int)} {k v : Int} (h : mhas l k = false) : mget (mset l k v) k = v := by
  rw [mset_new h]
  unfold mget
  rw [mfind_app]
  unfold mhas at h
  cases hm : mfind l k with
  | none => simp
  | some p => rw [hm] at h; cases h
theorem mget_old {l : List (Int × Int)} {k v w : Int} (h : mhas l k = false) (hw : mhas l w = true) : mget (mset l k v) w = mget l w := by
  rw [mset_new h]
  unfold mget
  rw [mfind_app]
  unfold mhas at hw
  cases hm : mfind l w with
  | none => rw [hm] at hw; cases hw
  | some p => rfl
theorem mhas_set {l : List (Int × Int)} {k v w : Int} (h : mhas l k = false) : mhas (mset l k v) w = (mhas l w || k == w) := by
  rw [mset_new h]
  unfold mhas
  rw [mfind_app]
  cases hm : mfind l w with
  | none =>
    by_cases e : k = w
    · simp [e]
    · simp [e]
  | some p => simp
theorem otherI_s {e : Int × Int} {v : Int} (h : v = e.1 ∨ v = e.2) : M_Bar_other N e v = some (oth e v) := by
  unfold M_Bar_other oth
  by_cases h1 : e.1 = v
  · rw [cnd_eqt h1, ← h1]; congr 1; omega
  · rw [cnd_eqf h1]
    have := h.resolve_left (fun h => h1 h.symm)
    rw [this]; congr 1; omega
theorem copyIntsR {l : List Int} (hl : l.length ≤ 3000000) : I_copyInts N l = some l := by
  unfold I_copyInts
  rw [grd_pos (by first | omega | (simp; omega))]
  rfl
/-- what the search of the program holds -/
structure FI (n : Nat) (bars : List (Int × Int)) (p : Pbl) (a b : Int) (q : List Int) (mp : List (Int × Int)) : Prop where
  bi : BI n (p.placed.map (brI bars)) p.tails a q (mget mp)
  bz : BZ p.free a b q
  sq : ∀ v : Int, mhas mp v = decide (v ∈ q)
section
variable {bars : List (Int × Int)} {p : Pbl} (hN : 4000000 ≤ N) (hn : n ≤ 1000) (hp : PG n bars p)
include hp in
theorem PG.plAt' {i : Nat} (h : i < p.placed.length) : 0 ≤ p.placed.getD i 0 ∧ p.placed.getD i 0 < (bars.length : Int) := hp.pl _ (getD_mem h)
include hp in
theorem PG.bok' {i : Nat} (h : i < p.placed.length) : Bok n (bars.getD (p.placed.getD i 0).toNat (0, 0)) := by
  rw [← eAt h]; exact hp.inv.ok _ (getD_mem (by simpa using h))
include hp in
theorem turn_s {from' : List (Int × Int)} {q : List Int} {u x v : Int} {kk : List Int → Option (Bool × List Int × List Int × List Int)} (hb : BI n (p.placed.map (brI bars)) p.tails a q (mget (mset from' v x))) :
    ∀ (fuel j : Nat) (T' : List Int), j < q.length → j < fuel → Mv (p.placed.map (brI bars)) p.tails T' u (q.getD j 0) →
      (∀ j', 0 < j' → j' ≤ j → T'.getD (mget (mset from' v x) (q.getD j' 0)).toNat 0 = p.tails.getD (mget (mset from' v x) (q.getD j' 0)).toNat 0) →
      ∃ T'', Mv (p.placed.map (brI bars)) p.tails T'' u a ∧ I_moveTo_l3 N p a from' x v kk fuel (T', q.getD j 0) = kk T'' := by
  intro fuel
  induction fuel with
  | zero => intro j T' _ h; omega
  | succ fuel ih =>
    intro j T' hj hf hm hun
    rw [I_moveTo_l3]
    by_cases h0 : j = 0
    · subst h0
      refine ⟨T', by rw [hb.hd] at hm; exact hm, ?_⟩
      rw [cnd_nef hb.hd]
    · have hne : ¬ q.getD j 0 = a := by
        intro e
        rw [← hb.hd] at e
        have hp0 := hb.pos
        rw [List.getD_eq_getElem?_getD, List.getD_eq_getElem?_getD, List.getElem?_eq_getElem hj, List.getElem?_eq_getElem hp0] at e
        have := (List.getElem_inj hb.nd).1 e
        omega
      obtain ⟨j', i, g1, g2, g3, g4, g5, g6, g7⟩ := hb.back hp.inv (by omega) hj hm hun
      have hip : i < p.placed.length := by simpa using g2
      obtain ⟨T'', k1, k2⟩ := ih j' (T'.set i (q.getD j 0)) (by omega) (by omega) g6 g7
      refine ⟨T'', k1, ?_⟩
      have htl := hp.inv.tl
      have hml := hm.len
      simp only [List.length_map] at htl
      simp (disch := omega) only [Int.toNat_natCast, tk0, List.length_cons, List.length_nil, grd_pos, grd_T, grd_R, cnd_dt, cnd_df, cnd_true, cnd_false, Option.bind_some, cnd_net hne, g3, hml, htl, g5, k2]
theorem FI.pushB {q : List Int} {mp : List (Int × Int)} (h : FI n bars p a b q mp) {k i : Nat} {v : Int} (hk : k < q.length) (hi : i < p.placed.length) (ht : p.tails.getD i 0 = q.getD k 0) (hv : oth ((p.placed.map (brI bars)).getD i (0, 0)) (q.getD k 0) = v) (hr : 0 ≤ v ∧ v < n) (hn : v ∉ q) :
    BI n (p.placed.map (brI bars)) p.tails a (q ++ [v]) (mget (mset mp v (i : Int))) := by
  have hm : mhas mp v = false := by rw [h.sq v]; exact decide_eq_false hn
  exact h.bi.push hk (by simpa using hi) ht hv hr hn (mget_new hm) fun w hw => mget_old hm (by rw [h.sq w]; exact decide_eq_true hw)
theorem FI.push {q : List Int} {mp : List (Int × Int)} (h : FI n bars p a b q mp) {k i : Nat} {v : Int} (hk : k < q.length) (hi : i < p.placed.length) (ht : p.tails.getD i 0 = q.getD k 0) (hv : oth ((p.placed.map (brI bars)).getD i (0, 0)) (q.getD k 0) = v) (hr : 0 ≤ v ∧ v < n) (hn : v ∉ q) (hz : v = b ∨ p.free.getD v.toNat 0 = 0) :
    FI n bars p a b (q ++ [v]) (mset mp v (i : Int)) := by
  have hm : mhas mp v = false := by rw [h.sq v]; exact decide_eq_false hn
  refine ⟨h.pushB hk hi ht hv hr hn, h.bz.push hz, fun w => ?_⟩
  rw [mhas_set hm, h.sq w]
  by_cases e : v = w
  · subst e; simp
  · have e' : ¬ w = v := fun h => e h.symm
    simp [e, e']
include hN hn hp in
theorem move2_s {k : Nat} {kk : (List Int × List (Int × Int)) → Option (Bool × List Int × List Int × List Int)} (hab : a ≠ b) (hbr : 0 ≤ b ∧ b < n) :
    ∀ (fuel m : Nat) (q : List Int) (mp : List (Int × Int)), m ≤ p.placed.length → p.placed.length < fuel + m → FI n bars p a b q mp → Done (p.placed.map (brI bars)) p.tails q k m → k < q.length →
      (∃ p' : Pbl, I_moveTo_l2 N bars p a b k kk fuel (q, mp, (m : Int)) = some (true, p'.free, p'.tails, p'.placed) ∧ Won n (p.placed.map (brI bars)) p.free p'.free p'.tails a b ∧ p'.placed = p.placed) ∨
      ∃ q' mp', I_moveTo_l2 N bars p a b k kk fuel (q, mp, (m : Int)) = kk (q', mp') ∧ FI n bars p a b q' mp' ∧ Done (p.placed.map (brI bars)) p.tails q' (k + 1) 0 ∧ k < q'.length := by
  intro fuel
  induction fuel with
  | zero => intro m _ _ h1 h2; omega
  | succ fuel ih =>
    intro m q mp h1 h2 hF hD hk
    rw [I_moveTo_l2]
    have hlen : (p.placed.map (brI bars)).length = p.placed.length := by simp
    by_cases hm : m < p.placed.length
    · have htl := hp.inv.tl
      have hfr := hp.inv.fl
      rw [hlen] at htl
      have hpl := hp.plAt' hm
      have ht2 := hp.inv.tlen
      have hql := hF.bi.len
      by_cases ht : p.tails.getD m 0 = q.getD k 0
      · have hbk := hp.bok' hm
        have hen := hp.inv.en m (by rw [hlen]; exact hm)
        rw [eAt hm, ht] at hen
        have hr0 := hF.bi.rg _ (getD_mem (d := 0) hk)
        have eo := otherI_s (N := N) hen
        have hvr := oth_rg hbk hen
        generalize hv : oth (bars.getD (p.placed.getD m 0).toNat (0, 0)) (q.getD k 0) = v at hvr
        rw [hv] at eo
        have hvo : oth ((p.placed.map (brI bars)).getD m (0, 0)) (q.getD k 0) = v := by rw [eAt hm, hv]
        have hsq := hF.sq v
        by_cases hs : v ∈ q
        · have hsq : mhas mp v = true := by rw [hsq]; exact decide_eq_true hs
          simp (disch := omega) only [Int.toNat_natCast, tk0, List.length_cons, List.length_nil, grd_pos, grd_T, grd_R, cnd_dt, cnd_df, cnd_true, cnd_false, Option.bind_some, cnd_nef ht, eo, hsq, succ_cast]
          exact ih (m + 1) q mp (by omega) (by omega) hF (hD.step fun _ _ => by rw [hvo]; exact hs) hk
        · have hsq : mhas mp v = false := by rw [hsq]; exact decide_eq_false hs
          have hD' : Done (p.placed.map (brI bars)) p.tails (q ++ [v]) k (m + 1) := (hD.push hk).step fun _ _ => by rw [getD_appl hk, hvo]; simp
          by_cases hvb : v = b
          · have hF' := hF.push (i := m) hk hm ht hvo hvr hs (.inl hvb)
            simp (disch := omega) only [Int.toNat_natCast, tk0, List.length_cons, List.length_nil, grd_pos, grd_T, grd_R, cnd_dt, cnd_df, cnd_true, cnd_false, Option.bind_some, cnd_nef ht, eo, hsq, succ_cast, cnd_eqt hvb]
            exact ih (m + 1) _ _ (by omega) (by omega) hF' hD' (by simp; omega)
          · by_cases hz : p.free.getD v.toNat 0 = 0
            · have hF' := hF.push (i := m) hk hm ht hvo hvr hs (.inr hz)
              simp (disch := omega) only [Int.toNat_natCast, tk0, List.length_cons, List.length_nil, grd_pos, grd_T, grd_R, cnd_dt, cnd_df, cnd_true, cnd_false, Option.bind_some, cnd_nef ht, eo, hsq, succ_cast, cnd_eqf hvb, cnd_eqt hz]
              exact ih (m + 1) _ _ (by omega) (by omega) hF' hD' (by simp; omega)
            · left
              have n0 := hp.inv.nn v.toNat (by omega)
              have n2 := hp.inv.le2 (v := v.toNat) (by omega)
              have hb2 := hF.pushB hk hm ht hvo hvr hs
              have e1 : (q ++ [v]).getD q.length 0 = v := by rw [getD_app]; simp
              have ha : 0 ≤ a ∧ a < n := by have := hF.bi.rg _ (getD_mem (d := 0) hF.bi.pos); rwa [hF.bi.hd] at this
              have hva : v ≠ a := by
                rintro rfl
                have := getD_mem (d := (0 : Int)) hF.bi.pos
                rw [hF.bi.hd] at this
                exact hs this
              obtain ⟨T'', k1, k2⟩ := turn_s hp (N := N) (u := v)
                (kk := fun l310 => grd (p.free.length = (fMove p.free v a).length) <| grd (p.tails.length = l310.length) <| some (true, fMove p.free v a, l310, p.placed)) hb2 N q.length p.tails (by simp) (by omega) (by rw [e1]; exact Mv.start hp.inv _) (fun _ _ _ => rfl)
              rw [e1] at k2
              have b2 : 0 ≤ (p.free.set v.toNat (p.free.getD v.toNat 0 - 1)).getD a.toNat 0 ∧ (p.free.set v.toNat (p.free.getD v.toNat 0 - 1)).getD a.toNat 0 ≤ 2 := by
                rw [getD_set]
                have := hp.inv.le2 (v := a.toNat) (by omega)
                have := hp.inv.nn a.toNat (by omega)
                split <;> omega
              refine ⟨⟨fMove p.free v a, T'', p.placed⟩, ?_, k1.won hp.inv ha hvr hbr hva hvb hab (by omega), rfl⟩
              have t3 := k1.len
              simp only [fMove, List.length_set, grd_T] at k2 ⊢
              simp (disch := omega) only [Int.toNat_natCast, tk0, List.length_cons, List.length_nil, grd_pos, grd_T, grd_R, cnd_dt, cnd_df, cnd_true, cnd_false, Option.bind_some, cnd_nef ht, eo, hsq, succ_cast, cnd_eqf hvb, cnd_eqf hz, List.length_set]
              rw [k2]
              exact grd_pos t3.symm _
      · simp (disch := omega) only [Int.toNat_natCast, tk0, List.length_cons, List.length_nil, grd_pos, grd_T, grd_R, cnd_dt, cnd_df, cnd_true, cnd_false, Option.bind_some, cnd_net ht, succ_cast]
        exact ih (m + 1) q mp (by omega) (by omega) hF (hD.step fun _ e => absurd e ht) hk
    · right
      have e : m = (p.placed.map (brI bars)).length := by omega
      refine ⟨q, mp, ?_, hF, by subst e; exact hD.next, hk⟩
      simp (disch := omega) only [Int.toNat_natCast, tk0, List.length_cons, List.length_nil, grd_pos, grd_T, grd_R, cnd_dt, cnd_df, cnd_true, cnd_false, Option.bind_some]
include hN hn hp in
theorem move1_s {kk : Unit → Option (Bool × List Int × List Int × List Int)} (hab : a ≠ b) (hbr : 0 ≤ b ∧ b < n) :
    ∀ (fuel k : Nat) (q : List Int) (mp : List (Int × Int)), n < fuel + k → FI n bars p a b q mp → Done (p.placed.map (brI bars)) p.tails q k 0 → k ≤ q.length →
      (∃ p' : Pbl, I_moveTo_l1 N bars p a b kk fuel (q, mp, (k : Int)) = some (true, p'.free, p'.tails, p'.placed) ∧ Won n (p.placed.map (brI bars)) p.free p'.free p'.tails a b ∧ p'.placed = p.placed) ∨
      (I_moveTo_l1 N bars p a b kk fuel (q, mp, (k : Int)) = kk () ∧ Shut n (p.placed.map (brI bars)) p.free p.tails a b) := by
  intro fuel
  induction fuel with
  | zero => intro k q mp h1 hF hD hk; have := hF.bi.len; omega
  | succ fuel ih =>
    intro k q mp h1 hF hD hk
    have ht2 := hp.inv.tlen
    have htl := hp.inv.tl
    simp only [List.length_map] at htl
    by_cases hkq : k < q.length
    · have hql := hF.bi.len
      have key := move2_s (k := k) (kk := (fun (x : (List Int) × (List (Int × Int))) =>
          match x with
          | (l287, from288) =>
            grd (Rg64 ((k : Int) + (1 : Int))) <|
            I_moveTo_l1 N bars p a b kk fuel (l287, from288, ((k : Int) + (1 : Int))))) hN hn hp hab hbr N 0 q mp (by omega) (by omega) hF hD hkq
      rw [show ((0 : Nat) : Int) = 0 from rfl] at key
      rcases key with ⟨p', g1, g2, g3⟩ | ⟨q2, m2, g1, g2, g3, g4⟩
      · left
        refine ⟨p', ?_, g2, g3⟩
        rw [I_moveTo_l1, cnd_dt (by omega)]
        exact g1
      · have e : I_moveTo_l1 N bars p a b kk (fuel + 1) (q, mp, (k : Int)) = I_moveTo_l1 N bars p a b kk fuel (q2, m2, ((k + 1 : Nat) : Int)) := by
          rw [I_moveTo_l1, cnd_dt (by omega)]
          refine g1.trans ?_
          have := g2.bi.len
          simp (disch := omega) only [Int.toNat_natCast, tk0, List.length_cons, List.length_nil, grd_pos, grd_T, grd_R, cnd_dt, cnd_df, cnd_true, cnd_false, Option.bind_some, succ_cast]
        rw [e]
        exact ih (k + 1) q2 m2 (by omega) g2 g3 (by omega)
    · right
      refine ⟨?_, hF.bi.shut hF.bz hD (by omega)⟩
      rw [I_moveTo_l1]
      simp (disch := omega) only [Int.toNat_natCast, tk0, List.length_cons, List.length_nil, grd_pos, grd_T, grd_R, cnd_dt, cnd_df, cnd_true, cnd_false, Option.bind_some]
include hN hn hp in
theorem move_s (hb : Bok n (a, b)) :
    (∃ p' : Pbl, I_moveTo N bars p a b = some (true, p'.free, p'.tails, p'.placed) ∧ Won n (p.placed.map (brI bars)) p.free p'.free p'.tails a b ∧ p'.placed = p.placed) ∨
    (I_moveTo N bars p a b = some (false, p.free, p.tails, p.placed) ∧ Shut n (p.placed.map (brI bars)) p.free p.tails a b) := by
  obtain ⟨h1, h2, h3, h4, h5⟩ := hb
  simp only at h1 h2 h3 h4 h5
  have key := move1_s (kk := fun _ => some (false, p.free, p.tails, p.placed)) hN hn hp h5 ⟨h3, h4⟩ N 0 [a] (mset [] a (-1)) (by omega) ⟨BI.start ⟨h1, h2⟩, fun v hv h _ => absurd (by simpa using hv) h, fun v => by
    rw [mhas_set rfl]
    by_cases e : a = v
    · subst e; simp
    · have e' : ¬ v = a := fun h => e h.symm
      have : mhas [] v = false := rfl
      simp [e, e', this]⟩ Done.start (by simp)
  rw [show ((0 : Nat) : Int) = 0 from rfl] at key
  unfold I_moveTo
  exact key
end
section
variable {bars : List (Int × Int)} (hN : 4000000 ≤ N) (hn : n ≤ 1000)
include hN hn in
theorem gatherI1_s (hb : Bok n (a, b)) {kk : (List Int × List Int × List Int) → Option (Bool × List Int × List Int × List Int)} : ∀ (fuel : Nat) (p : Pbl), PG n bars p → 4 < fuel + (p.free.getD a.toNat 0 + p.free.getD b.toNat 0) →
    ∃ p' : Pbl, p'.placed = p.placed ∧ PG n bars p' ∧ ((I_gather_l1 N bars a b 4 kk fuel (p.free, p.tails, p.placed) = kk (p'.free, p'.tails, p'.placed) ∧ 4 ≤ p'.free.getD a.toNat 0 + p'.free.getD b.toNat 0) ∨
      (I_gather_l1 N bars a b 4 kk fuel (p.free, p.tails, p.placed) = some (false, p'.free, p'.tails, p'.placed) ∧ ∃ X, Tgt n (p.placed.map (brI bars)) X ∧ inX X (a, b) = true)) := by
  obtain ⟨h1, h2, h3, h4, h5⟩ := id hb
  simp only at h1 h2 h3 h4 h5
  intro fuel
  induction fuel with
  | zero =>
    intro p hp hf
    have := hp.inv.le2 (v := a.toNat) (by omega)
    have := hp.inv.le2 (v := b.toNat) (by omega)
    omega
  | succ fuel ih =>
    intro p hp hf
    have fl := hp.inv.fl
    have l1 := hp.inv.le2 (v := a.toNat) (by omega)
    have l2 := hp.inv.le2 (v := b.toNat) (by omega)
    have n1 := hp.inv.nn a.toNat (by omega)
    have n2 := hp.inv.nn b.toNat (by omega)
    rw [I_gather_l1]
    have e : (⟨p.free, p.tails, p.placed⟩ : Pbl) = p := rfl
    by_cases hs : p.free.getD a.toNat 0 + p.free.getD b.toNat 0 < 4
    · rcases move_s hN hn hp hb with ⟨p1, f1, f2, f3⟩ | ⟨f1, f2⟩
      · obtain ⟨p', g1, g2, g3⟩ := ih p1 (f2.pg hp f3) (by have := f2.symm'; omega)
        refine ⟨p', g1.trans f3, g2, ?_⟩
        rw [f3] at g3
        simp (disch := omega) only [Int.toNat_natCast, tk0, List.length_cons, List.length_nil, grd_pos, grd_T, grd_R, cnd_dt, cnd_df, cnd_true, cnd_false, Option.bind_some, e, f1, Bool.not_true]
        rw [f3]
        exact g3
      · rcases move_s hN hn hp hb.swap with ⟨p1, k1, k2, k3⟩ | ⟨k1, k2⟩
        · obtain ⟨p', g1, g2, g3⟩ := ih p1 (k2.pg hp k3) (by have := k2.symm'; omega)
          refine ⟨p', g1.trans k3, g2, ?_⟩
          rw [k3] at g3
          simp (disch := omega) only [Int.toNat_natCast, tk0, List.length_cons, List.length_nil, grd_pos, grd_T, grd_R, cnd_dt, cnd_df, cnd_true, cnd_false, Option.bind_some, e, f1, k1, Bool.not_true, Bool.not_false]
          rw [k3]
          exact g3
        · refine ⟨p, rfl, hp, .inr ⟨?_, Shut.tgt hp.inv hb f2 k2 (by omega)⟩⟩
          simp (disch := omega) only [Int.toNat_natCast, tk0, List.length_cons, List.length_nil, grd_pos, grd_T, grd_R, cnd_dt, cnd_df, cnd_true, cnd_false, Option.bind_some, e, f1, k1, Bool.not_false]
    · refine ⟨p, rfl, hp, .inl ⟨?_, by omega⟩⟩
      simp (disch := omega) only [Int.toNat_natCast, tk0, List.length_cons, List.length_nil, grd_pos, grd_T, grd_R, cnd_dt, cnd_df, cnd_true, cnd_false, Option.bind_some]
include hN hn in
theorem gatherI_s (hb : Bok n (a, b)) {p : Pbl} (hp : PG n bars p) : ∃ p' : Pbl, p'.placed = p.placed ∧ PG n bars p' ∧ ((I_gather N bars p a b 4 = some (true, p'.free, p'.tails, p'.placed) ∧ 4 ≤ p'.free.getD a.toNat 0 + p'.free.getD b.toNat 0) ∨
      (I_gather N bars p a b 4 = some (false, p'.free, p'.tails, p'.placed) ∧ ∃ X, Tgt n (p.placed.map (brI bars)) X ∧ inX X (a, b) = true)) := by
  obtain ⟨h1, h2, h3, h4, h5⟩ := id hb
  simp only at h1 h2 h3 h4 h5
  have n1 := hp.inv.nn a.toNat (by omega)
  have n2 := hp.inv.nn b.toNat (by omega)
  exact gatherI1_s hN hn hb (kk := fun x => match x with | (l11, l12, l13) => some (true, l11, l12, l13)) N p hp (by omega)
include hN hn in
theorem placeI_s {p : Pbl} {i : Nat} (hi : i < bars.length) (hbl : bars.length ≤ 1000) (hb : ∀ e ∈ bars, Bok n e) (h : Gm n bars p i) :
    (∃ p' : Pbl, I_place N bars 3 p i = some (true, p'.free, p'.tails, p'.placed) ∧ Gm n bars p' (i + 1)) ∨ ((∃ x, I_place N bars 3 p i = some (false, x)) ∧ Gm n bars p (i + 1)) := by
  have hbi := hb _ (getD_mem (d := (0, 0)) hi)
  have r1 := hbi.1
  have r2 := hbi.2.1
  have r3 := hbi.2.2.1
  have r4 := hbi.2.2.2.1
  have e : (⟨p.free, p.tails, p.placed⟩ : Pbl) = p := rfl
  have e4 : (3 : Int) + 1 = 4 := rfl
  obtain ⟨p', g1, g2, ⟨g3, g4⟩ | ⟨g3, g4⟩⟩ := gatherI_s hN hn (bars := bars) (a := (bars.getD i (0, 0)).1) (b := (bars.getD i (0, 0)).2) hbi h.pg
  · left
    have le1 := g2.inv.le2 (v := (bars.getD i (0, 0)).2.toNat) (by omega)
    have le2 := g2.inv.le2 (v := (bars.getD i (0, 0)).1.toNat) (by omega)
    have hput := h.put hi hbi g1 g2 (.inl rfl) (by omega) g4
    refine ⟨_, ?_, hput⟩
    have fl := g2.inv.fl
    have tl := g2.inv.tl
    simp only [List.length_map] at tl
    have t2 := g2.inv.tlen
    unfold I_place
    have hz : ¬ p'.free.getD (bars.getD i (0, 0)).1.toNat 0 = 0 := by omega
    simp (disch := omega) only [Int.toNat_natCast, tk0, List.length_cons, List.length_nil, grd_pos, grd_T, grd_R, cnd_dt, cnd_df, cnd_true, cnd_false, Option.bind_some, e, e4, g3, Bool.not_true, jn_def, cnd_eqf hz, List.length_set]
  · right
    refine ⟨⟨(p'.free, p'.tails, p'.placed), ?_⟩, h.skip g4⟩
    unfold I_place
    simp (disch := omega) only [Int.toNat_natCast, tk0, List.length_cons, List.length_nil, grd_pos, grd_T, grd_R, cnd_dt, cnd_df, cnd_true, cnd_false, Option.bind_some, e, e4, g3, Bool.not_false]
include hN hn in
theorem play1_s (hb : ∀ e ∈ bars, Bok n e) (hl : bars.length ≤ 1000) {kk : (List Int × List Int × List Int) → Option Pbl} : ∀ (fuel i : Nat) (p : Pbl), i ≤ bars.length → bars.length < fuel + i → Gm n bars p i →
    ∃ p' : Pbl, Gm n bars p' bars.length ∧ I_play_l1 N bars 3 kk fuel (p.free, p.tails, p.placed, (i : Int)) = kk (p'.free, p'.tails, p'.placed) := by
  intro fuel
  induction fuel with
  | zero => intro i p h1 h2; omega
  | succ fuel ih =>
    intro i p h1 h2 h
    rw [I_play_l1]
    by_cases hi : i < bars.length
    · have e : (⟨p.free, p.tails, p.placed⟩ : Pbl) = p := rfl
      have fl := h.pg.inv.fl
      have tl := h.pg.inv.tl
      simp only [List.length_map] at tl
      have t2 := h.pg.inv.tlen
      have ec : I_copyPebbles N p = some p := by
        unfold I_copyPebbles
        rw [copyIntsR (by omega), copyIntsR (by omega), copyIntsR (by omega)]
        rfl
      rcases placeI_s hN hn hi hl hb h with ⟨p', g1, g2⟩ | ⟨⟨x, g1⟩, g2⟩
      · obtain ⟨p2, k1, k2⟩ := ih (i + 1) p' (by omega) (by omega) g2
        refine ⟨p2, k1, ?_⟩
        simp (disch := omega) only [Int.toNat_natCast, tk0, List.length_cons, List.length_nil, grd_pos, grd_T, grd_R, cnd_dt, cnd_df, cnd_true, cnd_false, Option.bind_some, e, ec, g1, succ_cast]
        exact k2
      · obtain ⟨p2, k1, k2⟩ := ih (i + 1) p (by omega) (by omega) g2
        refine ⟨p2, k1, ?_⟩
        simp (disch := omega) only [Int.toNat_natCast, tk0, List.length_cons, List.length_nil, grd_pos, grd_T, grd_R, cnd_dt, cnd_df, cnd_true, cnd_false, Option.bind_some, e, ec, g1, succ_cast]
        exact k2
    · have e : i = bars.length := by omega
      subst e
      refine ⟨p, h, ?_⟩
      simp (disch := omega) only [Int.toNat_natCast, tk0, List.length_cons, List.length_nil, grd_pos, grd_T, grd_R, cnd_dt, cnd_df, cnd_true, cnd_false, Option.bind_some]
include hN hn in
theorem planeRank_s (hb : ∀ e ∈ bars, Bok n e) (hl : bars.length ≤ 1000) : ∃ I, Bas n bars I ∧ I_planeRank N n bars = some (I.length : Int) := by
  obtain ⟨p', g1, g2⟩ := play1_s hN hn hb hl (kk := fun x => match x with | (l24, l25, l26) => some (⟨l24, l25, l26⟩ : Pbl)) N 0 ⟨List.replicate n 2, [], []⟩ (by omega) (by omega) (Gm.start bars)
  refine ⟨_, g1.bas, ?_⟩
  have e : I_play N n bars 2 3 = some p' := by
    unfold I_play
    refine (fold (len := n) (st := fun i => List.replicate i (2 : Int)) (by omega) ?_ ?_)
    · intro m i hi
      rw [I_play_l2]
      simp (disch := omega) only [Int.toNat_natCast, tk0, List.length_cons, List.length_nil, grd_pos, grd_T, grd_R, cnd_dt, cnd_df, cnd_true, cnd_false, Option.bind_some, List.length_replicate, succ_cast]
      rw [List.replicate_succ']
    · intro m
      rw [I_play_l2]
      rw [cnd_df (by omega)]
      exact g2
  unfold I_planeRank
  simp (disch := omega) only [Int.toNat_natCast, tk0, List.length_cons, List.length_nil, grd_pos, grd_T, grd_R, cnd_dt, cnd_df, cnd_true, cnd_false, Option.bind_some, e, List.length_map]
end
end Go.Proofs.Ytkpmijmlbpdknaa
