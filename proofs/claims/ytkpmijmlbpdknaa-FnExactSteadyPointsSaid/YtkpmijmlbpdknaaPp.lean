/- The pebble game of the spec. -/
import Derived.Test.YtkpmijmlbpdknaaPm
import Derived.Test.YtkpmijmlbpdknaaPc
import Derived.Test.YtkpmijmlbpdknaaG32
import Derived.Test.YtkpmijmlbpdknaaG34
import Derived.Test.YtkpmijmlbpdknaaG35
namespace Go.Proofs.Ytkpmijmlbpdknaa
set_option linter.unusedVariables false
set_option linter.unusedSimpArgs false
variable {n : Nat} {f T : List Int} {a b : Int}
abbrev brI (bars : List (Int × Int)) (i : Int) : Int × Int := bars.getD i.toNat (0, 0)
/-- a state of the game on bars -/
structure PG (n : Nat) (bars : List (Int × Int)) (p : Pbl) : Prop where
  inv : PInv n (p.placed.map (brI bars)) p.free p.tails
  pl : ∀ i ∈ p.placed, 0 ≤ i ∧ i < (bars.length : Int)
theorem fsum_nn {n : Nat} {X : VS} {f : List Int} (nn : ∀ v : Nat, v < n → 0 ≤ f.getD v 0) : ∀ m, m ≤ n → 0 ≤ fsum X f m
  | 0, _ => by simp [fsum]
  | m + 1, hm => by
    have ih := fsum_nn (X := X) nn m (by omega)
    have := nn m (by omega)
    rw [fsum]; split <;> omega
theorem PInv.tlen {E : List (Int × Int)} (h : PInv n E f T) : T.length ≤ 2 * n := by
  have h1 := h.sum fun _ => true
  have h2 := fsum_nn (X := fun _ => true) h.nn n (Nat.le_refl _)
  have h3 : T.countP (fun _ => true) = T.length := by simp
  have h4 : vsz n (fun _ => true) = n := by simp [vsz]
  rw [h3, h4] at h1
  omega
theorem eAt {bars : List (Int × Int)} {pl : List Int} {i : Nat} (h : i < pl.length) : (pl.map (brI bars)).getD i (0, 0) = bars.getD (pl.getD i 0).toNat (0, 0) := by
  simp [List.getD_eq_getElem?_getD, List.getElem?_eq_getElem h]
section
variable {g : Grf} {p : Pbl} {N : Nat} (hN : 4000000 ≤ N) (hn : n ≤ 1000) (hg : g.n = n) (hp : PG n g.bars p)
include hp in
theorem PG.plAt {i : Nat} (h : i < p.placed.length) : 0 ≤ p.placed.getD i 0 ∧ p.placed.getD i 0 < (g.bars.length : Int) := hp.pl _ (getD_mem h)
include hp in
theorem PG.bok {i : Nat} (h : i < p.placed.length) : Bok n (g.bars.getD (p.placed.getD i 0).toNat (0, 0)) := by
  rw [← eAt h]; exact hp.inv.ok _ (getD_mem (by simpa using h))
theorem other_s {n : Nat} (hn : n ≤ 1000) {e : Int × Int} (he : Bok n e) {v : Int} (hv : 0 ≤ v ∧ v < n) : S_l4Other N e v = some (oth e v) := by
  obtain ⟨h1, h2, h3, h4, _⟩ := he
  unfold S_l4Other
  rw [grd_R (by omega) (by omega), grd_R (by omega) (by omega)]; rfl
include hn hp in
theorem shift_s {from' : List Int} {q : List Int} {u : Int} {v1 : Pbl} {kk : List Int → Option Pbl} (hfl : from'.length = n) (hb : BI n (p.placed.map (brI g.bars)) p.tails a q (fun v => from'.getD v.toNat 0)) (hv1 : v1.tails.length = p.tails.length) :
    ∀ (fuel j : Nat) (T' : List Int), j < q.length → j < fuel → Mv (p.placed.map (brI g.bars)) p.tails T' u (q.getD j 0) →
      (∀ j', 0 < j' → j' ≤ j → T'.getD (from'.getD (q.getD j' 0).toNat 0).toNat 0 = p.tails.getD (from'.getD (q.getD j' 0).toNat 0).toNat 0) →
      ∃ T'', Mv (p.placed.map (brI g.bars)) p.tails T'' u a ∧ S_l4Shift_l1 N g p from' a v1 kk fuel (T', q.getD j 0) = kk T'' := by
  intro fuel
  induction fuel with
  | zero => intro j T' _ h; omega
  | succ fuel ih =>
    intro j T' hj hf hm hun
    rw [S_l4Shift_l1]
    by_cases h0 : j = 0
    · subst h0
      refine ⟨T', by rw [hb.hd] at hm; exact hm, ?_⟩
      rw [cnd_nef hb.hd]
    · have hne : ¬ q.getD j 0 = a := by
        intro e
        rw [← hb.hd] at e
        have hp0 := hb.pos
        rw [List.getD_eq_getElem?_getD, List.getD_eq_getElem?_getD, List.getElem?_eq_getElem hj, List.getElem?_eq_getElem hp0] at e
        have := (List.getElem_inj hb.nd).1 e
        omega
      obtain ⟨j', i, g1, g2, g3, g4, g5, g6, g7⟩ := hb.back hp.inv (by omega) hj hm hun
      have hip : i < p.placed.length := by simpa using g2
      obtain ⟨T'', k1, k2⟩ := ih j' (T'.set i (q.getD j 0)) (by omega) (by omega) g6 g7
      refine ⟨T'', k1, ?_⟩
      have hr := hb.rg _ (getD_mem (d := 0) hj)
      have hpl := hp.plAt hip
      have htl := hp.inv.tl
      have hml := hm.len
      have eo := other_s (N := N) hn (hp.bok hip) hr
      rw [← eAt hip, g4] at eo
      rw [eAt hip] at eo
      simp only [List.length_map] at htl
      simp (disch := omega) only [Int.toNat_natCast, tk0, List.length_cons, List.length_nil, grd_pos, grd_T, grd_R, cnd_dt, cnd_df, cnd_true, cnd_false, Option.bind_some, cnd_net hne, g3, eo, hfl, hv1, hml, htl, k2]
include hN hn hp in
theorem shiftS_s {from' : List Int} {q : List Int} {j : Nat} (hfl : from'.length = n) (hb : BI n (p.placed.map (brI g.bars)) p.tails a q (fun v => from'.getD v.toNat 0)) (hj : j < q.length) (hj0 : 0 < j) (hbr : 0 ≤ b ∧ b < n) (hub : q.getD j 0 ≠ b) (hab : a ≠ b) (hf : 1 ≤ p.free.getD (q.getD j 0).toNat 0) :
    ∃ p' : Pbl, S_l4Shift N g p from' a (q.getD j 0) = some p' ∧ Won n (p.placed.map (brI g.bars)) p.free p'.free p'.tails a b ∧ p'.placed = p.placed := by
  have hu := hb.rg _ (getD_mem (d := 0) hj)
  have ha : 0 ≤ a ∧ a < n := by have := hb.rg _ (getD_mem (d := 0) hb.pos); rwa [hb.hd] at this
  have hua : q.getD j 0 ≠ a := by
    intro e
    rw [← hb.hd] at e
    have hp0 := hb.pos
    rw [List.getD_eq_getElem?_getD, List.getD_eq_getElem?_getD, List.getElem?_eq_getElem hj, List.getElem?_eq_getElem hp0] at e
    have := (List.getElem_inj hb.nd).1 e
    omega
  have hle := hb.len
  obtain ⟨T'', k1, k2⟩ := shift_s hn hp (N := N) (v1 := ⟨[] ++ p.free, [] ++ p.tails, [] ++ p.placed⟩) (u := q.getD j 0)
    (kk := fun l7 => grd (p.free.length = (fMove p.free (q.getD j 0) a).length) <| grd (p.tails.length = l7.length) <| some ⟨fMove p.free (q.getD j 0) a, l7, p.placed⟩) hfl hb (by simp) N j p.tails hj (by omega) (Mv.start hp.inv _) (fun _ _ _ => rfl)
  refine ⟨⟨fMove p.free (q.getD j 0) a, T'', p.placed⟩, ?_, k1.won hp.inv ha hu hbr hua hub hab hf, rfl⟩
  have f1 := hp.inv.fl
  have t1 := hp.inv.tl
  have t2 := hp.inv.tlen
  have t3 := k1.len
  simp only [List.length_map] at t1
  have b1 : p.free.getD (q.getD j 0).toNat 0 ≤ 2 := hp.inv.le2 (by omega)
  have b2 : 0 ≤ (p.free.set (q.getD j 0).toNat (p.free.getD (q.getD j 0).toNat 0 - 1)).getD a.toNat 0 ∧ (p.free.set (q.getD j 0).toNat (p.free.getD (q.getD j 0).toNat 0 - 1)).getD a.toNat 0 ≤ 2 := by
    rw [getD_set]
    have := hp.inv.le2 (v := a.toNat) (by omega)
    have := hp.inv.nn a.toNat (by omega)
    split <;> omega
  unfold S_l4Shift S_l4Copy
  simp (disch := omega) only [Int.toNat_natCast, tk0, List.length_cons, List.length_nil, grd_pos, grd_T, grd_R, cnd_dt, cnd_df, cnd_true, cnd_false, Option.bind_some, List.nil_append, List.length_set]
  simp only [List.nil_append] at k2
  simp only [fMove, List.length_set, grd_T] at k2 ⊢
  rw [k2]
  exact grd_pos t3.symm _
/-- what the search of the spec holds -/
structure FSt (n : Nat) (bars : List (Int × Int)) (p : Pbl) (a b : Int) (from' q : List Int) (seen : List Bool) : Prop where
  bi : BI n (p.placed.map (brI bars)) p.tails a q (fun v => from'.getD v.toNat 0)
  bz : BZ p.free a b q
  fl : from'.length = n
  sl : seen.length = n
  sq : ∀ v : Int, 0 ≤ v → v < n → seen.getD v.toNat false = decide (v ∈ q)
theorem oth_rg {e : Int × Int} (he : Bok n e) {v : Int} (h : v = e.1 ∨ v = e.2) : 0 ≤ oth e v ∧ oth e v < n := by
  obtain ⟨h1, h2, h3, h4, _⟩ := he
  unfold oth
  rcases h with rfl | rfl <;> omega
theorem FSt.pushB {bars : List (Int × Int)} {from' q : List Int} {seen : List Bool} (h : FSt n bars p a b from' q seen) {k i : Nat} {v : Int} (hk : k < q.length) (hi : i < p.placed.length) (ht : p.tails.getD i 0 = q.getD k 0) (hv : oth ((p.placed.map (brI bars)).getD i (0, 0)) (q.getD k 0) = v) (hr : 0 ≤ v ∧ v < n) (hn : v ∉ q) :
    BI n (p.placed.map (brI bars)) p.tails a (q ++ [v]) (fun w => (from'.set v.toNat (i : Int)).getD w.toNat 0) := by
  have hfl := h.fl
  refine h.bi.push (fr' := fun w => (from'.set v.toNat i).getD w.toNat 0) hk (by simpa using hi) ht hv hr hn ?_ fun w hw => ?_
  · show (from'.set v.toNat i).getD v.toNat 0 = i
    rw [getD_set, if_pos ⟨rfl, by omega⟩]
  · show (from'.set v.toNat i).getD w.toNat 0 = from'.getD w.toNat 0
    have := h.bi.rg w hw
    have hne : w ≠ v := fun e => hn (e ▸ hw)
    rw [getD_set, if_neg (by omega)]
theorem FSt.push {bars : List (Int × Int)} {from' q : List Int} {seen : List Bool} (h : FSt n bars p a b from' q seen) {k i : Nat} {v : Int} (hk : k < q.length) (hi : i < p.placed.length) (ht : p.tails.getD i 0 = q.getD k 0) (hv : oth ((p.placed.map (brI bars)).getD i (0, 0)) (q.getD k 0) = v) (hr : 0 ≤ v ∧ v < n) (hn : v ∉ q) (hz : v = b ∨ p.free.getD v.toNat 0 = 0) :
    FSt n bars p a b (from'.set v.toNat i) (q ++ [v]) (seen.set v.toNat true) := by
  have hfl := h.fl
  have hsl := h.sl
  refine ⟨h.pushB hk hi ht hv hr hn, h.bz.push hz, by simp [hfl], by simp [hsl], fun w h1 h2 => ?_⟩
  rw [getD_set]
  by_cases e : w = v
  · subst e
    rw [if_pos ⟨rfl, by omega⟩]; simp
  · rw [if_neg (by omega), h.sq w h1 h2]
    simp [e]
include hN hn hg hp in
theorem find2_s {l106 : List Int} {kk : (List Int × List Int × List Bool) → Option (Pbl × Bool)} {k : Nat} (hab : a ≠ b) (hbr : 0 ≤ b ∧ b < n) :
    ∀ (fuel m : Nat) (from' q : List Int) (seen : List Bool), m ≤ p.placed.length → p.placed.length < fuel + m → FSt n g.bars p a b from' q seen → Done (p.placed.map (brI g.bars)) p.tails q k m → k < q.length → q.getD k 0 = l106.getD k 0 →
      (∃ p' : Pbl, S_l4Find_l2 N g p a b l106 k kk fuel (from', q, seen, (m : Int)) = some (p', true) ∧ Won n (p.placed.map (brI g.bars)) p.free p'.free p'.tails a b ∧ p'.placed = p.placed) ∨
      ∃ from'' q' seen', S_l4Find_l2 N g p a b l106 k kk fuel (from', q, seen, (m : Int)) = kk (from'', q', seen') ∧ FSt n g.bars p a b from'' q' seen' ∧ Done (p.placed.map (brI g.bars)) p.tails q' (k + 1) 0 ∧ k < q'.length := by
  intro fuel
  induction fuel with
  | zero => intro m _ _ _ h1 h2; omega
  | succ fuel ih =>
    intro m from' q seen h1 h2 hF hD hk hq
    rw [S_l4Find_l2]
    have hlen : (p.placed.map (brI g.bars)).length = p.placed.length := by simp
    by_cases hm : m < p.placed.length
    · have htl := hp.inv.tl
      have hfr := hp.inv.fl
      have hfl := hF.fl
      have hsl := hF.sl
      rw [hlen] at htl
      have hpl := hp.plAt hm
      have ht2 := hp.inv.tlen
      by_cases ht : p.tails.getD m 0 = q.getD k 0
      · have hbk := hp.bok hm
        have hen := hp.inv.en m (by rw [hlen]; exact hm)
        rw [eAt hm] at hen
        rw [ht] at hen
        have hr0 := hF.bi.rg _ (getD_mem (d := 0) hk)
        have eo := other_s (N := N) hn hbk hr0
        have hvr := oth_rg hbk hen
        have ht' : p.tails.getD m 0 = l106.getD k 0 := ht.trans hq
        rw [hq] at eo
        generalize hv : oth (g.bars.getD (p.placed.getD m 0).toNat (0, 0)) (q.getD k 0) = v at hvr
        rw [← hq, hv] at eo
        rw [hq] at eo
        have hvo : oth ((p.placed.map (brI g.bars)).getD m (0, 0)) (q.getD k 0) = v := by rw [eAt hm, hv]
        have hsq := hF.sq v hvr.1 hvr.2
        by_cases hs : v ∈ q
        · have hsq : seen.getD v.toNat false = true := by rw [hsq]; exact decide_eq_true hs
          simp (disch := omega) only [Int.toNat_natCast, tk0, List.length_cons, List.length_nil, grd_pos, grd_T, grd_R, cnd_dt, cnd_df, cnd_true, cnd_false, Option.bind_some, cnd_nef ht', eo, hsq, hg, List.length_replicate, succ_cast]
          exact ih (m + 1) from' q seen (by omega) (by omega) hF (hD.step fun _ _ => by rw [hvo]; exact hs) hk hq
        · have hsq : seen.getD v.toNat false = false := by rw [hsq]; exact decide_eq_false hs
          have hD' : Done (p.placed.map (brI g.bars)) p.tails (q ++ [v]) k (m + 1) := (hD.push hk).step fun _ _ => by rw [getD_appl hk, hvo]; simp
          have hql := hF.bi.len
          by_cases hvb : v = b
          · have hF' := hF.push (i := m) hk hm ht hvo hvr hs (.inl hvb)
            simp (disch := omega) only [Int.toNat_natCast, tk0, List.length_cons, List.length_nil, grd_pos, grd_T, grd_R, cnd_dt, cnd_df, cnd_true, cnd_false, Option.bind_some, cnd_nef ht', eo, hsq, hg, List.length_replicate, succ_cast, cnd_nef hvb]
            exact ih (m + 1) _ _ _ (by omega) (by omega) hF' hD' (by simp; omega) (by rw [getD_appl hk]; exact hq)
          · by_cases hz : p.free.getD v.toNat 0 > 0
            · left
              have hb2 : BI n (p.placed.map (brI g.bars)) p.tails a (q ++ [v]) (fun w => (from'.set v.toNat (m : Int)).getD w.toNat 0) := hF.pushB hk hm ht hvo hvr hs
              have e1 : (q ++ [v]).getD q.length 0 = v := by rw [getD_app]; simp
              obtain ⟨p', s1, s2, s3⟩ := shiftS_s hN hn hp (from' := from'.set v.toNat (m : Int)) (q := q ++ [v]) (j := q.length) (a := a) (b := b) (by simp [hfl]) hb2 (by simp) (by have := hF.bi.pos; omega) hbr (by rw [e1]; exact hvb) hab (by rw [e1]; omega)
              rw [e1] at s1
              refine ⟨p', ?_, s2, s3⟩
              simp (disch := omega) only [Int.toNat_natCast, tk0, List.length_cons, List.length_nil, grd_pos, grd_T, grd_R, cnd_dt, cnd_df, cnd_true, cnd_false, Option.bind_some, cnd_nef ht', eo, hsq, hg, List.length_replicate, List.length_set, succ_cast, cnd_net hvb, s1]
            · have hz0 : p.free.getD v.toNat 0 = 0 := by have := hp.inv.nn v.toNat (by omega); omega
              have hF' := hF.push (i := m) hk hm ht hvo hvr hs (.inr hz0)
              simp (disch := omega) only [Int.toNat_natCast, tk0, List.length_cons, List.length_nil, grd_pos, grd_T, grd_R, cnd_dt, cnd_df, cnd_true, cnd_false, Option.bind_some, cnd_nef ht', eo, hsq, hg, List.length_replicate, succ_cast, cnd_net hvb]
              exact ih (m + 1) _ _ _ (by omega) (by omega) hF' hD' (by simp; omega) (by rw [getD_appl hk]; exact hq)
      · have ht' : ¬ p.tails.getD m 0 = l106.getD k 0 := by rw [← hq]; exact ht
        simp (disch := omega) only [Int.toNat_natCast, tk0, List.length_cons, List.length_nil, grd_pos, grd_T, grd_R, cnd_dt, cnd_df, cnd_true, cnd_false, Option.bind_some, cnd_net ht', succ_cast]
        exact ih (m + 1) from' q seen (by omega) (by omega) hF (hD.step fun _ e => absurd e ht) hk hq
    · right
      have e : m = (p.placed.map (brI g.bars)).length := by omega
      refine ⟨from', q, seen, ?_, hF, by subst e; exact hD.next, hk⟩
      simp (disch := omega) only [Int.toNat_natCast, tk0, List.length_cons, List.length_nil, grd_pos, grd_T, grd_R, cnd_dt, cnd_df, cnd_true, cnd_false, Option.bind_some]
include hN hn hg hp in
theorem find1_s {kk : Unit → Option (Pbl × Bool)} (hab : a ≠ b) (hbr : 0 ≤ b ∧ b < n) :
    ∀ (fuel k : Nat) (from' q : List Int) (seen : List Bool), n < fuel + k → FSt n g.bars p a b from' q seen → Done (p.placed.map (brI g.bars)) p.tails q k 0 → k ≤ q.length →
      (∃ p' : Pbl, S_l4Find_l1 N g p a b kk fuel (from', q, seen, (k : Int)) = some (p', true) ∧ Won n (p.placed.map (brI g.bars)) p.free p'.free p'.tails a b ∧ p'.placed = p.placed) ∨
      (S_l4Find_l1 N g p a b kk fuel (from', q, seen, (k : Int)) = kk () ∧ Shut n (p.placed.map (brI g.bars)) p.free p.tails a b) := by
  intro fuel
  induction fuel with
  | zero => intro k from' q seen h1 hF hD hk; have := hF.bi.len; omega
  | succ fuel ih =>
    intro k from' q seen h1 hF hD hk
    rw [S_l4Find_l1]
    have ht2 := hp.inv.tlen
    have htl := hp.inv.tl
    simp only [List.length_map] at htl
    by_cases hkq : k < q.length
    · have hql := hF.bi.len
      have key := find2_s (l106 := q) (kk := (fun (x : (List Int) × (List Int) × (List Bool)) =>
          match x with
          | (l143, l144, l145) =>
            grd (Rg64 ((k : Int) + (1 : Int))) <|
            S_l4Find_l1 N g p a b kk fuel (l143, l144, l145, ((k : Int) + (1 : Int))))) hN hn hg hp hab hbr N 0 from' q seen (by omega) (by omega) hF hD hkq rfl
      rw [show ((0 : Nat) : Int) = 0 from rfl] at key
      rcases key with ⟨p', g1, g2, g3⟩ | ⟨f2, q2, s2, g1, g2, g3, g4⟩
      · left
        refine ⟨p', ?_, g2, g3⟩
        rw [cnd_dt (by omega), grd_pos (by omega)]
        exact g1
      · have e : S_l4Find_l1 N g p a b kk (fuel + 1) (from', q, seen, (k : Int)) = S_l4Find_l1 N g p a b kk fuel (f2, q2, s2, ((k + 1 : Nat) : Int)) := by
          rw [S_l4Find_l1]
          rw [cnd_dt (by omega), grd_pos (by omega)]
          refine g1.trans ?_
          have := g2.bi.len
          simp (disch := omega) only [Int.toNat_natCast, tk0, List.length_cons, List.length_nil, grd_pos, grd_T, grd_R, cnd_dt, cnd_df, cnd_true, cnd_false, Option.bind_some, succ_cast]
        rw [S_l4Find_l1] at e
        rw [e]
        exact ih (k + 1) f2 q2 s2 (by omega) g2 g3 (by omega)
    · right
      refine ⟨?_, hF.bi.shut hF.bz hD (by omega)⟩
      simp (disch := omega) only [Int.toNat_natCast, tk0, List.length_cons, List.length_nil, grd_pos, grd_T, grd_R, cnd_dt, cnd_df, cnd_true, cnd_false, Option.bind_some]
theorem find3_s {kk : List Int → Option (Pbl × Bool)} (hN : 4000000 ≤ N) (hn : n ≤ 1000) (hg : g.n = n) : ∀ (fuel i : Nat) (l : List Int), n < fuel + i → i ≤ n → l.length = n → ∃ l' : List Int, l'.length = n ∧ S_l4Find_l3 N g kk fuel (l, (i : Int)) = kk l' := by
  intro fuel
  induction fuel with
  | zero => intro i l h1 h2 h3; omega
  | succ fuel ih =>
    intro i l h1 h2 h3
    rw [S_l4Find_l3]
    by_cases hi : i < n
    · obtain ⟨l', g1, g2⟩ := ih (i + 1) (l.set i (-1)) (by omega) (by omega) (by simp [h3])
      refine ⟨l', g1, ?_⟩
      simp (disch := omega) only [Int.toNat_natCast, tk0, List.length_cons, List.length_nil, grd_pos, grd_T, grd_R, cnd_dt, cnd_df, cnd_true, cnd_false, Option.bind_some, hg, List.length_replicate, succ_cast]
      exact g2
    · refine ⟨l, h3, ?_⟩
      simp (disch := omega) only [Int.toNat_natCast, tk0, List.length_cons, List.length_nil, grd_pos, grd_T, grd_R, cnd_dt, cnd_df, cnd_true, cnd_false, Option.bind_some, hg]
include hN hn hg hp in
theorem find_s (hb : Bok n (a, b)) :
    (∃ p' : Pbl, S_l4Find N g p a b = some (p', true) ∧ Won n (p.placed.map (brI g.bars)) p.free p'.free p'.tails a b ∧ p'.placed = p.placed) ∨
    (S_l4Find N g p a b = some (p, false) ∧ Shut n (p.placed.map (brI g.bars)) p.free p.tails a b) := by
  obtain ⟨h1, h2, h3, h4, h5⟩ := hb
  simp only at h1 h2 h3 h4 h5
  have e : ∃ l : List Int, l.length = n ∧ S_l4Find N g p a b = S_l4Find_l1 N g p a b (fun _ => some (p, false)) N (l, [a], (List.replicate n false).set a.toNat true, ((0 : Nat) : Int)) := by
    obtain ⟨l, g1, g2⟩ := find3_s (N := N) (kk := fun (l3 : List Int) =>
        grd (0 ≤ a ∧ a < ((List.replicate ((g.n).toNat) (false : Bool)).length : Int)) <|
        S_l4Find_l1 N g p a b (fun (_ : Unit) => some ((⟨p.free, p.tails, p.placed⟩ : Pbl), false)) N (l3, ([a] : List Int), ((List.replicate ((g.n).toNat) (false : Bool)).set ((a).toNat) true), (0 : Int))) hN hn hg N 0 (List.replicate n 0) (by omega) (by omega) (by simp)
    refine ⟨l, g1, ?_⟩
    unfold S_l4Find
    rw [grd_pos (by omega)]
    simp only [hg, Int.toNat_natCast] at g2 ⊢
    refine g2.trans ?_
    simp (disch := omega) only [Int.toNat_natCast, tk0, List.length_cons, List.length_nil, grd_pos, grd_T, grd_R, cnd_dt, cnd_df, cnd_true, cnd_false, Option.bind_some, List.length_replicate]
    rfl
  obtain ⟨l, hl, e⟩ := e
  rw [e]
  refine find1_s (kk := fun _ => some (p, false)) hN hn hg hp h5 ⟨h3, h4⟩ N 0 l [a] _ (by omega) ⟨BI.start ⟨h1, h2⟩, fun v hv h _ => absurd (by simpa using hv) h, hl, by simp, fun v g1 g2 => ?_⟩ Done.start (by simp)
  rw [getD_set]
  by_cases e : v = a
  · subst e
    rw [if_pos ⟨rfl, by simp; omega⟩]; simp
  · rw [if_neg (by omega)]
    simp [e, List.getD_eq_getElem?_getD, List.getElem?_replicate]
    split <;> rfl
end
section
variable {g : Grf} {N : Nat} (hN : 4000000 ≤ N) (hn : n ≤ 1000) (hg : g.n = n)
theorem Won.pg {bars : List (Int × Int)} {p p' : Pbl} (hp : PG n bars p) (h : Won n (p.placed.map (brI bars)) p.free p'.free p'.tails a b) (he : p'.placed = p.placed) : PG n bars p' := ⟨by rw [he]; exact h.inv, by rw [he]; exact hp.pl⟩
theorem Won.symm' {E : List (Int × Int)} {f f' T' : List Int} (h : Won n E f f' T' a b) : f'.getD a.toNat 0 + f'.getD b.toNat 0 = f.getD a.toNat 0 + f.getD b.toNat 0 + 1 := by rw [h.up, h.keep]; omega
theorem Bok.swap (h : Bok n (a, b)) : Bok n (b, a) := ⟨h.2.2.1, h.2.2.2.1, h.1, h.2.1, h.2.2.2.2.symm⟩
include hN hn hg in
theorem gather1_s (hb : Bok n (a, b)) {kk : (List Int × List Int × List Int) → Option (Pbl × Bool)} : ∀ (fuel : Nat) (p : Pbl), PG n g.bars p → 4 < fuel + (p.free.getD a.toNat 0 + p.free.getD b.toNat 0) →
    ∃ p' : Pbl, p'.placed = p.placed ∧ PG n g.bars p' ∧ ((S_l4Gather_l1 N g a b 4 kk fuel (p.free, p.tails, p.placed) = kk (p'.free, p'.tails, p'.placed) ∧ 4 ≤ p'.free.getD a.toNat 0 + p'.free.getD b.toNat 0) ∨
      (S_l4Gather_l1 N g a b 4 kk fuel (p.free, p.tails, p.placed) = some (p', false) ∧ ∃ X, Tgt n (p.placed.map (brI g.bars)) X ∧ inX X (a, b) = true)) := by
  obtain ⟨h1, h2, h3, h4, h5⟩ := id hb
  simp only at h1 h2 h3 h4 h5
  intro fuel
  induction fuel with
  | zero =>
    intro p hp hf
    have := hp.inv.le2 (v := a.toNat) (by omega)
    have := hp.inv.le2 (v := b.toNat) (by omega)
    omega
  | succ fuel ih =>
    intro p hp hf
    have fl := hp.inv.fl
    have l1 := hp.inv.le2 (v := a.toNat) (by omega)
    have l2 := hp.inv.le2 (v := b.toNat) (by omega)
    have n1 := hp.inv.nn a.toNat (by omega)
    have n2 := hp.inv.nn b.toNat (by omega)
    rw [S_l4Gather_l1]
    by_cases hs : p.free.getD a.toNat 0 + p.free.getD b.toNat 0 < 4
    · rcases find_s hN hn hg hp hb with ⟨p1, f1, f2, f3⟩ | ⟨f1, f2⟩
      · obtain ⟨p', g1, g2, g3⟩ := ih p1 (f2.pg hp f3) (by have := f2.symm'; omega)
        refine ⟨p', g1.trans f3, g2, ?_⟩
        rw [f3] at g3
        have e : (⟨p.free, p.tails, p.placed⟩ : Pbl) = p := rfl
        simp (disch := omega) only [Int.toNat_natCast, tk0, List.length_cons, List.length_nil, grd_pos, grd_T, grd_R, cnd_dt, cnd_df, cnd_true, cnd_false, Option.bind_some, e, f1]
        rw [f3]
        exact g3
      · rcases find_s hN hn hg hp hb.swap with ⟨p1, k1, k2, k3⟩ | ⟨k1, k2⟩
        · obtain ⟨p', g1, g2, g3⟩ := ih p1 (k2.pg hp k3) (by have := k2.symm'; omega)
          refine ⟨p', g1.trans k3, g2, ?_⟩
          rw [k3] at g3
          have e : (⟨p.free, p.tails, p.placed⟩ : Pbl) = p := rfl
          simp (disch := omega) only [Int.toNat_natCast, tk0, List.length_cons, List.length_nil, grd_pos, grd_T, grd_R, cnd_dt, cnd_df, cnd_true, cnd_false, Option.bind_some, e, f1, k1]
          rw [k3]
          exact g3
        · refine ⟨p, rfl, hp, .inr ⟨?_, Shut.tgt hp.inv hb f2 k2 (by omega)⟩⟩
          have e : (⟨p.free, p.tails, p.placed⟩ : Pbl) = p := rfl
          simp (disch := omega) only [Int.toNat_natCast, tk0, List.length_cons, List.length_nil, grd_pos, grd_T, grd_R, cnd_dt, cnd_df, cnd_true, cnd_false, Option.bind_some, e, f1, k1]
    · refine ⟨p, rfl, hp, .inl ⟨?_, by omega⟩⟩
      simp (disch := omega) only [Int.toNat_natCast, tk0, List.length_cons, List.length_nil, grd_pos, grd_T, grd_R, cnd_dt, cnd_df, cnd_true, cnd_false, Option.bind_some]
include hN hn hg in
theorem gather_s (hb : Bok n (a, b)) {p : Pbl} (hp : PG n g.bars p) : ∃ p' : Pbl, p'.placed = p.placed ∧ PG n g.bars p' ∧ ((S_l4Gather N g p a b 4 = some (p', true) ∧ 4 ≤ p'.free.getD a.toNat 0 + p'.free.getD b.toNat 0) ∨
      (S_l4Gather N g p a b 4 = some (p', false) ∧ ∃ X, Tgt n (p.placed.map (brI g.bars)) X ∧ inX X (a, b) = true)) := by
  obtain ⟨h1, h2, h3, h4, h5⟩ := id hb
  simp only at h1 h2 h3 h4 h5
  have n1 := hp.inv.nn a.toNat (by omega)
  have n2 := hp.inv.nn b.toNat (by omega)
  have fl := hp.inv.fl
  have tl := hp.inv.tl
  simp only [List.length_map] at tl
  have t2 := hp.inv.tlen
  obtain ⟨p', g1, g2, g3⟩ := gather1_s hN hn hg hb (kk := fun x => match x with | (l11, l12, l13) => some ((⟨l11, l12, l13⟩ : Pbl), true)) N p hp (by omega)
  refine ⟨p', g1, g2, ?_⟩
  unfold S_l4Gather S_l4Copy
  simp (disch := omega) only [Int.toNat_natCast, tk0, List.length_cons, List.length_nil, grd_pos, grd_T, grd_R, cnd_dt, cnd_df, cnd_true, cnd_false, Option.bind_some, List.nil_append]
  exact g3
end
end Go.Proofs.Ytkpmijmlbpdknaa
