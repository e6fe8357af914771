/- Texts that the proof needs, put together: Pp G14 G15 Pd G30 Pq Pr M7 G35 G38 G56 M8 M9 M10 M11 M12 M13 M14 G71 G72 G73. -/
import Derived.Test.YtmoamglpocjhgaaGreatBnm3
import Derived.Test.YtmoamglpocjhgaaGreatBnm4
set_option linter.unusedVariables false
set_option linter.unusedSimpArgs false
namespace Go.Proofs.YtmoamglpocjhgaaGreat
variable {n : Nat} {f T : List Int} {a b : Int}
abbrev brI (bars : List (Int × Int)) (i : Int) : Int × Int := bars.getD i.toNat (0, 0)
structure PG (n : Nat) (bars : List (Int × Int)) (p : Pbl) : Prop where
 inv : PInv n (p.placed.map (brI bars)) p.free p.tails
 pl : ∀ i ∈ p.placed, 0 ≤ i ∧ i < (bars.length : Int)
theorem fsum_nn {n : Nat} {X : VS} {f : List Int} (nn : ∀ v : Nat, v < n → 0 ≤ f.getD v 0) : ∀ m, m ≤ n → 0 ≤ fsum X f m
 | 0, _ => by simp [fsum]
 | m + 1, hm => by
  have ih := fsum_nn (X := X) nn m (by omega)
  have := nn m (by omega)
  rw [fsum]; split <;> omega
theorem PInv.tlen {E : List (Int × Int)} (h : PInv n E f T) : T.length ≤ 2 * n := by
 have h1 := h.sum fun _ => true
 have h2 := fsum_nn (X := fun _ => true) h.nn n (Nat.le_refl _)
 have h3 : T.countP (fun _ => true) = T.length := by simp
 have h4 : vsz n (fun _ => true) = n := by simp [vsz]
 rw [h3, h4] at h1
 omega
theorem eAt {bars : List (Int × Int)} {pl : List Int} {i : Nat} (h : i < pl.length) : (pl.map (brI bars)).getD i (0, 0) = bars.getD (pl.getD i 0).toNat (0, 0) := by
 simp [List.getD_eq_getElem?_getD, List.getElem?_eq_getElem h]
section
variable {g : Grf} {p : Pbl} {N : Nat} (hN : 4000000 ≤ N) (hn : n ≤ 1000) (hg : g.n = n) (hp : PG n g.bars p)
include hp in
theorem PG.plAt {i : Nat} (h : i < p.placed.length) : 0 ≤ p.placed.getD i 0 ∧ p.placed.getD i 0 < (g.bars.length : Int) := hp.pl _ (getD_mem h)
include hp in
theorem PG.bok {i : Nat} (h : i < p.placed.length) : Bok n (g.bars.getD (p.placed.getD i 0).toNat (0, 0)) := by
 rw [← eAt h]; exact hp.inv.ok _ (getD_mem (by simpa using h))
theorem other_s {n : Nat} (hn : n ≤ 1000) {e : Int × Int} (he : Bok n e) {v : Int} (hv : 0 ≤ v ∧ v < n) : S_l4Other N e v = some (oth e v) := by
 obtain ⟨h1, h2, h3, h4, _⟩ := he
 unfold S_l4Other
 rw [grd_R (by omega) (by omega), grd_R (by omega) (by omega)]; rfl
include hn hp in
theorem shift_s {from' : List Int} {q : List Int} {u : Int} {v1 : Pbl} {kk : List Int → Option Pbl} (hfl : from'.length = n) (hb : BI n (p.placed.map (brI g.bars)) p.tails a q (fun v => from'.getD v.toNat 0)) (hv1 : v1.tails.length = p.tails.length) :
  ∀ (fuel j : Nat) (T' : List Int), j < q.length → j < fuel → Mv (p.placed.map (brI g.bars)) p.tails T' u (q.getD j 0) →
   (∀ j', 0 < j' → j' ≤ j → T'.getD (from'.getD (q.getD j' 0).toNat 0).toNat 0 = p.tails.getD (from'.getD (q.getD j' 0).toNat 0).toNat 0) →
   ∃ T'', Mv (p.placed.map (brI g.bars)) p.tails T'' u a ∧ S_l4Shift_l1 N g p from' a v1 kk fuel (T', q.getD j 0) = kk T'' := by
 intro fuel
 induction fuel with
 | zero => intro j T' _ h; omega
 | succ fuel ih =>
  intro j T' hj hf hm hun
  rw [S_l4Shift_l1]
  by_cases h0 : j = 0
  ·subst h0
   refine ⟨T', by rw [hb.hd] at hm; exact hm, ?_⟩
   rw [cnd_nef hb.hd]
  ·have hne : ¬ q.getD j 0 = a := by
    intro e
    rw [← hb.hd] at e
    have hp0 := hb.pos
    rw [List.getD_eq_getElem?_getD, List.getD_eq_getElem?_getD, List.getElem?_eq_getElem hj, List.getElem?_eq_getElem hp0] at e
    have := (List.getElem_inj hb.nd).1 e
    omega
   obtain ⟨j', i, g1, g2, g3, g4, g5, g6, g7⟩ := hb.back hp.inv (by omega) hj hm hun
   have hip : i < p.placed.length := by simpa using g2
   obtain ⟨T'', k1, k2⟩ := ih j' (T'.set i (q.getD j 0)) (by omega) (by omega) g6 g7
   refine ⟨T'', k1, ?_⟩
   have hr := hb.rg _ (getD_mem (d := 0) hj)
   have hpl := hp.plAt hip
   have htl := hp.inv.tl
   have hml := hm.len
   have eo := other_s (N := N) hn (hp.bok hip) hr
   rw [← eAt hip, g4] at eo
   rw [eAt hip] at eo
   simp only [List.length_map] at htl
   simp (disch := omega) only [Int.toNat_natCast, tk0, List.length_cons, List.length_nil, grd_pos, grd_T, grd_R, cnd_dt, cnd_df, cnd_true, cnd_false, Option.bind_some, cnd_net hne, g3, eo, hfl, hv1, hml, htl, k2]
include hN hn hp in
theorem shiftS_s {from' : List Int} {q : List Int} {j : Nat} (hfl : from'.length = n) (hb : BI n (p.placed.map (brI g.bars)) p.tails a q (fun v => from'.getD v.toNat 0)) (hj : j < q.length) (hj0 : 0 < j) (hbr : 0 ≤ b ∧ b < n) (hub : q.getD j 0 ≠ b) (hab : a ≠ b) (hf : 1 ≤ p.free.getD (q.getD j 0).toNat 0) :
  ∃ p' : Pbl, S_l4Shift N g p from' a (q.getD j 0) = some p' ∧ Won n (p.placed.map (brI g.bars)) p.free p'.free p'.tails a b ∧ p'.placed = p.placed := by
 have hu := hb.rg _ (getD_mem (d := 0) hj)
 have ha : 0 ≤ a ∧ a < n := by have := hb.rg _ (getD_mem (d := 0) hb.pos); rwa [hb.hd] at this
 have hua : q.getD j 0 ≠ a := by
  intro e
  rw [← hb.hd] at e
  have hp0 := hb.pos
  rw [List.getD_eq_getElem?_getD, List.getD_eq_getElem?_getD, List.getElem?_eq_getElem hj, List.getElem?_eq_getElem hp0] at e
  have := (List.getElem_inj hb.nd).1 e
  omega
 have hle := hb.len
 obtain ⟨T'', k1, k2⟩ := shift_s hn hp (N := N) (v1 := ⟨[] ++ p.free, [] ++ p.tails, [] ++ p.placed⟩) (u := q.getD j 0)
  (kk := fun l7 => grd (p.free.length = (fMove p.free (q.getD j 0) a).length) <| grd (p.tails.length = l7.length) <| some ⟨fMove p.free (q.getD j 0) a, l7, p.placed⟩) hfl hb (by simp) N j p.tails hj (by omega) (Mv.start hp.inv _) (fun _ _ _ => rfl)
 refine ⟨⟨fMove p.free (q.getD j 0) a, T'', p.placed⟩, ?_, k1.won hp.inv ha hu hbr hua hub hab hf, rfl⟩
 have f1 := hp.inv.fl
 have t1 := hp.inv.tl
 have t2 := hp.inv.tlen
 have t3 := k1.len
 simp only [List.length_map] at t1
 have b1 : p.free.getD (q.getD j 0).toNat 0 ≤ 2 := hp.inv.le2 (by omega)
 have b2 : 0 ≤ (p.free.set (q.getD j 0).toNat (p.free.getD (q.getD j 0).toNat 0 - 1)).getD a.toNat 0 ∧ (p.free.set (q.getD j 0).toNat (p.free.getD (q.getD j 0).toNat 0 - 1)).getD a.toNat 0 ≤ 2 := by
  rw [getD_set]
  have := hp.inv.le2 (v := a.toNat) (by omega)
  have := hp.inv.nn a.toNat (by omega)
  split <;> omega
 unfold S_l4Shift S_l4Copy
 simp (disch := omega) only [Int.toNat_natCast, tk0, List.length_cons, List.length_nil, grd_pos, grd_T, grd_R, cnd_dt, cnd_df, cnd_true, cnd_false, Option.bind_some, List.nil_append, List.length_set]
 simp only [List.nil_append] at k2
 simp only [fMove, List.length_set, grd_T] at k2 ⊢
 rw [k2]
 exact grd_pos t3.symm _
structure FSt (n : Nat) (bars : List (Int × Int)) (p : Pbl) (a b : Int) (from' q : List Int) (seen : List Bool) : Prop where
 bi : BI n (p.placed.map (brI bars)) p.tails a q (fun v => from'.getD v.toNat 0)
 bz : BZ p.free a b q
 fl : from'.length = n
 sl : seen.length = n
 sq : ∀ v : Int, 0 ≤ v → v < n → seen.getD v.toNat false = decide (v ∈ q)
theorem oth_rg {e : Int × Int} (he : Bok n e) {v : Int} (h : v = e.1 ∨ v = e.2) : 0 ≤ oth e v ∧ oth e v < n := by
 obtain ⟨h1, h2, h3, h4, _⟩ := he
 unfold oth
 rcases h with rfl | rfl <;> omega
theorem FSt.pushB {bars : List (Int × Int)} {from' q : List Int} {seen : List Bool} (h : FSt n bars p a b from' q seen) {k i : Nat} {v : Int} (hk : k < q.length) (hi : i < p.placed.length) (ht : p.tails.getD i 0 = q.getD k 0) (hv : oth ((p.placed.map (brI bars)).getD i (0, 0)) (q.getD k 0) = v) (hr : 0 ≤ v ∧ v < n) (hn : v ∉ q) :
  BI n (p.placed.map (brI bars)) p.tails a (q ++ [v]) (fun w => (from'.set v.toNat (i : Int)).getD w.toNat 0) := by
 have hfl := h.fl
 refine h.bi.push (fr' := fun w => (from'.set v.toNat i).getD w.toNat 0) hk (by simpa using hi) ht hv hr hn ?_ fun w hw => ?_
 ·show (from'.set v.toNat i).getD v.toNat 0 = i
  rw [getD_set, if_pos ⟨rfl, by omega⟩]
 ·show (from'.set v.toNat i).getD w.toNat 0 = from'.getD w.toNat 0
  have := h.bi.rg w hw
  have hne : w ≠ v := fun e => hn (e ▸ hw)
  rw [getD_set, if_neg (by omega)]
theorem FSt.push {bars : List (Int × Int)} {from' q : List Int} {seen : List Bool} (h : FSt n bars p a b from' q seen) {k i : Nat} {v : Int} (hk : k < q.length) (hi : i < p.placed.length) (ht : p.tails.getD i 0 = q.getD k 0) (hv : oth ((p.placed.map (brI bars)).getD i (0, 0)) (q.getD k 0) = v) (hr : 0 ≤ v ∧ v < n) (hn : v ∉ q) (hz : v = b ∨ p.free.getD v.toNat 0 = 0) :
  FSt n bars p a b (from'.set v.toNat i) (q ++ [v]) (seen.set v.toNat true) := by
 have hfl := h.fl
 have hsl := h.sl
 refine ⟨h.pushB hk hi ht hv hr hn, h.bz.push hz, by simp [hfl], by simp [hsl], fun w h1 h2 => ?_⟩
 rw [getD_set]
 by_cases e : w = v
 ·subst e
  rw [if_pos ⟨rfl, by omega⟩]; simp
 ·rw [if_neg (by omega), h.sq w h1 h2]
  simp [e]
include hN hn hg hp in
theorem find2_s {l106 : List Int} {kk : (List Int × List Int × List Bool) → Option (Pbl × Bool)} {k : Nat} (hab : a ≠ b) (hbr : 0 ≤ b ∧ b < n) :
  ∀ (fuel m : Nat) (from' q : List Int) (seen : List Bool), m ≤ p.placed.length → p.placed.length < fuel + m → FSt n g.bars p a b from' q seen → Done (p.placed.map (brI g.bars)) p.tails q k m → k < q.length → q.getD k 0 = l106.getD k 0 →
   (∃ p' : Pbl, S_l4Find_l2 N g p a b l106 k kk fuel (from', q, seen, (m : Int)) = some (p', true) ∧ Won n (p.placed.map (brI g.bars)) p.free p'.free p'.tails a b ∧ p'.placed = p.placed) ∨
   ∃ from'' q' seen', S_l4Find_l2 N g p a b l106 k kk fuel (from', q, seen, (m : Int)) = kk (from'', q', seen') ∧ FSt n g.bars p a b from'' q' seen' ∧ Done (p.placed.map (brI g.bars)) p.tails q' (k + 1) 0 ∧ k < q'.length := by
 intro fuel
 induction fuel with
 | zero => intro m _ _ _ h1 h2; omega
 | succ fuel ih =>
  intro m from' q seen h1 h2 hF hD hk hq
  rw [S_l4Find_l2]
  have hlen : (p.placed.map (brI g.bars)).length = p.placed.length := by simp
  by_cases hm : m < p.placed.length
  ·have htl := hp.inv.tl
   have hfr := hp.inv.fl
   have hfl := hF.fl
   have hsl := hF.sl
   rw [hlen] at htl
   have hpl := hp.plAt hm
   have ht2 := hp.inv.tlen
   by_cases ht : p.tails.getD m 0 = q.getD k 0
   ·have hbk := hp.bok hm
    have hen := hp.inv.en m (by rw [hlen]; exact hm)
    rw [eAt hm] at hen
    rw [ht] at hen
    have hr0 := hF.bi.rg _ (getD_mem (d := 0) hk)
    have eo := other_s (N := N) hn hbk hr0
    have hvr := oth_rg hbk hen
    have ht' : p.tails.getD m 0 = l106.getD k 0 := ht.trans hq
    rw [hq] at eo
    generalize hv : oth (g.bars.getD (p.placed.getD m 0).toNat (0, 0)) (q.getD k 0) = v at hvr
    rw [← hq, hv] at eo
    rw [hq] at eo
    have hvo : oth ((p.placed.map (brI g.bars)).getD m (0, 0)) (q.getD k 0) = v := by rw [eAt hm, hv]
    have hsq := hF.sq v hvr.1 hvr.2
    by_cases hs : v ∈ q
    ·have hsq : seen.getD v.toNat false = true := by rw [hsq]; exact decide_eq_true hs
     simp (disch := omega) only [Int.toNat_natCast, tk0, List.length_cons, List.length_nil, grd_pos, grd_T, grd_R, cnd_dt, cnd_df, cnd_true, cnd_false, Option.bind_some, cnd_nef ht', eo, hsq, hg, List.length_replicate, succ_cast]
     exact ih (m + 1) from' q seen (by omega) (by omega) hF (hD.step fun _ _ => by rw [hvo]; exact hs) hk hq
    ·have hsq : seen.getD v.toNat false = false := by rw [hsq]; exact decide_eq_false hs
     have hD' : Done (p.placed.map (brI g.bars)) p.tails (q ++ [v]) k (m + 1) := (hD.push hk).step fun _ _ => by rw [getD_appl hk, hvo]; simp
     have hql := hF.bi.len
     by_cases hvb : v = b
     ·have hF' := hF.push (i := m) hk hm ht hvo hvr hs (.inl hvb)
      simp (disch := omega) only [Int.toNat_natCast, tk0, List.length_cons, List.length_nil, grd_pos, grd_T, grd_R, cnd_dt, cnd_df, cnd_true, cnd_false, Option.bind_some, cnd_nef ht', eo, hsq, hg, List.length_replicate, succ_cast, cnd_nef hvb]
      exact ih (m + 1) _ _ _ (by omega) (by omega) hF' hD' (by simp; omega) (by rw [getD_appl hk]; exact hq)
     ·by_cases hz : p.free.getD v.toNat 0 > 0
      ·left
       have hb2 : BI n (p.placed.map (brI g.bars)) p.tails a (q ++ [v]) (fun w => (from'.set v.toNat (m : Int)).getD w.toNat 0) := hF.pushB hk hm ht hvo hvr hs
       have e1 : (q ++ [v]).getD q.length 0 = v := by rw [getD_app]; simp
       obtain ⟨p', s1, s2, s3⟩ := shiftS_s hN hn hp (from' := from'.set v.toNat (m : Int)) (q := q ++ [v]) (j := q.length) (a := a) (b := b) (by simp [hfl]) hb2 (by simp) (by have := hF.bi.pos; omega) hbr (by rw [e1]; exact hvb) hab (by rw [e1]; omega)
       rw [e1] at s1
       refine ⟨p', ?_, s2, s3⟩
       simp (disch := omega) only [Int.toNat_natCast, tk0, List.length_cons, List.length_nil, grd_pos, grd_T, grd_R, cnd_dt, cnd_df, cnd_true, cnd_false, Option.bind_some, cnd_nef ht', eo, hsq, hg, List.length_replicate, List.length_set, succ_cast, cnd_net hvb, s1]
      ·have hz0 : p.free.getD v.toNat 0 = 0 := by have := hp.inv.nn v.toNat (by omega); omega
       have hF' := hF.push (i := m) hk hm ht hvo hvr hs (.inr hz0)
       simp (disch := omega) only [Int.toNat_natCast, tk0, List.length_cons, List.length_nil, grd_pos, grd_T, grd_R, cnd_dt, cnd_df, cnd_true, cnd_false, Option.bind_some, cnd_nef ht', eo, hsq, hg, List.length_replicate, succ_cast, cnd_net hvb]
       exact ih (m + 1) _ _ _ (by omega) (by omega) hF' hD' (by simp; omega) (by rw [getD_appl hk]; exact hq)
   ·have ht' : ¬ p.tails.getD m 0 = l106.getD k 0 := by rw [← hq]; exact ht
    simp (disch := omega) only [Int.toNat_natCast, tk0, List.length_cons, List.length_nil, grd_pos, grd_T, grd_R, cnd_dt, cnd_df, cnd_true, cnd_false, Option.bind_some, cnd_net ht', succ_cast]
    exact ih (m + 1) from' q seen (by omega) (by omega) hF (hD.step fun _ e => absurd e ht) hk hq
  ·right
   have e : m = (p.placed.map (brI g.bars)).length := by omega
   refine ⟨from', q, seen, ?_, hF, by subst e; exact hD.next, hk⟩
   simp (disch := omega) only [Int.toNat_natCast, tk0, List.length_cons, List.length_nil, grd_pos, grd_T, grd_R, cnd_dt, cnd_df, cnd_true, cnd_false, Option.bind_some]
include hN hn hg hp in
theorem find1_s {kk : Unit → Option (Pbl × Bool)} (hab : a ≠ b) (hbr : 0 ≤ b ∧ b < n) :
  ∀ (fuel k : Nat) (from' q : List Int) (seen : List Bool), n < fuel + k → FSt n g.bars p a b from' q seen → Done (p.placed.map (brI g.bars)) p.tails q k 0 → k ≤ q.length →
   (∃ p' : Pbl, S_l4Find_l1 N g p a b kk fuel (from', q, seen, (k : Int)) = some (p', true) ∧ Won n (p.placed.map (brI g.bars)) p.free p'.free p'.tails a b ∧ p'.placed = p.placed) ∨
   (S_l4Find_l1 N g p a b kk fuel (from', q, seen, (k : Int)) = kk () ∧ Shut n (p.placed.map (brI g.bars)) p.free p.tails a b) := by
 intro fuel
 induction fuel with
 | zero => intro k from' q seen h1 hF hD hk; have := hF.bi.len; omega
 | succ fuel ih =>
  intro k from' q seen h1 hF hD hk
  rw [S_l4Find_l1]
  have ht2 := hp.inv.tlen
  have htl := hp.inv.tl
  simp only [List.length_map] at htl
  by_cases hkq : k < q.length
  ·have hql := hF.bi.len
   have key := find2_s (l106 := q) (kk := (fun (x : (List Int) × (List Int) × (List Bool)) =>
     match x with
     | (l143, l144, l145) =>
      grd (Rg64 ((k : Int) + (1 : Int))) <|
      S_l4Find_l1 N g p a b kk fuel (l143, l144, l145, ((k : Int) + (1 : Int))))) hN hn hg hp hab hbr N 0 from' q seen (by omega) (by omega) hF hD hkq rfl
   rw [show ((0 : Nat) : Int) = 0 from rfl] at key
   rcases key with ⟨p', g1, g2, g3⟩ | ⟨f2, q2, s2, g1, g2, g3, g4⟩
   ·left
    refine ⟨p', ?_, g2, g3⟩
    rw [cnd_dt (by omega), grd_pos (by omega)]
    exact g1
   ·have e : S_l4Find_l1 N g p a b kk (fuel + 1) (from', q, seen, (k : Int)) = S_l4Find_l1 N g p a b kk fuel (f2, q2, s2, ((k + 1 : Nat) : Int)) := by
     rw [S_l4Find_l1]
     rw [cnd_dt (by omega), grd_pos (by omega)]
     refine g1.trans ?_
     have := g2.bi.len
     simp (disch := omega) only [Int.toNat_natCast, tk0, List.length_cons, List.length_nil, grd_pos, grd_T, grd_R, cnd_dt, cnd_df, cnd_true, cnd_false, Option.bind_some, succ_cast]
    rw [S_l4Find_l1] at e
    rw [e]
    exact ih (k + 1) f2 q2 s2 (by omega) g2 g3 (by omega)
  ·right
   refine ⟨?_, hF.bi.shut hF.bz hD (by omega)⟩
   simp (disch := omega) only [Int.toNat_natCast, tk0, List.length_cons, List.length_nil, grd_pos, grd_T, grd_R, cnd_dt, cnd_df, cnd_true, cnd_false, Option.bind_some]
theorem find3_s {kk : List Int → Option (Pbl × Bool)} (hN : 4000000 ≤ N) (hn : n ≤ 1000) (hg : g.n = n) : ∀ (fuel i : Nat) (l : List Int), n < fuel + i → i ≤ n → l.length = n → ∃ l' : List Int, l'.length = n ∧ S_l4Find_l3 N g kk fuel (l, (i : Int)) = kk l' := by
 intro fuel
 induction fuel with
 | zero => intro i l h1 h2 h3; omega
 | succ fuel ih =>
  intro i l h1 h2 h3
  rw [S_l4Find_l3]
  by_cases hi : i < n
  ·obtain ⟨l', g1, g2⟩ := ih (i + 1) (l.set i (-1)) (by omega) (by omega) (by simp [h3])
   refine ⟨l', g1, ?_⟩
   simp (disch := omega) only [Int.toNat_natCast, tk0, List.length_cons, List.length_nil, grd_pos, grd_T, grd_R, cnd_dt, cnd_df, cnd_true, cnd_false, Option.bind_some, hg, List.length_replicate, succ_cast]
   exact g2
  ·refine ⟨l, h3, ?_⟩
   simp (disch := omega) only [Int.toNat_natCast, tk0, List.length_cons, List.length_nil, grd_pos, grd_T, grd_R, cnd_dt, cnd_df, cnd_true, cnd_false, Option.bind_some, hg]
include hN hn hg hp in
theorem find_s (hb : Bok n (a, b)) :
  (∃ p' : Pbl, S_l4Find N g p a b = some (p', true) ∧ Won n (p.placed.map (brI g.bars)) p.free p'.free p'.tails a b ∧ p'.placed = p.placed) ∨
  (S_l4Find N g p a b = some (p, false) ∧ Shut n (p.placed.map (brI g.bars)) p.free p.tails a b) := by
 obtain ⟨h1, h2, h3, h4, h5⟩ := hb
 simp only at h1 h2 h3 h4 h5
 have e : ∃ l : List Int, l.length = n ∧ S_l4Find N g p a b = S_l4Find_l1 N g p a b (fun _ => some (p, false)) N (l, [a], (List.replicate n false).set a.toNat true, ((0 : Nat) : Int)) := by
  obtain ⟨l, g1, g2⟩ := find3_s (N := N) (kk := fun (l3 : List Int) =>
    grd (0 ≤ a ∧ a < ((List.replicate ((g.n).toNat) (false : Bool)).length : Int)) <|
    S_l4Find_l1 N g p a b (fun (_ : Unit) => some ((⟨p.free, p.tails, p.placed⟩ : Pbl), false)) N (l3, ([a] : List Int), ((List.replicate ((g.n).toNat) (false : Bool)).set ((a).toNat) true), (0 : Int))) hN hn hg N 0 (List.replicate n 0) (by omega) (by omega) (by simp)
  refine ⟨l, g1, ?_⟩
  unfold S_l4Find
  rw [grd_pos (by omega)]
  simp only [hg, Int.toNat_natCast] at g2 ⊢
  refine g2.trans ?_
  simp (disch := omega) only [Int.toNat_natCast, tk0, List.length_cons, List.length_nil, grd_pos, grd_T, grd_R, cnd_dt, cnd_df, cnd_true, cnd_false, Option.bind_some, List.length_replicate]
  rfl
 obtain ⟨l, hl, e⟩ := e
 rw [e]
 refine find1_s (kk := fun _ => some (p, false)) hN hn hg hp h5 ⟨h3, h4⟩ N 0 l [a] _ (by omega) ⟨BI.start ⟨h1, h2⟩, fun v hv h _ => absurd (by simpa using hv) h, hl, by simp, fun v g1 g2 => ?_⟩ Done.start (by simp)
 rw [getD_set]
 by_cases e : v = a
 ·subst e
  rw [if_pos ⟨rfl, by simp; omega⟩]; simp
 ·rw [if_neg (by omega)]
  simp [e, List.getD_eq_getElem?_getD, List.getElem?_replicate]
  split <;> rfl
end
section
variable {g : Grf} {N : Nat} (hN : 4000000 ≤ N) (hn : n ≤ 1000) (hg : g.n = n)
theorem Won.pg {bars : List (Int × Int)} {p p' : Pbl} (hp : PG n bars p) (h : Won n (p.placed.map (brI bars)) p.free p'.free p'.tails a b) (he : p'.placed = p.placed) : PG n bars p' := ⟨by rw [he]; exact h.inv, by rw [he]; exact hp.pl⟩
theorem Won.symm' {E : List (Int × Int)} {f f' T' : List Int} (h : Won n E f f' T' a b) : f'.getD a.toNat 0 + f'.getD b.toNat 0 = f.getD a.toNat 0 + f.getD b.toNat 0 + 1 := by rw [h.up, h.keep]; omega
theorem Bok.swap (h : Bok n (a, b)) : Bok n (b, a) := ⟨h.2.2.1, h.2.2.2.1, h.1, h.2.1, h.2.2.2.2.symm⟩
include hN hn hg in
theorem gather1_s (hb : Bok n (a, b)) {kk : (List Int × List Int × List Int) → Option (Pbl × Bool)} : ∀ (fuel : Nat) (p : Pbl), PG n g.bars p → 4 < fuel + (p.free.getD a.toNat 0 + p.free.getD b.toNat 0) →
  ∃ p' : Pbl, p'.placed = p.placed ∧ PG n g.bars p' ∧ ((S_l4Gather_l1 N g a b 4 kk fuel (p.free, p.tails, p.placed) = kk (p'.free, p'.tails, p'.placed) ∧ 4 ≤ p'.free.getD a.toNat 0 + p'.free.getD b.toNat 0) ∨
   (S_l4Gather_l1 N g a b 4 kk fuel (p.free, p.tails, p.placed) = some (p', false) ∧ ∃ X, Tgt n (p.placed.map (brI g.bars)) X ∧ inX X (a, b) = true)) := by
 obtain ⟨h1, h2, h3, h4, h5⟩ := id hb
 simp only at h1 h2 h3 h4 h5
 intro fuel
 induction fuel with
 | zero =>
  intro p hp hf
  have := hp.inv.le2 (v := a.toNat) (by omega)
  have := hp.inv.le2 (v := b.toNat) (by omega)
  omega
 | succ fuel ih =>
  intro p hp hf
  have fl := hp.inv.fl
  have l1 := hp.inv.le2 (v := a.toNat) (by omega)
  have l2 := hp.inv.le2 (v := b.toNat) (by omega)
  have n1 := hp.inv.nn a.toNat (by omega)
  have n2 := hp.inv.nn b.toNat (by omega)
  rw [S_l4Gather_l1]
  by_cases hs : p.free.getD a.toNat 0 + p.free.getD b.toNat 0 < 4
  ·rcases find_s hN hn hg hp hb with ⟨p1, f1, f2, f3⟩ | ⟨f1, f2⟩
   ·obtain ⟨p', g1, g2, g3⟩ := ih p1 (f2.pg hp f3) (by have := f2.symm'; omega)
    refine ⟨p', g1.trans f3, g2, ?_⟩
    rw [f3] at g3
    have e : (⟨p.free, p.tails, p.placed⟩ : Pbl) = p := rfl
    simp (disch := omega) only [Int.toNat_natCast, tk0, List.length_cons, List.length_nil, grd_pos, grd_T, grd_R, cnd_dt, cnd_df, cnd_true, cnd_false, Option.bind_some, e, f1]
    rw [f3]
    exact g3
   ·rcases find_s hN hn hg hp hb.swap with ⟨p1, k1, k2, k3⟩ | ⟨k1, k2⟩
    ·obtain ⟨p', g1, g2, g3⟩ := ih p1 (k2.pg hp k3) (by have := k2.symm'; omega)
     refine ⟨p', g1.trans k3, g2, ?_⟩
     rw [k3] at g3
     have e : (⟨p.free, p.tails, p.placed⟩ : Pbl) = p := rfl
     simp (disch := omega) only [Int.toNat_natCast, tk0, List.length_cons, List.length_nil, grd_pos, grd_T, grd_R, cnd_dt, cnd_df, cnd_true, cnd_false, Option.bind_some, e, f1, k1]
     rw [k3]
     exact g3
    ·refine ⟨p, rfl, hp, .inr ⟨?_, Shut.tgt hp.inv hb f2 k2 (by omega)⟩⟩
     have e : (⟨p.free, p.tails, p.placed⟩ : Pbl) = p := rfl
     simp (disch := omega) only [Int.toNat_natCast, tk0, List.length_cons, List.length_nil, grd_pos, grd_T, grd_R, cnd_dt, cnd_df, cnd_true, cnd_false, Option.bind_some, e, f1, k1]
  ·refine ⟨p, rfl, hp, .inl ⟨?_, by omega⟩⟩
   simp (disch := omega) only [Int.toNat_natCast, tk0, List.length_cons, List.length_nil, grd_pos, grd_T, grd_R, cnd_dt, cnd_df, cnd_true, cnd_false, Option.bind_some]
include hN hn hg in
theorem gather_s (hb : Bok n (a, b)) {p : Pbl} (hp : PG n g.bars p) : ∃ p' : Pbl, p'.placed = p.placed ∧ PG n g.bars p' ∧ ((S_l4Gather N g p a b 4 = some (p', true) ∧ 4 ≤ p'.free.getD a.toNat 0 + p'.free.getD b.toNat 0) ∨
   (S_l4Gather N g p a b 4 = some (p', false) ∧ ∃ X, Tgt n (p.placed.map (brI g.bars)) X ∧ inX X (a, b) = true)) := by
 obtain ⟨h1, h2, h3, h4, h5⟩ := id hb
 simp only at h1 h2 h3 h4 h5
 have n1 := hp.inv.nn a.toNat (by omega)
 have n2 := hp.inv.nn b.toNat (by omega)
 have fl := hp.inv.fl
 have tl := hp.inv.tl
 simp only [List.length_map] at tl
 have t2 := hp.inv.tlen
 obtain ⟨p', g1, g2, g3⟩ := gather1_s hN hn hg hb (kk := fun x => match x with | (l11, l12, l13) => some ((⟨l11, l12, l13⟩ : Pbl), true)) N p hp (by omega)
 refine ⟨p', g1, g2, ?_⟩
 unfold S_l4Gather S_l4Copy
 simp (disch := omega) only [Int.toNat_natCast, tk0, List.length_cons, List.length_nil, grd_pos, grd_T, grd_R, cnd_dt, cnd_df, cnd_true, cnd_false, Option.bind_some, List.nil_append]
 exact g3
end
end Go.Proofs.YtmoamglpocjhgaaGreat
namespace Go.Proofs.YtmoamglpocjhgaaGreat
open Go.RowKit
def G_Index_int_l1 (N : Nat) (s_0 : List Int) (v_1 : Int) (k : Unit → Option (Int)) : Nat → Int → Option (Int)
 | 0, _ => none
 | n + 1, x3 =>
  cnd (decide (x3 < (s_0.length : Int))) (
   grd (0 ≤ x3 ∧ x3 < (s_0.length : Int)) <|
   cnd (v_1 == (s_0.getD ((x3).toNat) 0)) (
    some x3) (
    grd (Rg64 (x3 + (1 : Int))) <|
    G_Index_int_l1 N s_0 v_1 k n (x3 + (1 : Int)))) (
   k ())
def G_Index_int (N : Nat) (s_0 : List Int) (v_1 : Int) : Option (Int) :=
 G_Index_int_l1 N s_0 v_1 (fun (_ : Unit) =>
    some (-1 : Int)) N (0 : Int)
set_option maxRecDepth 20000 in
set_option maxHeartbeats 1600000 in
theorem G_Index_int_w (N : Nat) (s_0 : List Int) (v_1 : Int) (r : Int) (h : G_Index_int N s_0 v_1 = some r) : PCall Tryz.prog 115 [.ro false (.ints s_0), .int v_1] [] (.int r) := by
 unfold G_Index_int at h
 refine pcall_intro (TT := TT) tt Tryz.func115 rfl rfl Tryz.ntmps115 (congrArg Array.toList Tryz.results115) rfl rfl fun w0 => ?_
 refine vSeq ?_
 refine vRegion ?_
 refine oVal tt rfl rfl rfl rfl rfl trivial ?_
 refine vNil ?_
 change VC _ _ _ _
 iterate 2 refine vSeq ?_
 refine vRegion ?_
 iterate 3 refine oVal tt rfl rfl rfl rfl rfl trivial ?_
 refine vNil ?_
 change VC _ _ _ _
 refine vJoin (F := fun k => G_Index_int_l1 N s_0 v_1 k) h (α := Unit) (J := fun (_ : Unit) => (⟨[], [], []⟩ : PS)) ?_ ?_
 ·rintro ⟨⟩ h
  show VC _ _ _ (⟨[], [], []⟩ : PS)
  refine vSeq ?_
  refine vRegion ?_
  refine oVal tt rfl rfl rfl rfl rfl trivial ?_
  refine vNil ?_
  change VC _ _ _ _
  refine vRet ?_
  change ∃ _, _
  cases h
  exact ⟨[], _, rfl, trivial, rfl, (.eq rfl), rfl⟩
 ·intro k h
  refine vBlock ?_
  refine vLoopS (α := Int) (fun (x3 : Int) => (⟨[(0, .ro false (.ints s_0)), (1, .int v_1), (7, .int (s_0.length : Int)), (8, .int x3)], [], []⟩ : PS)) (G_Index_int_l1 N s_0 v_1 k) h (En.of ⟨rfl, rfl, rfl, rfl, trivial⟩ trivial trivial) (fun _ => rfl) ?_
  rintro n x3 h
  rw [G_Index_int_l1] at h
  show VC _ _ _ (⟨[(0, .ro false (.ints s_0)), (1, .int v_1), (7, .int (s_0.length : Int)), (8, .int x3)], [], []⟩ : PS)
  refine vSeq ?_
  refine vRegion ?_
  refine oVal tt rfl rfl rfl rfl rfl trivial ?_
  refine vNil ?_
  change VC _ _ _ _
  refine vSeq ?_
  refine vCond rfl (fun hb1 => ?_) (fun hb1 => ?_)
  ·replace h := cnd_t hb1 h
   refine vSkip ?_
   change VC _ _ _ _
   refine vSeq ?_
   refine vBlock ?_
   refine vSeq ?_
   refine vRegion ?_
   iterate 2 refine oVal tt rfl rfl rfl rfl rfl trivial ?_
   refine vNil ?_
   change VC _ _ _ _
   refine vSeq ?_
   refine vRegion ?_
   iterate 3 refine oVal tt rfl rfl rfl rfl rfl trivial ?_
   obtain ⟨hg2, h⟩ := grd_inv h
   refine oVal tt rfl rfl rfl rfl rfl hg2 ?_
   iterate 2 refine oVal tt rfl rfl rfl rfl rfl trivial ?_
   refine vNil ?_
   change VC _ _ _ _
   refine vCond rfl (fun hb3 => ?_) (fun hb3 => ?_)
   ·replace h := cnd_t hb3 h
    refine vSeq ?_
    refine vRegion ?_
    iterate 2 refine oVal tt rfl rfl rfl rfl rfl trivial ?_
    refine vNil ?_
    change VC _ _ _ _
    refine vRet ?_
    change ∃ _, _
    cases h
    exact ⟨[], _, rfl, trivial, rfl, (.eq rfl), rfl⟩
   ·replace h := cnd_f hb3 h
    refine vSkip ?_
    change VC _ _ _ _
    refine vRegion ?_
    obtain ⟨hg4, h⟩ := grd_inv h
    refine oVal tt rfl rfl rfl rfl rfl hg4 ?_
    refine oVal tt rfl rfl rfl rfl rfl trivial ?_
    refine vNil ?_
    change ∃ _, _
    exact ⟨(x3 + (1 : Int)), (En.of ⟨rfl, rfl, rfl, rfl, trivial⟩ trivial trivial), h⟩
  ·replace h := cnd_f hb1 h
   refine vExit ?_
   change ∃ _, _
   exact ⟨(), (En.of trivial trivial trivial), h⟩
end Go.Proofs.YtmoamglpocjhgaaGreat
namespace Go.Proofs.YtmoamglpocjhgaaGreat
open Go.RowKit
def G_Contains_int (N : Nat) (s_0 : List Int) (v_1 : Int) : Option (Bool) :=
 (G_Index_int N s_0 v_1).bind fun v1 =>
 some (decide (v1 ≥ (0 : Int)))
set_option maxRecDepth 20000 in
set_option maxHeartbeats 1600000 in
theorem G_Contains_int_w (N : Nat) (s_0 : List Int) (v_1 : Int) (r : Bool) (h : G_Contains_int N s_0 v_1 = some r) : PCall Tryz.prog 94 [.ro false (.ints s_0), .int v_1] [] (.bool r) := by
 unfold G_Contains_int at h
 refine pcall_intro (TT := TT) tt Tryz.func94 rfl rfl Tryz.ntmps94 (congrArg Array.toList Tryz.results94) rfl rfl fun w0 => ?_
 refine vSeq ?_
 refine vRegion ?_
 refine oVal tt rfl rfl rfl rfl rfl trivial ?_
 refine vNil ?_
 change VC _ _ _ _
 refine vSeq ?_
 refine vRegion ?_
 iterate 2 refine oVal tt rfl rfl rfl rfl rfl trivial ?_
 obtain ⟨v1, hc1, h⟩ := bind_inv h
 refine oCall (G_Index_int_w N s_0 v_1 v1 hc1) rfl rfl rfl rfl rfl rfl rfl rfl ⟨rfl, rfl, trivial⟩ ?_
 iterate 2 refine oVal tt rfl rfl rfl rfl rfl trivial ?_
 refine vNil ?_
 change VC _ _ _ _
 refine vRet ?_
 change ∃ _, _
 cases h
 exact ⟨[], _, rfl, trivial, rfl, (.eq rfl), rfl⟩
end Go.Proofs.YtmoamglpocjhgaaGreat
namespace Go.Proofs.YtmoamglpocjhgaaGreat
variable (N : Nat)
theorem l1In_s (x lo hi : Int) : S_l1In N x lo hi = some (inB x lo hi) := by
 unfold S_l1In inB
 rw [cnd_some]
 show some (cnd (decide (lo ≤ x)) _ _) = _
 cases decide (lo ≤ x) <;> rfl
theorem within_s (x lo hi : Int) : I_within N x lo hi = some (inB x lo hi) := by
 unfold I_within inB
 rw [cnd_some]
 show some (cnd (decide (lo ≤ x)) _ _) = _
 cases decide (lo ≤ x) <;> rfl
theorem l2Has_s (hN : 4000000 ≤ N) {l : List Int} (hl : l.length ≤ 3000000) (x : Int) : S_l2Has N l x = some (l.contains x) := by
 unfold S_l2Has
 refine (srch (len := l.length) (ok := fun i => !(l.getD i 0 == x)) (bad := some true) (fin := some false) (by omega) ?_ ?_).trans ?_
 ·intro n i hi _
  rw [S_l2Has_l1]
  simp (disch := omega) only [Int.toNat_natCast, tk0, List.length_cons, List.length_nil, grd_pos, grd_T, grd_R, cnd_dt, cnd_df, cnd_true, cnd_false, Option.bind_some, cnd_not, succ_cast]
 ·intro n _
  rw [S_l2Has_l1]
  simp (disch := omega) only [Int.toNat_natCast, tk0, List.length_cons, List.length_nil, grd_pos, grd_T, grd_R, cnd_dt, cnd_df, cnd_true, cnd_false, Option.bind_some]
 ·rw [range_all_not_contains, cnd_some]; cases l.contains x <;> rfl
theorem indexInt_l (hN : 4000000 ≤ N) {l : List Int} (hl : l.length ≤ 3000000) (x : Int) : ∀ n i : Nat, i ≤ l.length → l.length < n + i → ∃ r : Int, G_Index_int_l1 N l x (fun _ => some (-1)) n (i : Int) = some r ∧ (decide (r ≥ 0) = (l.drop i).contains x) := by
 intro n
 induction n with
 | zero => intro i h1 h2; omega
 | succ n ih =>
  intro i h1 h2
  rw [G_Index_int_l1]
  by_cases hi : i < l.length
  ·simp (disch := omega) only [Int.toNat_natCast, tk0, List.length_cons, List.length_nil, grd_pos, grd_T, grd_R, cnd_dt, cnd_df, cnd_true, cnd_false, Option.bind_some]
   rw [List.drop_eq_getElem_cons hi, List.contains_cons]
   have e : l.getD i 0 = l[i] := by simp [List.getD_eq_getElem?_getD, hi]
   rw [e]
   cases h : x == l[i] with
   | true => exact ⟨i, rfl, by simp⟩
   | false =>
    obtain ⟨r, h1, h2⟩ := ih (i + 1) (by omega) (by omega)
    exact ⟨r, h1, by rw [h2]; rfl⟩
  ·simp (disch := omega) only [Int.toNat_natCast, tk0, List.length_cons, List.length_nil, grd_pos, grd_T, grd_R, cnd_dt, cnd_df, cnd_true, cnd_false, Option.bind_some]
   exact ⟨-1, rfl, by rw [List.drop_eq_nil_of_le (by omega)]; rfl⟩
theorem contains_s (hN : 4000000 ≤ N) {l : List Int} (hl : l.length ≤ 3000000) (x : Int) : G_Contains_int N l x = some (l.contains x) := by
 unfold G_Contains_int G_Index_int
 obtain ⟨r, h1, h2⟩ := indexInt_l N hN hl x N 0 (by omega) (by omega)
 rw [show (0 : Int) = ((0 : Nat) : Int) from rfl, h1]
 show some (decide (r ≥ 0)) = _
 rw [h2]; rfl
theorem l2After_s (a b : Int × Int) : S_l2After N a b = some (barLeB a b) := by
 unfold S_l2After barLeB
 simp only [cnd_some]
 cases decide (a.1 < b.1) <;> cases a.1 == b.1 <;> rfl
theorem compareInts_s (a b : Int) : I_compareInts N a b = some (cmpI a b) := by
 unfold I_compareInts cmpI
 by_cases h : a < b
 ·simp (disch := omega) only [Int.toNat_natCast, tk0, List.length_cons, List.length_nil, grd_pos, grd_T, grd_R, cnd_dt, cnd_df, cnd_true, cnd_false, Option.bind_some, if_pos h]
 ·by_cases h' : b < a
  ·simp (disch := omega) only [Int.toNat_natCast, tk0, List.length_cons, List.length_nil, grd_pos, grd_T, grd_R, cnd_dt, cnd_df, cnd_true, cnd_false, Option.bind_some, if_neg h, if_pos h', gt_iff_lt]
  ·simp (disch := omega) only [Int.toNat_natCast, tk0, List.length_cons, List.length_nil, grd_pos, grd_T, grd_R, cnd_dt, cnd_df, cnd_true, cnd_false, Option.bind_some, if_neg h, if_neg h', gt_iff_lt]
theorem compareBars_s (a b : Int × Int) : I_compareBars N a b = some (cmpBar a b) := by
 unfold I_compareBars cmpBar
 simp only [compareInts_s, Option.bind_some]
 by_cases h : cmpI a.1 b.1 = 0
 ·rw [if_pos h, cnd_nef h]
 ·rw [if_neg h, cnd_net h]
theorem cmpBar_gt (a b : Int × Int) : decide (cmpBar a b > 0) = !barLeB a b := by
 have := cmpBar_pos a b
 cases h : barLeB a b with
 | true => rw [h] at this; simp at this; simp; omega
 | false => rw [h] at this; simp at this; simp; omega
theorem isGraphS_s (hN : 4000000 ≤ N) {g : Grf} : S_IsGraph N g = some (isGraph g) := by
 unfold S_IsGraph isGraph
 rw [l1In_s, Option.bind_some, cnd_not]
 cases h1 : inB g.n 1 8 with
 | false => rfl
 | true =>
  by_cases h2 : g.bars.length ≤ 24
  ·simp (disch := omega) only [Int.toNat_natCast, tk0, List.length_cons, List.length_nil, grd_pos, grd_T, grd_R, cnd_dt, cnd_df, cnd_true, cnd_false, Option.bind_some]
   refine (srch (len := g.bars.length) (ok := barAt g.n g.bars) (bad := some false) (fin := some true) (by omega) ?_ ?_).trans ?_
   ·intro n i hi _
    rw [S_IsGraph_l1]
    by_cases h0 : i = 0
    ·subst h0
     simp (disch := omega) only [Int.toNat_natCast, tk0, List.length_cons, List.length_nil, grd_pos, grd_T, grd_R, cnd_dt, cnd_df, cnd_true, cnd_false, Option.bind_some, l2After_s, cnd_or, cnd_and, succ_cast]
     refine cnd_congr' ?_ _ _
     simp only [barAt, barOkB]
     rw [Bool.eq_iff_iff]; simp; omega
    ·simp (disch := omega) only [Int.toNat_natCast, tk0, List.length_cons, List.length_nil, grd_pos, grd_T, grd_R, cnd_dt, cnd_df, cnd_true, cnd_false, Option.bind_some, l2After_s, cnd_or, cnd_and, succ_cast, show ((i : Int) - 1).toNat = i - 1 from by omega]
     refine cnd_congr' ?_ _ _
     simp only [barAt, barOkB, decide_eq_false h0, Bool.false_or]
     cases barLeB (g.bars.getD (i - 1) (0, 0)) (g.bars.getD i (0, 0)) <;> (rw [Bool.eq_iff_iff]; simp; try omega)
   ·intro n _
    rw [S_IsGraph_l1]
    simp (disch := omega) only [Int.toNat_natCast, tk0, List.length_cons, List.length_nil, grd_pos, grd_T, grd_R, cnd_dt, cnd_df, cnd_true, cnd_false, Option.bind_some]
   ·rw [cnd_some, cnd_bool]; simp [h2]
  ·simp (disch := omega) only [Int.toNat_natCast, tk0, List.length_cons, List.length_nil, grd_pos, grd_T, grd_R, cnd_dt, cnd_df, cnd_true, cnd_false, Option.bind_some]
   simp [h2]
theorem isGraphI_s (hN : 4000000 ≤ N) {g : Grf} : I_IsGraph N g = some (isGraph g) := by
 unfold I_IsGraph isGraph
 rw [within_s, Option.bind_some, cnd_not]
 cases h1 : inB g.n 1 8 with
 | false => rfl
 | true =>
  by_cases h2 : g.bars.length ≤ 24
  ·simp (disch := omega) only [Int.toNat_natCast, tk0, List.length_cons, List.length_nil, grd_pos, grd_T, grd_R, cnd_dt, cnd_df, cnd_true, cnd_false, Option.bind_some]
   refine (srch (len := g.bars.length) (ok := barAt g.n g.bars) (bad := some false) (fin := some true) (by omega) ?_ ?_).trans ?_
   ·intro n i hi _
    rw [I_IsGraph_l1]
    by_cases h0 : i = 0
    ·subst h0
     simp (disch := omega) only [Int.toNat_natCast, tk0, List.length_cons, List.length_nil, grd_pos, grd_T, grd_R, cnd_dt, cnd_df, cnd_true, cnd_false, Option.bind_some, compareBars_s, cmpBar_gt, cnd_or, cnd_and, succ_cast]
     refine cnd_congr' ?_ _ _
     simp only [barAt, barOkB]
     rw [Bool.eq_iff_iff]; simp; omega
    ·simp (disch := omega) only [Int.toNat_natCast, tk0, List.length_cons, List.length_nil, grd_pos, grd_T, grd_R, cnd_dt, cnd_df, cnd_true, cnd_false, Option.bind_some, compareBars_s, cmpBar_gt, cnd_or, cnd_and, succ_cast, show ((i : Int) - 1).toNat = i - 1 from by omega]
     refine cnd_congr' ?_ _ _
     simp only [barAt, barOkB, decide_eq_false h0, Bool.false_or]
     cases barLeB (g.bars.getD (i - 1) (0, 0)) (g.bars.getD i (0, 0)) <;> (rw [Bool.eq_iff_iff]; simp; try omega)
   ·intro n _
    rw [I_IsGraph_l1]
    simp (disch := omega) only [Int.toNat_natCast, tk0, List.length_cons, List.length_nil, grd_pos, grd_T, grd_R, cnd_dt, cnd_df, cnd_true, cnd_false, Option.bind_some]
   ·rw [cnd_some, cnd_bool]; simp [h2]
  ·simp (disch := omega) only [Int.toNat_natCast, tk0, List.length_cons, List.length_nil, grd_pos, grd_T, grd_R, cnd_dt, cnd_df, cnd_true, cnd_false, Option.bind_some]
   simp [h2]
end Go.Proofs.YtmoamglpocjhgaaGreat
namespace Go.Proofs.YtmoamglpocjhgaaGreat
open Go.RowKit
def S_l2Put_l1 (N : Nat) (g_0 : Grf) (x_1 : Int × Int) (k : ((List (Int × Int)) × Bool) → Option (Grf)) : Nat → ((List (Int × Int)) × Bool × Int) → Option (Grf)
 | 0, _ => none
 | n + 1, (l17, placed18, i19) =>
  cnd (decide (i19 < (g_0.bars.length : Int))) (
   cnd (!placed18) (
    grd (0 ≤ i19 ∧ i19 < (g_0.bars.length : Int)) <|
    (S_l2After N (g_0.bars.getD ((i19).toNat) (0, 0)) x_1).bind fun v21 =>
    cnd (!v21) (
     grd (l17.length + 1 ≤ 4294967296) <|
     grd ((l17 ++ ([(x_1.1, x_1.2)] : List (Int × Int))).length + 1 ≤ 4294967296) <|
     grd (Rg64 (i19 + (1 : Int))) <|
     S_l2Put_l1 N g_0 x_1 k n (((l17 ++ ([(x_1.1, x_1.2)] : List (Int × Int))) ++ ([((g_0.bars.getD ((i19).toNat) (0, 0)).1, (g_0.bars.getD ((i19).toNat) (0, 0)).2)] : List (Int × Int))), true, (i19 + (1 : Int)))) (
     grd (l17.length + 1 ≤ 4294967296) <|
     grd (Rg64 (i19 + (1 : Int))) <|
     S_l2Put_l1 N g_0 x_1 k n ((l17 ++ ([((g_0.bars.getD ((i19).toNat) (0, 0)).1, (g_0.bars.getD ((i19).toNat) (0, 0)).2)] : List (Int × Int))), placed18, (i19 + (1 : Int))))) (
    grd (0 ≤ i19 ∧ i19 < (g_0.bars.length : Int)) <|
    grd (l17.length + 1 ≤ 4294967296) <|
    grd (Rg64 (i19 + (1 : Int))) <|
    S_l2Put_l1 N g_0 x_1 k n ((l17 ++ ([((g_0.bars.getD ((i19).toNat) (0, 0)).1, (g_0.bars.getD ((i19).toNat) (0, 0)).2)] : List (Int × Int))), placed18, (i19 + (1 : Int))))) (
   k (l17, placed18))
def S_l2Put (N : Nat) (g_0 : Grf) (x_1 : Int × Int) : Option (Grf) :=
 S_l2Put_l1 N g_0 x_1 (fun (x : (List (Int × Int)) × Bool) =>
   match x with
   | (l10, placed11) =>
    cnd (!placed11) (
     grd (l10.length + 1 ≤ 4294967296) <|
     some (⟨g_0.n, (l10 ++ ([(x_1.1, x_1.2)] : List (Int × Int)))⟩ : Grf)) (
     some (⟨g_0.n, l10⟩ : Grf))) N (([] : List (Int × Int)), false, (0 : Int))
set_option maxRecDepth 20000 in
set_option maxHeartbeats 1600000 in
theorem S_l2Put_w (N : Nat) (g_0 : Grf) (x_1 : Int × Int) (r : Grf) (h : S_l2Put N g_0 x_1 = some r) : PCall Tryz.prog 43 [gD g_0, .agg [.int x_1.1, .int x_1.2]] [(39, .pairs r.bars)] (.agg [.int r.n, .row 0 0 r.bars.length]) := by
 unfold S_l2Put at h
 refine pcall_intro (TT := TT) tt Tryz.func43 rfl rfl Tryz.ntmps43 (congrArg Array.toList Tryz.results43) rfl rfl fun w0 => ?_
 refine vSeq ?_
 refine vRegion ?_
 iterate 2 refine oBox rfl rfl rfl rfl rfl rfl rfl rfl rfl ?_
 refine oAlloc tt rfl rfl rfl rfl rfl rfl rfl rfl rfl ?_
 refine vNil ?_
 change VC _ _ _ _
 refine vSeq ?_
 refine vRegion ?_
 iterate 2 refine oVal tt rfl rfl rfl rfl rfl trivial ?_
 refine oEmpty tt (wNone rfl) rfl rfl rfl rfl ?_
 refine oPure (wNone rfl) (pBuild bld_impl_Graph rfl rfl) rfl rfl ?_
 refine oAlloc tt rfl rfl rfl rfl rfl rfl rfl rfl rfl ?_
 refine oStore tt rfl rfl rfl rfl rfl rfl rfl rfl rfl rfl rfl ⟨trivial, trivial, trivial⟩ ?_
 refine vNil ?_
 change VC _ _ _ _
 refine vSeq ?_
 refine vRegion ?_
 refine oVal tt rfl rfl rfl rfl rfl trivial ?_
 refine vNil ?_
 change VC _ _ _ _
 iterate 2 refine vSeq ?_
 refine vRegion ?_
 refine oVal tt rfl rfl rfl rfl rfl trivial ?_
 refine vNil ?_
 change VC _ _ _ _
 refine vJoin (F := fun k => S_l2Put_l1 N g_0 x_1 k) h (α := (List (Int × Int)) × Bool) (J := fun | (l10, placed11) => (⟨[(3, .ptr 3 0), (4, .ptr 4 0), (5, .ptr 5 0), (6, .bool placed11)], [(35, some (39, .pairs l10))], [(3, some [.int x_1.1, .int x_1.2]), (4, some [.int (0 : Int), .nil]), (5, some [.int g_0.n, .row 35 0 l10.length])]⟩ : PS)) ?_ ?_
 ·rintro ⟨l10, placed11⟩ h
  show VC _ _ _ (⟨[(3, .ptr 3 0), (4, .ptr 4 0), (5, .ptr 5 0), (6, .bool placed11)], [(35, some (39, .pairs l10))], [(3, some [.int x_1.1, .int x_1.2]), (4, some [.int (0 : Int), .nil]), (5, some [.int g_0.n, .row 35 0 l10.length])]⟩ : PS)
  iterate 2 refine vSeq ?_
  refine vRegion ?_
  iterate 2 refine oVal tt rfl rfl rfl rfl rfl trivial ?_
  refine vNil ?_
  change VC _ _ _ _
  refine vCond rfl (fun hb1 => ?_) (fun hb1 => ?_)
  ·replace h := cnd_t hb1 h
   refine vRegion ?_
   iterate 3 refine oVal tt rfl rfl rfl rfl rfl trivial ?_
   refine oBuild tt rfl rfl rfl rfl rfl rfl rfl rfl rfl rfl rfl ?_
   obtain ⟨hg2, h⟩ := grd_inv h
   refine oAppend tt rfl rfl rfl rfl rfl rfl rfl rfl rfl rfl rfl rfl rfl rfl rfl rfl (Nat.le_of_eq (Nat.zero_add _)) hg2 ?_
   refine oVal tt rfl rfl rfl rfl rfl trivial ?_
   refine oStore tt rfl rfl rfl rfl rfl rfl rfl rfl rfl rfl rfl ⟨trivial, trivial⟩ ?_
   refine vNil ?_
   change VC _ _ _ _
   refine vSeq ?_
   refine vRegion ?_
   refine oVal tt rfl rfl rfl rfl rfl trivial ?_
   refine oStore tt rfl rfl rfl rfl rfl rfl rfl rfl rfl rfl rfl ⟨trivial, trivial, trivial⟩ ?_
   refine vNil ?_
   change VC _ _ _ _
   refine vRet ?_
   change ∃ _, _
   cases h
   exact ⟨[35], _, rfl, ⟨rfl, trivial⟩, rfl, (.eq rfl), rfl⟩
  ·replace h := cnd_f hb1 h
   refine vSkip ?_
   change VC _ _ _ _
   refine vSeq ?_
   refine vRegion ?_
   refine oVal tt rfl rfl rfl rfl rfl trivial ?_
   refine oStore tt rfl rfl rfl rfl rfl rfl rfl rfl rfl rfl rfl ⟨trivial, trivial, trivial⟩ ?_
   refine vNil ?_
   change VC _ _ _ _
   refine vRet ?_
   change ∃ _, _
   cases h
   exact ⟨[35], _, rfl, ⟨rfl, trivial⟩, rfl, (.eq rfl), rfl⟩
 ·intro k h
  refine vBlock ?_
  refine vNilB 5 1 35 39 (.pairs []) rfl rfl rfl rfl rfl ?_
  refine vLoopS (α := (List (Int × Int)) × Bool × Int) (fun | (l17, placed18, i19) => (⟨[(2, .ptr 2 0), (3, .ptr 3 0), (4, .ptr 4 0), (5, .ptr 5 0), (6, .bool placed18), (7, .int i19)], [(35, some (39, .pairs l17))], [(2, some [.int g_0.n, .ro false (.pairs g_0.bars)]), (3, some [.int x_1.1, .int x_1.2]), (4, some [.int (0 : Int), .nil]), (5, some [.int g_0.n, .row 35 0 l17.length])]⟩ : PS)) (S_l2Put_l1 N g_0 x_1 k) h (En.of ⟨rfl, rfl, rfl, rfl, rfl, rfl, trivial⟩ ⟨rfl, trivial⟩ ⟨rfl, rfl, rfl, rfl, trivial⟩) (fun _ => rfl) ?_
  rintro n ⟨l17, placed18, i19⟩ h
  rw [S_l2Put_l1] at h
  show VC _ _ _ (⟨[(2, .ptr 2 0), (3, .ptr 3 0), (4, .ptr 4 0), (5, .ptr 5 0), (6, .bool placed18), (7, .int i19)], [(35, some (39, .pairs l17))], [(2, some [.int g_0.n, .ro false (.pairs g_0.bars)]), (3, some [.int x_1.1, .int x_1.2]), (4, some [.int (0 : Int), .nil]), (5, some [.int g_0.n, .row 35 0 l17.length])]⟩ : PS)
  iterate 2 refine vSeq ?_
  refine vRegion ?_
  iterate 5 refine oVal tt rfl rfl rfl rfl rfl trivial ?_
  refine vNil ?_
  change VC _ _ _ _
  refine vCond rfl (fun hb3 => ?_) (fun hb3 => ?_)
  ·replace h := cnd_t hb3 h
   refine vSkip ?_
   change VC _ _ _ _
   refine vSeq ?_
   refine vBlock ?_
   iterate 2 refine vSeq ?_
   refine vRegionD (by kernel_rfl) (by kernel_rfl) ?_
   iterate 3 refine cVal tt rfl (wNone rfl) rfl rfl rfl trivial ?_
   refine cSplit rfl rfl rfl (fun hb4 => ?_) (fun hb4 => ?_)
   ·replace h := cnd_t hb4 h
    iterate 3 refine cVal tt rfl (wSome rfl rfl rfl rfl hb4) rfl rfl rfl trivial ?_
    obtain ⟨hg5, h⟩ := grd_inv h
    refine cVal tt rfl (wSome rfl rfl rfl rfl hb4) rfl rfl rfl hg5 ?_
    iterate 2 refine cVal tt rfl (wSome rfl rfl rfl rfl hb4) rfl rfl rfl trivial ?_
    obtain ⟨v21, hc6, h⟩ := bind_inv h
    refine cCall (S_l2After_w N (g_0.bars.getD ((i19).toNat) (0, 0)) x_1 v21 hc6) rfl (wSome rfl rfl rfl rfl hb4) rfl rfl rfl rfl rfl rfl ⟨⟨rfl, rfl, trivial⟩, ⟨rfl, rfl, trivial⟩, trivial⟩ ?_
    refine cVal tt rfl (wSome rfl rfl rfl rfl hb4) rfl rfl rfl trivial ?_
    refine cPickT rfl (wNone rfl) rfl rfl rfl hb4 rfl ?_
    refine cNil ?_
    change VC _ _ _ _
    refine vCond rfl (fun hb7 => ?_) (fun hb7 => ?_)
    ·replace h := cnd_t hb7 h
     refine vSeq ?_
     refine vRegion ?_
     iterate 3 refine oVal tt rfl rfl rfl rfl rfl trivial ?_
     refine oBuild tt rfl rfl rfl rfl rfl rfl rfl rfl rfl rfl rfl ?_
     obtain ⟨hg8, h⟩ := grd_inv h
     refine oAppend tt rfl rfl rfl rfl rfl rfl rfl rfl rfl rfl rfl rfl rfl rfl rfl rfl (Nat.le_of_eq (Nat.zero_add _)) hg8 ?_
     refine oVal tt rfl rfl rfl rfl rfl trivial ?_
     refine oStore tt rfl rfl rfl rfl rfl rfl rfl rfl rfl rfl rfl ⟨trivial, trivial⟩ ?_
     refine vNil ?_
     change VC _ _ _ _
     refine vRegion ?_
     refine oVal tt rfl rfl rfl rfl rfl trivial ?_
     refine vNil ?_
     change VC _ _ _ _
     refine vRegionN 8 [7] [0, 1, 0, 4, 0, 28, 60, 124, 255, 511, 1023] (by kernel_rfl) (by kernel_rfl) (by kernel_rfl) (by kernel_rfl) (by kernel_rfl) rfl (by rfl) ?_
     iterate 5 refine nVal tt rfl (wNone rfl) rfl rfl rfl rfl rfl trivial ?_
     refine nVal tt rfl (wNone rfl) rfl rfl rfl rfl rfl hg5 ?_
     refine nVal tt rfl (wNone rfl) rfl rfl rfl rfl rfl trivial ?_
     refine nBuild tt (wNone rfl) rfl rfl rfl rfl rfl rfl rfl rfl rfl rfl rfl rfl ?_
     refine nNil ?_
     change VO _ _ _ _ _
     obtain ⟨hg9, h⟩ := grd_inv h
     refine oAppend tt rfl rfl rfl rfl rfl rfl rfl rfl rfl rfl rfl rfl rfl rfl rfl rfl (Nat.le_of_eq (Nat.zero_add _)) hg9 ?_
     refine oVal tt rfl rfl rfl rfl rfl trivial ?_
     refine oStore tt rfl rfl rfl rfl rfl rfl rfl rfl rfl rfl rfl ⟨trivial, trivial⟩ ?_
     refine vNil ?_
     change VC _ _ _ _
     refine vRegion ?_
     refine oVal tt rfl rfl rfl rfl rfl trivial ?_
     obtain ⟨hg10, h⟩ := grd_inv h
     refine oVal tt rfl rfl rfl rfl rfl hg10 ?_
     refine oVal tt rfl rfl rfl rfl rfl trivial ?_
     refine vNil ?_
     change ∃ _, _
     exact ⟨(((l17 ++ ([(x_1.1, x_1.2)] : List (Int × Int))) ++ ([((g_0.bars.getD ((i19).toNat) (0, 0)).1, (g_0.bars.getD ((i19).toNat) (0, 0)).2)] : List (Int × Int))), true, (i19 + (1 : Int))), (En.of ⟨rfl, rfl, rfl, rfl, rfl, rfl, trivial⟩ ⟨rfl, trivial⟩ ⟨rfl, rfl, rfl, rfl, trivial⟩), h⟩
    ·replace h := cnd_f hb7 h
     refine vSkip ?_
     change VC _ _ _ _
     refine vRegionN 8 [7] [0, 1, 0, 4, 0, 28, 60, 124, 255, 511, 1023] (by kernel_rfl) (by kernel_rfl) (by kernel_rfl) (by kernel_rfl) (by kernel_rfl) rfl (by rfl) ?_
     iterate 5 refine nVal tt rfl (wNone rfl) rfl rfl rfl rfl rfl trivial ?_
     refine nVal tt rfl (wNone rfl) rfl rfl rfl rfl rfl hg5 ?_
     refine nVal tt rfl (wNone rfl) rfl rfl rfl rfl rfl trivial ?_
     refine nBuild tt (wNone rfl) rfl rfl rfl rfl rfl rfl rfl rfl rfl rfl rfl rfl ?_
     refine nNil ?_
     change VO _ _ _ _ _
     obtain ⟨hg11, h⟩ := grd_inv h
     refine oAppend tt rfl rfl rfl rfl rfl rfl rfl rfl rfl rfl rfl rfl rfl rfl rfl rfl (Nat.le_of_eq (Nat.zero_add _)) hg11 ?_
     refine oVal tt rfl rfl rfl rfl rfl trivial ?_
     refine oStore tt rfl rfl rfl rfl rfl rfl rfl rfl rfl rfl rfl ⟨trivial, trivial⟩ ?_
     refine vNil ?_
     change VC _ _ _ _
     refine vRegion ?_
     refine oVal tt rfl rfl rfl rfl rfl trivial ?_
     obtain ⟨hg12, h⟩ := grd_inv h
     refine oVal tt rfl rfl rfl rfl rfl hg12 ?_
     refine oVal tt rfl rfl rfl rfl rfl trivial ?_
     refine vNil ?_
     change ∃ _, _
     exact ⟨((l17 ++ ([((g_0.bars.getD ((i19).toNat) (0, 0)).1, (g_0.bars.getD ((i19).toNat) (0, 0)).2)] : List (Int × Int))), placed18, (i19 + (1 : Int))), (En.of ⟨rfl, rfl, rfl, rfl, rfl, rfl, trivial⟩ ⟨rfl, trivial⟩ ⟨rfl, rfl, rfl, rfl, trivial⟩), h⟩
   ·replace h := cnd_f hb4 h
    iterate 8 refine cNoT rfl rfl rfl rfl hb4 rfl rfl ?_
    refine cPickF rfl (wNone rfl) rfl rfl rfl hb4 rfl ?_
    refine cNil ?_
    change VC _ _ _ _
    refine vCondF rfl rfl ?_
    refine vSkip ?_
    change VC _ _ _ _
    refine vRegionN 8 [7] [0, 1, 0, 4, 0, 28, 60, 124, 255, 511, 1023] (by kernel_rfl) (by kernel_rfl) (by kernel_rfl) (by kernel_rfl) (by kernel_rfl) rfl (by rfl) ?_
    iterate 5 refine nVal tt rfl (wNone rfl) rfl rfl rfl rfl rfl trivial ?_
    obtain ⟨hg13, h⟩ := grd_inv h
    refine nVal tt rfl (wNone rfl) rfl rfl rfl rfl rfl hg13 ?_
    refine nVal tt rfl (wNone rfl) rfl rfl rfl rfl rfl trivial ?_
    refine nBuild tt (wNone rfl) rfl rfl rfl rfl rfl rfl rfl rfl rfl rfl rfl rfl ?_
    refine nNil ?_
    change VO _ _ _ _ _
    obtain ⟨hg14, h⟩ := grd_inv h
    refine oAppend tt rfl rfl rfl rfl rfl rfl rfl rfl rfl rfl rfl rfl rfl rfl rfl rfl (Nat.le_of_eq (Nat.zero_add _)) hg14 ?_
    refine oVal tt rfl rfl rfl rfl rfl trivial ?_
    refine oStore tt rfl rfl rfl rfl rfl rfl rfl rfl rfl rfl rfl ⟨trivial, trivial⟩ ?_
    refine vNil ?_
    change VC _ _ _ _
    refine vRegion ?_
    refine oVal tt rfl rfl rfl rfl rfl trivial ?_
    obtain ⟨hg15, h⟩ := grd_inv h
    refine oVal tt rfl rfl rfl rfl rfl hg15 ?_
    refine oVal tt rfl rfl rfl rfl rfl trivial ?_
    refine vNil ?_
    change ∃ _, _
    exact ⟨((l17 ++ ([((g_0.bars.getD ((i19).toNat) (0, 0)).1, (g_0.bars.getD ((i19).toNat) (0, 0)).2)] : List (Int × Int))), placed18, (i19 + (1 : Int))), (En.of ⟨rfl, rfl, rfl, rfl, rfl, rfl, trivial⟩ ⟨rfl, trivial⟩ ⟨rfl, rfl, rfl, rfl, trivial⟩), h⟩
  ·replace h := cnd_f hb3 h
   refine vExit ?_
   change ∃ _, _
   exact ⟨(l17, placed18), (En.of ⟨rfl, rfl, rfl, rfl, trivial⟩ ⟨rfl, trivial⟩ ⟨rfl, rfl, rfl, trivial⟩), h⟩
def S_NewPebbles_l1 (N : Nat) (g_0 : Grf) (k_1 : Int) (k : (List Int) → Option (Pbl × Bool)) : Nat → ((List Int) × Int) → Option (Pbl × Bool)
 | 0, _ => none
 | n + 1, (l9, i10) =>
  cnd (decide (i10 < g_0.n)) (
   grd (l9.length + 1 ≤ 4294967296) <|
   grd (Rg64 (i10 + (1 : Int))) <|
   S_NewPebbles_l1 N g_0 k_1 k n ((l9 ++ ([k_1] : List Int)), (i10 + (1 : Int)))) (
   k l9)
def S_NewPebbles (N : Nat) (g_0 : Grf) (k_1 : Int) : Option (Pbl × Bool) :=
 (S_IsGraph N g_0).bind fun v1 =>
 cnd (!v1) (
  some ((⟨([] : List Int), [], []⟩ : Pbl), false)) (
  (S_l1In N k_1 (1 : Int) (3 : Int)).bind fun v2 =>
  cnd (!v2) (
   some ((⟨([] : List Int), [], []⟩ : Pbl), false)) (
   S_NewPebbles_l1 N g_0 k_1 (fun (l6 : List Int) =>
      some ((⟨l6, [], []⟩ : Pbl), true)) N (([] : List Int), (0 : Int))))
set_option maxRecDepth 20000 in
set_option maxHeartbeats 1600000 in
theorem S_NewPebbles_w (N : Nat) (g_0 : Grf) (k_1 : Int) (r : Pbl × Bool) (h : S_NewPebbles N g_0 k_1 = some r) : PCall Tryz.prog 182 [gD g_0, .int k_1] [(3, .ints r.1.free)] (.tup [.agg [.row 0 0 r.1.free.length, .nil, .nil], .bool r.2]) := by
 unfold S_NewPebbles at h
 refine pcall_intro (TT := TT) tt Tryz.func182 rfl rfl Tryz.ntmps182 (congrArg Array.toList Tryz.results182) rfl rfl fun w0 => ?_
 refine vSeq ?_
 refine vRegion ?_
 refine oBox rfl rfl rfl rfl rfl rfl rfl rfl rfl ?_
 refine oAlloc tt rfl rfl rfl rfl rfl rfl rfl rfl rfl ?_
 refine oVal tt rfl rfl rfl rfl rfl trivial ?_
 refine vNil ?_
 change VC _ _ _ _
 refine vSeq ?_
 refine vRegion ?_
 iterate 3 refine oEmpty tt (wNone rfl) rfl rfl rfl rfl ?_
 refine oPure (wNone rfl) (pBuild bld_impl_Pebbles rfl rfl) rfl rfl ?_
 refine oAlloc tt rfl rfl rfl rfl rfl rfl rfl rfl rfl ?_
 refine oStore tt rfl rfl rfl rfl rfl rfl rfl rfl rfl rfl rfl ⟨trivial, trivial, trivial, trivial⟩ ?_
 refine vNil ?_
 change VC _ _ _ _
 iterate 2 refine vSeq ?_
 refine vRegion ?_
 refine oVal tt rfl rfl rfl rfl rfl trivial ?_
 obtain ⟨v1, hc1, h⟩ := bind_inv h
 refine oCall (S_IsGraph_w N g_0 v1 hc1) rfl rfl rfl rfl rfl rfl rfl rfl ⟨⟨rfl, rfl, trivial⟩, trivial⟩ ?_
 iterate 2 refine oVal tt rfl rfl rfl rfl rfl trivial ?_
 refine oSplit rfl rfl rfl (fun hb2 => ?_) (fun hb2 => ?_)
 ·replace h := cnd_t hb2 h
  iterate 3 refine oNoF rfl rfl rfl rfl hb2 rfl rfl ?_
  refine oPick rfl rfl rfl rfl rfl hb2 rfl ?_
  refine vNil ?_
  change VC _ _ _ _
  refine vCondT rfl rfl ?_
  refine vSeq ?_
  refine vRegion ?_
  refine oPure (wNone rfl) (pBuild bld_impl_Pebbles rfl rfl) rfl rfl ?_
  refine oStore tt rfl rfl rfl rfl rfl rfl rfl rfl rfl rfl rfl ⟨trivial, trivial, trivial, trivial⟩ ?_
  refine oVal tt rfl rfl rfl rfl rfl trivial ?_
  refine vNil ?_
  change VC _ _ _ _
  refine vNilB 4 0 9001 3 (.ints []) rfl rfl rfl rfl rfl ?_
  refine vRet ?_
  change ∃ _, _
  cases h
  exact ⟨[9001], _, rfl, ⟨rfl, trivial⟩, rfl, (.eq rfl), rfl⟩
 ·replace h := cnd_f hb2 h
  refine oValG tt rfl rfl rfl rfl rfl hb2 rfl rfl rfl trivial ?_
  obtain ⟨v2, hc3, h⟩ := bind_inv h
  refine oCallG (S_l1In_w N k_1 (1 : Int) (3 : Int) v2 hc3) rfl rfl rfl rfl hb2 rfl rfl rfl rfl rfl rfl rfl ⟨rfl, rfl, rfl, trivial⟩ ?_
  refine oValG tt rfl rfl rfl rfl rfl hb2 rfl rfl rfl trivial ?_
  refine oPickF rfl rfl rfl rfl rfl hb2 rfl ?_
  refine vNil ?_
  change VC _ _ _ _
  refine vCond rfl (fun hb4 => ?_) (fun hb4 => ?_)
  ·replace h := cnd_t hb4 h
   refine vSeq ?_
   refine vRegion ?_
   refine oPure (wNone rfl) (pBuild bld_impl_Pebbles rfl rfl) rfl rfl ?_
   refine oStore tt rfl rfl rfl rfl rfl rfl rfl rfl rfl rfl rfl ⟨trivial, trivial, trivial, trivial⟩ ?_
   refine oVal tt rfl rfl rfl rfl rfl trivial ?_
   refine vNil ?_
   change VC _ _ _ _
   refine vNilB 4 0 9001 3 (.ints []) rfl rfl rfl rfl rfl ?_
   refine vRet ?_
   change ∃ _, _
   cases h
   exact ⟨[9001], _, rfl, ⟨rfl, trivial⟩, rfl, (.eq rfl), rfl⟩
  ·replace h := cnd_f hb4 h
   refine vSkip ?_
   change VC _ _ _ _
   iterate 2 refine vSeq ?_
   refine vRegion ?_
   refine oVal tt rfl rfl rfl rfl rfl trivial ?_
   refine vNil ?_
   change VC _ _ _ _
   refine vJoin (F := fun k => S_NewPebbles_l1 N g_0 k_1 k) h (α := List Int) (J := fun (l6 : List Int) => (⟨[(4, .ptr 4 0), (6, .ptr 6 0)], [(31, some (3, .ints l6))], [(4, some [.nil, .nil, .nil]), (6, some [.row 31 0 l6.length, .nil, .nil])]⟩ : PS)) ?_ ?_
   ·rintro l6 h
    show VC _ _ _ (⟨[(4, .ptr 4 0), (6, .ptr 6 0)], [(31, some (3, .ints l6))], [(4, some [.nil, .nil, .nil]), (6, some [.row 31 0 l6.length, .nil, .nil])]⟩ : PS)
    refine vSeq ?_
    refine vRegion ?_
    refine oVal tt rfl rfl rfl rfl rfl trivial ?_
    refine oStore tt rfl rfl rfl rfl rfl rfl rfl rfl rfl rfl rfl ⟨trivial, trivial, trivial, trivial⟩ ?_
    refine oVal tt rfl rfl rfl rfl rfl trivial ?_
    refine vNil ?_
    change VC _ _ _ _
    refine vRet ?_
    change ∃ _, _
    cases h
    exact ⟨[31], _, rfl, ⟨rfl, trivial⟩, rfl, (.eq rfl), rfl⟩
   ·intro k h
    refine vBlock ?_
    refine vNilB 6 0 31 3 (.ints []) rfl rfl rfl rfl rfl ?_
    refine vLoopS (α := (List Int) × Int) (fun | (l9, i10) => (⟨[(1, .int k_1), (2, .ptr 2 0), (4, .ptr 4 0), (6, .ptr 6 0), (7, .int i10)], [(31, some (3, .ints l9))], [(2, some [.int g_0.n, .ro false (.pairs g_0.bars)]), (4, some [.nil, .nil, .nil]), (6, some [.row 31 0 l9.length, .nil, .nil])]⟩ : PS)) (S_NewPebbles_l1 N g_0 k_1 k) h (En.of ⟨rfl, rfl, rfl, rfl, rfl, trivial⟩ ⟨rfl, trivial⟩ ⟨rfl, rfl, rfl, trivial⟩) (fun _ => rfl) ?_
    rintro n ⟨l9, i10⟩ h
    rw [S_NewPebbles_l1] at h
    show VC _ _ _ (⟨[(1, .int k_1), (2, .ptr 2 0), (4, .ptr 4 0), (6, .ptr 6 0), (7, .int i10)], [(31, some (3, .ints l9))], [(2, some [.int g_0.n, .ro false (.pairs g_0.bars)]), (4, some [.nil, .nil, .nil]), (6, some [.row 31 0 l9.length, .nil, .nil])]⟩ : PS)
    iterate 2 refine vSeq ?_
    refine vRegion ?_
    iterate 4 refine oVal tt rfl rfl rfl rfl rfl trivial ?_
    refine vNil ?_
    change VC _ _ _ _
    refine vCond rfl (fun hb5 => ?_) (fun hb5 => ?_)
    ·replace h := cnd_t hb5 h
     refine vSkip ?_
     change VC _ _ _ _
     refine vSeq ?_
     refine vBlock ?_
     refine vRegion ?_
     iterate 3 refine oVal tt rfl rfl rfl rfl rfl trivial ?_
     refine oBuild tt rfl rfl rfl rfl rfl rfl rfl rfl rfl rfl rfl ?_
     obtain ⟨hg6, h⟩ := grd_inv h
     refine oAppend tt rfl rfl rfl rfl rfl rfl rfl rfl rfl rfl rfl rfl rfl rfl rfl rfl (Nat.le_of_eq (Nat.zero_add _)) hg6 ?_
     refine oVal tt rfl rfl rfl rfl rfl trivial ?_
     refine oStore tt rfl rfl rfl rfl rfl rfl rfl rfl rfl rfl rfl ⟨trivial, trivial⟩ ?_
     refine vNil ?_
     change VC _ _ _ _
     refine vRegion ?_
     refine oVal tt rfl rfl rfl rfl rfl trivial ?_
     obtain ⟨hg7, h⟩ := grd_inv h
     refine oVal tt rfl rfl rfl rfl rfl hg7 ?_
     refine oVal tt rfl rfl rfl rfl rfl trivial ?_
     refine vNil ?_
     change ∃ _, _
     exact ⟨((l9 ++ ([k_1] : List Int)), (i10 + (1 : Int))), (En.of ⟨rfl, rfl, rfl, rfl, rfl, trivial⟩ ⟨rfl, trivial⟩ ⟨rfl, rfl, rfl, trivial⟩), h⟩
    ·replace h := cnd_f hb5 h
     refine vExit ?_
     change ∃ _, _
     exact ⟨l9, (En.of ⟨rfl, rfl, trivial⟩ ⟨rfl, trivial⟩ ⟨rfl, rfl, trivial⟩), h⟩
def I_bar (N : Nat) (a_0 : Int) (b_1 : Int) : Option (Int × Int) :=
 some ((min a_0 b_1), (max a_0 b_1))
set_option maxRecDepth 20000 in
set_option maxHeartbeats 1600000 in
theorem I_bar_w (N : Nat) (a_0 : Int) (b_1 : Int) (r : Int × Int) (h : I_bar N a_0 b_1 = some r) : PCall Tryz.prog 70 [.int a_0, .int b_1] [] (.agg [.int r.1, .int r.2]) := by
 unfold I_bar at h
 refine pcall_intro (TT := TT) tt Tryz.func70 rfl rfl Tryz.ntmps70 (congrArg Array.toList Tryz.results70) rfl rfl fun w0 => ?_
 refine vSeq ?_
 refine vRegion ?_
 refine oAlloc tt rfl rfl rfl rfl rfl rfl rfl rfl rfl ?_
 refine vNil ?_
 change VC _ _ _ _
 refine vSeq ?_
 refine vRegion ?_
 iterate 6 refine oVal tt rfl rfl rfl rfl rfl trivial ?_
 refine oPure (wNone rfl) (pBuild bld_impl_Bar rfl rfl) rfl rfl ?_
 refine oStore tt rfl rfl rfl rfl rfl rfl rfl rfl rfl rfl rfl ⟨trivial, trivial, trivial⟩ ?_
 refine vNil ?_
 change VC _ _ _ _
 refine vRet ?_
 change ∃ _, _
 cases h
 exact ⟨[], _, rfl, trivial, rfl, (.eq rfl), rfl⟩
end Go.Proofs.YtmoamglpocjhgaaGreat
namespace Go.Proofs.YtmoamglpocjhgaaGreat
variable {n : Nat} {N : Nat}
structure Gm (n : Nat) (bars : List (Int × Int)) (p : Pbl) (i : Nat) : Prop where
 pg : PG n bars p
 spr : Spr n (p.placed.map (brI bars))
 sp : ∀ j, j < i → ∃ X, Tgt n (p.placed.map (brI bars)) X ∧ inX X (bars.getD j (0, 0)) = true
theorem Gm.skip {bars : List (Int × Int)} {p : Pbl} {i : Nat} (h : Gm n bars p i) (hX : ∃ X, Tgt n (p.placed.map (brI bars)) X ∧ inX X (bars.getD i (0, 0)) = true) : Gm n bars p (i + 1) := ⟨h.pg, h.spr, fun j hj => by
 by_cases e : j = i
 ·subst e; exact hX
 ·exact h.sp j (by omega)⟩
theorem Gm.put {bars : List (Int × Int)} {p p' : Pbl} {i : Nat} (h : Gm n bars p i) (hi : i < bars.length) (hb : Bok n (bars.getD i (0, 0))) (hp : p'.placed = p.placed) (hg : PG n bars p') {t : Int} (ht : t = (bars.getD i (0, 0)).1 ∨ t = (bars.getD i (0, 0)).2) (hf : 1 ≤ p'.free.getD t.toNat 0) (h4 : 4 ≤ p'.free.getD (bars.getD i (0, 0)).1.toNat 0 + p'.free.getD (bars.getD i (0, 0)).2.toNat 0) :
  Gm n bars ⟨p'.free.set t.toNat (p'.free.getD t.toNat 0 - 1), p'.tails ++ [t], p'.placed ++ [(i : Int)]⟩ (i + 1) := by
 have hE : ((p'.placed ++ [(i : Int)]).map (brI bars)) = p.placed.map (brI bars) ++ [bars.getD i (0, 0)] := by rw [hp]; simp
 have hg' := hg.inv
 rw [hp] at hg'
 have hs : Spr n (p.placed.map (brI bars) ++ [bars.getD i (0, 0)]) := hg'.acc h.spr (a := (bars.getD i (0, 0)).1) (b := (bars.getD i (0, 0)).2) hb h4
 refine ⟨⟨?_, fun x hx => ?_⟩, ?_, fun j hj => ?_⟩
 ·show PInv n ((p'.placed ++ [(i : Int)]).map (brI bars)) _ _
  rw [hE]
  exact hg'.put (a := (bars.getD i (0, 0)).1) (b := (bars.getD i (0, 0)).2) hb ht hf
 ·rcases List.mem_append.1 hx with hx | hx
  ·exact hg.pl x hx
  ·simp at hx; subst hx; exact ⟨by omega, by omega⟩
 ·show Spr n ((p'.placed ++ [(i : Int)]).map (brI bars))
  rw [hE]; exact hs
 ·show ∃ X, Tgt n ((p'.placed ++ [(i : Int)]).map (brI bars)) X ∧ _
  rw [hE]
  by_cases e : j = i
  ·subst e
   exact ⟨_, tgt_bar (by simp) hb, by simp [inX, v2]⟩
  ·obtain ⟨X, g1, g2⟩ := h.sp j (by omega)
   exact ⟨X, g1.grow (by rw [spn_append]; omega), g2⟩
theorem Gm.bas {bars : List (Int × Int)} {p : Pbl} (h : Gm n bars p bars.length) : Bas n bars (p.placed.map (brI bars)) := by
 refine ⟨fun e he => ?_, h.spr, fun e he => ?_⟩
 ·obtain ⟨i, hi, rfl⟩ := List.mem_map.1 he
  have := h.pg.pl i hi
  exact getD_mem (by omega)
 ·obtain ⟨j, hj, e'⟩ := List.mem_iff_getElem.1 he
  have := h.sp j hj
  rwa [List.getD_eq_getElem?_getD, List.getElem?_eq_getElem hj, Option.getD_some, e'] at this
theorem Gm.start (bars : List (Int × Int)) : Gm n bars ⟨List.replicate n 2, [], []⟩ 0 := by
 refine ⟨⟨⟨by simp, by simp, by simp, by simp, fun v hv => ?_, fun v hv => ?_⟩, by simp⟩, fun X h => by simp [spn] at h, fun j h => by omega⟩
 ·simp [List.getD_eq_getElem?_getD, List.getElem?_replicate, hv]
 ·simp [List.getD_eq_getElem?_getD, List.getElem?_replicate, hv]
variable {g : Grf} (hN : 4000000 ≤ N) (hn : n ≤ 1000) (hg : g.n = n)
end Go.Proofs.YtmoamglpocjhgaaGreat
namespace Go.Proofs.YtmoamglpocjhgaaGreat
variable {n : Nat} {a b : Int} {N : Nat}
theorem mfind_app : ∀ (l : List (Int × Int)) (k v w : Int), mfind (l ++ [(k, v)]) w = match mfind l w with | some p => some p | none => if k = w then some (l.length, v) else none
 | [], k, v, w => by simp [mfind]
 | (x, y) :: l, k, v, w => by
  simp only [List.cons_append, mfind]
  by_cases h : x = w
  ·simp [h]
  ·rw [if_neg h, if_neg h, mfind_app l k v w]
   cases mfind l w with
   | some p => simp
   | none => simp only [Option.map_none]; split <;> simp
theorem mset_new {l : List (Int × Int)} {k v : Int} (h : mhas l k = false) : mset l k v = l ++ [(k, v)] := by
 unfold mhas at h
 unfold mset
 cases hm : mfind l k with
 | none => rfl
 | some p => rw [hm] at h; cases h
theorem mget_new {l : List (Int × Int)} {k v : Int} (h : mhas l k = false) : mget (mset l k v) k = v := by
 rw [mset_new h]
 unfold mget
 rw [mfind_app]
 unfold mhas at h
 cases hm : mfind l k with
 | none => simp
 | some p => rw [hm] at h; cases h
theorem mget_old {l : List (Int × Int)} {k v w : Int} (h : mhas l k = false) (hw : mhas l w = true) : mget (mset l k v) w = mget l w := by
 rw [mset_new h]
 unfold mget
 rw [mfind_app]
 unfold mhas at hw
 cases hm : mfind l w with
 | none => rw [hm] at hw; cases hw
 | some p => rfl
theorem mhas_set {l : List (Int × Int)} {k v w : Int} (h : mhas l k = false) : mhas (mset l k v) w = (mhas l w || k == w) := by
 rw [mset_new h]
 unfold mhas
 rw [mfind_app]
 cases hm : mfind l w with
 | none =>
  by_cases e : k = w
  ·simp [e]
  ·simp [e]
 | some p => simp
theorem otherI_s {e : Int × Int} {v : Int} (h : v = e.1 ∨ v = e.2) : M_Bar_other N e v = some (oth e v) := by
 unfold M_Bar_other oth
 by_cases h1 : e.1 = v
 ·rw [cnd_eqt h1, ← h1]; congr 1; omega
 ·rw [cnd_eqf h1]
  have := h.resolve_left (fun h => h1 h.symm)
  rw [this]; congr 1; omega
theorem copyIntsR {l : List Int} (hl : l.length ≤ 3000000) : I_copyInts N l = some l := by
 unfold I_copyInts
 rw [grd_pos (by first | omega | (simp; omega))]
 rfl
structure FI (n : Nat) (bars : List (Int × Int)) (p : Pbl) (a b : Int) (q : List Int) (mp : List (Int × Int)) : Prop where
 bi : BI n (p.placed.map (brI bars)) p.tails a q (mget mp)
 bz : BZ p.free a b q
 sq : ∀ v : Int, mhas mp v = decide (v ∈ q)
section
variable {bars : List (Int × Int)} {p : Pbl} (hN : 4000000 ≤ N) (hn : n ≤ 1000) (hp : PG n bars p)
include hp in
theorem PG.plAt' {i : Nat} (h : i < p.placed.length) : 0 ≤ p.placed.getD i 0 ∧ p.placed.getD i 0 < (bars.length : Int) := hp.pl _ (getD_mem h)
include hp in
theorem PG.bok' {i : Nat} (h : i < p.placed.length) : Bok n (bars.getD (p.placed.getD i 0).toNat (0, 0)) := by
 rw [← eAt h]; exact hp.inv.ok _ (getD_mem (by simpa using h))
include hp in
theorem turn_s {from' : List (Int × Int)} {q : List Int} {u x v : Int} {kk : List Int → Option (Bool × List Int × List Int × List Int)} (hb : BI n (p.placed.map (brI bars)) p.tails a q (mget (mset from' v x))) :
  ∀ (fuel j : Nat) (T' : List Int), j < q.length → j < fuel → Mv (p.placed.map (brI bars)) p.tails T' u (q.getD j 0) →
   (∀ j', 0 < j' → j' ≤ j → T'.getD (mget (mset from' v x) (q.getD j' 0)).toNat 0 = p.tails.getD (mget (mset from' v x) (q.getD j' 0)).toNat 0) →
   ∃ T'', Mv (p.placed.map (brI bars)) p.tails T'' u a ∧ I_moveTo_l3 N p a from' x v kk fuel (T', q.getD j 0) = kk T'' := by
 intro fuel
 induction fuel with
 | zero => intro j T' _ h; omega
 | succ fuel ih =>
  intro j T' hj hf hm hun
  rw [I_moveTo_l3]
  by_cases h0 : j = 0
  ·subst h0
   refine ⟨T', by rw [hb.hd] at hm; exact hm, ?_⟩
   rw [cnd_nef hb.hd]
  ·have hne : ¬ q.getD j 0 = a := by
    intro e
    rw [← hb.hd] at e
    have hp0 := hb.pos
    rw [List.getD_eq_getElem?_getD, List.getD_eq_getElem?_getD, List.getElem?_eq_getElem hj, List.getElem?_eq_getElem hp0] at e
    have := (List.getElem_inj hb.nd).1 e
    omega
   obtain ⟨j', i, g1, g2, g3, g4, g5, g6, g7⟩ := hb.back hp.inv (by omega) hj hm hun
   have hip : i < p.placed.length := by simpa using g2
   obtain ⟨T'', k1, k2⟩ := ih j' (T'.set i (q.getD j 0)) (by omega) (by omega) g6 g7
   refine ⟨T'', k1, ?_⟩
   have htl := hp.inv.tl
   have hml := hm.len
   simp only [List.length_map] at htl
   simp (disch := omega) only [Int.toNat_natCast, tk0, List.length_cons, List.length_nil, grd_pos, grd_T, grd_R, cnd_dt, cnd_df, cnd_true, cnd_false, Option.bind_some, cnd_net hne, g3, hml, htl, g5, k2]
theorem FI.pushB {q : List Int} {mp : List (Int × Int)} (h : FI n bars p a b q mp) {k i : Nat} {v : Int} (hk : k < q.length) (hi : i < p.placed.length) (ht : p.tails.getD i 0 = q.getD k 0) (hv : oth ((p.placed.map (brI bars)).getD i (0, 0)) (q.getD k 0) = v) (hr : 0 ≤ v ∧ v < n) (hn : v ∉ q) :
  BI n (p.placed.map (brI bars)) p.tails a (q ++ [v]) (mget (mset mp v (i : Int))) := by
 have hm : mhas mp v = false := by rw [h.sq v]; exact decide_eq_false hn
 exact h.bi.push hk (by simpa using hi) ht hv hr hn (mget_new hm) fun w hw => mget_old hm (by rw [h.sq w]; exact decide_eq_true hw)
theorem FI.push {q : List Int} {mp : List (Int × Int)} (h : FI n bars p a b q mp) {k i : Nat} {v : Int} (hk : k < q.length) (hi : i < p.placed.length) (ht : p.tails.getD i 0 = q.getD k 0) (hv : oth ((p.placed.map (brI bars)).getD i (0, 0)) (q.getD k 0) = v) (hr : 0 ≤ v ∧ v < n) (hn : v ∉ q) (hz : v = b ∨ p.free.getD v.toNat 0 = 0) :
  FI n bars p a b (q ++ [v]) (mset mp v (i : Int)) := by
 have hm : mhas mp v = false := by rw [h.sq v]; exact decide_eq_false hn
 refine ⟨h.pushB hk hi ht hv hr hn, h.bz.push hz, fun w => ?_⟩
 rw [mhas_set hm, h.sq w]
 by_cases e : v = w
 ·subst e; simp
 ·have e' : ¬ w = v := fun h => e h.symm
  simp [e, e']
include hN hn hp in
theorem move2_s {k : Nat} {kk : (List Int × List (Int × Int)) → Option (Bool × List Int × List Int × List Int)} (hab : a ≠ b) (hbr : 0 ≤ b ∧ b < n) :
  ∀ (fuel m : Nat) (q : List Int) (mp : List (Int × Int)), m ≤ p.placed.length → p.placed.length < fuel + m → FI n bars p a b q mp → Done (p.placed.map (brI bars)) p.tails q k m → k < q.length →
   (∃ p' : Pbl, I_moveTo_l2 N bars p a b k kk fuel (q, mp, (m : Int)) = some (true, p'.free, p'.tails, p'.placed) ∧ Won n (p.placed.map (brI bars)) p.free p'.free p'.tails a b ∧ p'.placed = p.placed) ∨
   ∃ q' mp', I_moveTo_l2 N bars p a b k kk fuel (q, mp, (m : Int)) = kk (q', mp') ∧ FI n bars p a b q' mp' ∧ Done (p.placed.map (brI bars)) p.tails q' (k + 1) 0 ∧ k < q'.length := by
 intro fuel
 induction fuel with
 | zero => intro m _ _ h1 h2; omega
 | succ fuel ih =>
  intro m q mp h1 h2 hF hD hk
  rw [I_moveTo_l2]
  have hlen : (p.placed.map (brI bars)).length = p.placed.length := by simp
  by_cases hm : m < p.placed.length
  ·have htl := hp.inv.tl
   have hfr := hp.inv.fl
   rw [hlen] at htl
   have hpl := hp.plAt' hm
   have ht2 := hp.inv.tlen
   have hql := hF.bi.len
   by_cases ht : p.tails.getD m 0 = q.getD k 0
   ·have hbk := hp.bok' hm
    have hen := hp.inv.en m (by rw [hlen]; exact hm)
    rw [eAt hm, ht] at hen
    have hr0 := hF.bi.rg _ (getD_mem (d := 0) hk)
    have eo := otherI_s (N := N) hen
    have hvr := oth_rg hbk hen
    generalize hv : oth (bars.getD (p.placed.getD m 0).toNat (0, 0)) (q.getD k 0) = v at hvr
    rw [hv] at eo
    have hvo : oth ((p.placed.map (brI bars)).getD m (0, 0)) (q.getD k 0) = v := by rw [eAt hm, hv]
    have hsq := hF.sq v
    by_cases hs : v ∈ q
    ·have hsq : mhas mp v = true := by rw [hsq]; exact decide_eq_true hs
     simp (disch := omega) only [Int.toNat_natCast, tk0, List.length_cons, List.length_nil, grd_pos, grd_T, grd_R, cnd_dt, cnd_df, cnd_true, cnd_false, Option.bind_some, cnd_nef ht, eo, hsq, succ_cast]
     exact ih (m + 1) q mp (by omega) (by omega) hF (hD.step fun _ _ => by rw [hvo]; exact hs) hk
    ·have hsq : mhas mp v = false := by rw [hsq]; exact decide_eq_false hs
     have hD' : Done (p.placed.map (brI bars)) p.tails (q ++ [v]) k (m + 1) := (hD.push hk).step fun _ _ => by rw [getD_appl hk, hvo]; simp
     by_cases hvb : v = b
     ·have hF' := hF.push (i := m) hk hm ht hvo hvr hs (.inl hvb)
      simp (disch := omega) only [Int.toNat_natCast, tk0, List.length_cons, List.length_nil, grd_pos, grd_T, grd_R, cnd_dt, cnd_df, cnd_true, cnd_false, Option.bind_some, cnd_nef ht, eo, hsq, succ_cast, cnd_eqt hvb]
      exact ih (m + 1) _ _ (by omega) (by omega) hF' hD' (by simp; omega)
     ·by_cases hz : p.free.getD v.toNat 0 = 0
      ·have hF' := hF.push (i := m) hk hm ht hvo hvr hs (.inr hz)
       simp (disch := omega) only [Int.toNat_natCast, tk0, List.length_cons, List.length_nil, grd_pos, grd_T, grd_R, cnd_dt, cnd_df, cnd_true, cnd_false, Option.bind_some, cnd_nef ht, eo, hsq, succ_cast, cnd_eqf hvb, cnd_eqt hz]
       exact ih (m + 1) _ _ (by omega) (by omega) hF' hD' (by simp; omega)
      ·left
       have n0 := hp.inv.nn v.toNat (by omega)
       have n2 := hp.inv.le2 (v := v.toNat) (by omega)
       have hb2 := hF.pushB hk hm ht hvo hvr hs
       have e1 : (q ++ [v]).getD q.length 0 = v := by rw [getD_app]; simp
       have ha : 0 ≤ a ∧ a < n := by have := hF.bi.rg _ (getD_mem (d := 0) hF.bi.pos); rwa [hF.bi.hd] at this
       have hva : v ≠ a := by
        rintro rfl
        have := getD_mem (d := (0 : Int)) hF.bi.pos
        rw [hF.bi.hd] at this
        exact hs this
       obtain ⟨T'', k1, k2⟩ := turn_s hp (N := N) (u := v)
        (kk := fun l310 => grd (p.free.length = (fMove p.free v a).length) <| grd (p.tails.length = l310.length) <| some (true, fMove p.free v a, l310, p.placed)) hb2 N q.length p.tails (by simp) (by omega) (by rw [e1]; exact Mv.start hp.inv _) (fun _ _ _ => rfl)
       rw [e1] at k2
       have b2 : 0 ≤ (p.free.set v.toNat (p.free.getD v.toNat 0 - 1)).getD a.toNat 0 ∧ (p.free.set v.toNat (p.free.getD v.toNat 0 - 1)).getD a.toNat 0 ≤ 2 := by
        rw [getD_set]
        have := hp.inv.le2 (v := a.toNat) (by omega)
        have := hp.inv.nn a.toNat (by omega)
        split <;> omega
       refine ⟨⟨fMove p.free v a, T'', p.placed⟩, ?_, k1.won hp.inv ha hvr hbr hva hvb hab (by omega), rfl⟩
       have t3 := k1.len
       simp only [fMove, List.length_set, grd_T] at k2 ⊢
       simp (disch := omega) only [Int.toNat_natCast, tk0, List.length_cons, List.length_nil, grd_pos, grd_T, grd_R, cnd_dt, cnd_df, cnd_true, cnd_false, Option.bind_some, cnd_nef ht, eo, hsq, succ_cast, cnd_eqf hvb, cnd_eqf hz, List.length_set]
       rw [k2]
       exact grd_pos t3.symm _
   ·simp (disch := omega) only [Int.toNat_natCast, tk0, List.length_cons, List.length_nil, grd_pos, grd_T, grd_R, cnd_dt, cnd_df, cnd_true, cnd_false, Option.bind_some, cnd_net ht, succ_cast]
    exact ih (m + 1) q mp (by omega) (by omega) hF (hD.step fun _ e => absurd e ht) hk
  ·right
   have e : m = (p.placed.map (brI bars)).length := by omega
   refine ⟨q, mp, ?_, hF, by subst e; exact hD.next, hk⟩
   simp (disch := omega) only [Int.toNat_natCast, tk0, List.length_cons, List.length_nil, grd_pos, grd_T, grd_R, cnd_dt, cnd_df, cnd_true, cnd_false, Option.bind_some]
include hN hn hp in
theorem move1_s {kk : Unit → Option (Bool × List Int × List Int × List Int)} (hab : a ≠ b) (hbr : 0 ≤ b ∧ b < n) :
  ∀ (fuel k : Nat) (q : List Int) (mp : List (Int × Int)), n < fuel + k → FI n bars p a b q mp → Done (p.placed.map (brI bars)) p.tails q k 0 → k ≤ q.length →
   (∃ p' : Pbl, I_moveTo_l1 N bars p a b kk fuel (q, mp, (k : Int)) = some (true, p'.free, p'.tails, p'.placed) ∧ Won n (p.placed.map (brI bars)) p.free p'.free p'.tails a b ∧ p'.placed = p.placed) ∨
   (I_moveTo_l1 N bars p a b kk fuel (q, mp, (k : Int)) = kk () ∧ Shut n (p.placed.map (brI bars)) p.free p.tails a b) := by
 intro fuel
 induction fuel with
 | zero => intro k q mp h1 hF hD hk; have := hF.bi.len; omega
 | succ fuel ih =>
  intro k q mp h1 hF hD hk
  have ht2 := hp.inv.tlen
  have htl := hp.inv.tl
  simp only [List.length_map] at htl
  by_cases hkq : k < q.length
  ·have hql := hF.bi.len
   have key := move2_s (k := k) (kk := (fun (x : (List Int) × (List (Int × Int))) =>
     match x with
     | (l287, from288) =>
      grd (Rg64 ((k : Int) + (1 : Int))) <|
      I_moveTo_l1 N bars p a b kk fuel (l287, from288, ((k : Int) + (1 : Int))))) hN hn hp hab hbr N 0 q mp (by omega) (by omega) hF hD hkq
   rw [show ((0 : Nat) : Int) = 0 from rfl] at key
   rcases key with ⟨p', g1, g2, g3⟩ | ⟨q2, m2, g1, g2, g3, g4⟩
   ·left
    refine ⟨p', ?_, g2, g3⟩
    rw [I_moveTo_l1, cnd_dt (by omega)]
    exact g1
   ·have e : I_moveTo_l1 N bars p a b kk (fuel + 1) (q, mp, (k : Int)) = I_moveTo_l1 N bars p a b kk fuel (q2, m2, ((k + 1 : Nat) : Int)) := by
     rw [I_moveTo_l1, cnd_dt (by omega)]
     refine g1.trans ?_
     have := g2.bi.len
     simp (disch := omega) only [Int.toNat_natCast, tk0, List.length_cons, List.length_nil, grd_pos, grd_T, grd_R, cnd_dt, cnd_df, cnd_true, cnd_false, Option.bind_some, succ_cast]
    rw [e]
    exact ih (k + 1) q2 m2 (by omega) g2 g3 (by omega)
  ·right
   refine ⟨?_, hF.bi.shut hF.bz hD (by omega)⟩
   rw [I_moveTo_l1]
   simp (disch := omega) only [Int.toNat_natCast, tk0, List.length_cons, List.length_nil, grd_pos, grd_T, grd_R, cnd_dt, cnd_df, cnd_true, cnd_false, Option.bind_some]
include hN hn hp in
theorem move_s (hb : Bok n (a, b)) :
  (∃ p' : Pbl, I_moveTo N bars p a b = some (true, p'.free, p'.tails, p'.placed) ∧ Won n (p.placed.map (brI bars)) p.free p'.free p'.tails a b ∧ p'.placed = p.placed) ∨
  (I_moveTo N bars p a b = some (false, p.free, p.tails, p.placed) ∧ Shut n (p.placed.map (brI bars)) p.free p.tails a b) := by
 obtain ⟨h1, h2, h3, h4, h5⟩ := hb
 simp only at h1 h2 h3 h4 h5
 have key := move1_s (kk := fun _ => some (false, p.free, p.tails, p.placed)) hN hn hp h5 ⟨h3, h4⟩ N 0 [a] (mset [] a (-1)) (by omega) ⟨BI.start ⟨h1, h2⟩, fun v hv h _ => absurd (by simpa using hv) h, fun v => by
  rw [mhas_set rfl]
  by_cases e : a = v
  ·subst e; simp
  ·have e' : ¬ v = a := fun h => e h.symm
   have : mhas [] v = false := rfl
   simp [e, e', this]⟩ Done.start (by simp)
 rw [show ((0 : Nat) : Int) = 0 from rfl] at key
 unfold I_moveTo
 exact key
end
section
variable {bars : List (Int × Int)} (hN : 4000000 ≤ N) (hn : n ≤ 1000)
include hN hn in
theorem gatherI1_s (hb : Bok n (a, b)) {kk : (List Int × List Int × List Int) → Option (Bool × List Int × List Int × List Int)} : ∀ (fuel : Nat) (p : Pbl), PG n bars p → 4 < fuel + (p.free.getD a.toNat 0 + p.free.getD b.toNat 0) →
  ∃ p' : Pbl, p'.placed = p.placed ∧ PG n bars p' ∧ ((I_gather_l1 N bars a b 4 kk fuel (p.free, p.tails, p.placed) = kk (p'.free, p'.tails, p'.placed) ∧ 4 ≤ p'.free.getD a.toNat 0 + p'.free.getD b.toNat 0) ∨
   (I_gather_l1 N bars a b 4 kk fuel (p.free, p.tails, p.placed) = some (false, p'.free, p'.tails, p'.placed) ∧ ∃ X, Tgt n (p.placed.map (brI bars)) X ∧ inX X (a, b) = true)) := by
 obtain ⟨h1, h2, h3, h4, h5⟩ := id hb
 simp only at h1 h2 h3 h4 h5
 intro fuel
 induction fuel with
 | zero =>
  intro p hp hf
  have := hp.inv.le2 (v := a.toNat) (by omega)
  have := hp.inv.le2 (v := b.toNat) (by omega)
  omega
 | succ fuel ih =>
  intro p hp hf
  have fl := hp.inv.fl
  have l1 := hp.inv.le2 (v := a.toNat) (by omega)
  have l2 := hp.inv.le2 (v := b.toNat) (by omega)
  have n1 := hp.inv.nn a.toNat (by omega)
  have n2 := hp.inv.nn b.toNat (by omega)
  rw [I_gather_l1]
  have e : (⟨p.free, p.tails, p.placed⟩ : Pbl) = p := rfl
  by_cases hs : p.free.getD a.toNat 0 + p.free.getD b.toNat 0 < 4
  ·rcases move_s hN hn hp hb with ⟨p1, f1, f2, f3⟩ | ⟨f1, f2⟩
   ·obtain ⟨p', g1, g2, g3⟩ := ih p1 (f2.pg hp f3) (by have := f2.symm'; omega)
    refine ⟨p', g1.trans f3, g2, ?_⟩
    rw [f3] at g3
    simp (disch := omega) only [Int.toNat_natCast, tk0, List.length_cons, List.length_nil, grd_pos, grd_T, grd_R, cnd_dt, cnd_df, cnd_true, cnd_false, Option.bind_some, e, f1, Bool.not_true]
    rw [f3]
    exact g3
   ·rcases move_s hN hn hp hb.swap with ⟨p1, k1, k2, k3⟩ | ⟨k1, k2⟩
    ·obtain ⟨p', g1, g2, g3⟩ := ih p1 (k2.pg hp k3) (by have := k2.symm'; omega)
     refine ⟨p', g1.trans k3, g2, ?_⟩
     rw [k3] at g3
     simp (disch := omega) only [Int.toNat_natCast, tk0, List.length_cons, List.length_nil, grd_pos, grd_T, grd_R, cnd_dt, cnd_df, cnd_true, cnd_false, Option.bind_some, e, f1, k1, Bool.not_true, Bool.not_false]
     rw [k3]
     exact g3
    ·refine ⟨p, rfl, hp, .inr ⟨?_, Shut.tgt hp.inv hb f2 k2 (by omega)⟩⟩
     simp (disch := omega) only [Int.toNat_natCast, tk0, List.length_cons, List.length_nil, grd_pos, grd_T, grd_R, cnd_dt, cnd_df, cnd_true, cnd_false, Option.bind_some, e, f1, k1, Bool.not_false]
  ·refine ⟨p, rfl, hp, .inl ⟨?_, by omega⟩⟩
   simp (disch := omega) only [Int.toNat_natCast, tk0, List.length_cons, List.length_nil, grd_pos, grd_T, grd_R, cnd_dt, cnd_df, cnd_true, cnd_false, Option.bind_some]
include hN hn in
theorem gatherI_s (hb : Bok n (a, b)) {p : Pbl} (hp : PG n bars p) : ∃ p' : Pbl, p'.placed = p.placed ∧ PG n bars p' ∧ ((I_gather N bars p a b 4 = some (true, p'.free, p'.tails, p'.placed) ∧ 4 ≤ p'.free.getD a.toNat 0 + p'.free.getD b.toNat 0) ∨
   (I_gather N bars p a b 4 = some (false, p'.free, p'.tails, p'.placed) ∧ ∃ X, Tgt n (p.placed.map (brI bars)) X ∧ inX X (a, b) = true)) := by
 obtain ⟨h1, h2, h3, h4, h5⟩ := id hb
 simp only at h1 h2 h3 h4 h5
 have n1 := hp.inv.nn a.toNat (by omega)
 have n2 := hp.inv.nn b.toNat (by omega)
 exact gatherI1_s hN hn hb (kk := fun x => match x with | (l11, l12, l13) => some (true, l11, l12, l13)) N p hp (by omega)
include hN hn in
theorem placeI_s {p : Pbl} {i : Nat} (hi : i < bars.length) (hbl : bars.length ≤ 1000) (hb : ∀ e ∈ bars, Bok n e) (h : Gm n bars p i) :
  (∃ p' : Pbl, I_place N bars 3 p i = some (true, p'.free, p'.tails, p'.placed) ∧ Gm n bars p' (i + 1)) ∨ ((∃ x, I_place N bars 3 p i = some (false, x)) ∧ Gm n bars p (i + 1)) := by
 have hbi := hb _ (getD_mem (d := (0, 0)) hi)
 have r1 := hbi.1
 have r2 := hbi.2.1
 have r3 := hbi.2.2.1
 have r4 := hbi.2.2.2.1
 have e : (⟨p.free, p.tails, p.placed⟩ : Pbl) = p := rfl
 have e4 : (3 : Int) + 1 = 4 := rfl
 obtain ⟨p', g1, g2, ⟨g3, g4⟩ | ⟨g3, g4⟩⟩ := gatherI_s hN hn (bars := bars) (a := (bars.getD i (0, 0)).1) (b := (bars.getD i (0, 0)).2) hbi h.pg
 ·left
  have le1 := g2.inv.le2 (v := (bars.getD i (0, 0)).2.toNat) (by omega)
  have le2 := g2.inv.le2 (v := (bars.getD i (0, 0)).1.toNat) (by omega)
  have hput := h.put hi hbi g1 g2 (.inl rfl) (by omega) g4
  refine ⟨_, ?_, hput⟩
  have fl := g2.inv.fl
  have tl := g2.inv.tl
  simp only [List.length_map] at tl
  have t2 := g2.inv.tlen
  unfold I_place
  have hz : ¬ p'.free.getD (bars.getD i (0, 0)).1.toNat 0 = 0 := by omega
  simp (disch := omega) only [Int.toNat_natCast, tk0, List.length_cons, List.length_nil, grd_pos, grd_T, grd_R, cnd_dt, cnd_df, cnd_true, cnd_false, Option.bind_some, e, e4, g3, Bool.not_true, jn_def, cnd_eqf hz, List.length_set]
 ·right
  refine ⟨⟨(p'.free, p'.tails, p'.placed), ?_⟩, h.skip g4⟩
  unfold I_place
  simp (disch := omega) only [Int.toNat_natCast, tk0, List.length_cons, List.length_nil, grd_pos, grd_T, grd_R, cnd_dt, cnd_df, cnd_true, cnd_false, Option.bind_some, e, e4, g3, Bool.not_false]
include hN hn in
theorem play1_s (hb : ∀ e ∈ bars, Bok n e) (hl : bars.length ≤ 1000) {kk : (List Int × List Int × List Int) → Option Pbl} : ∀ (fuel i : Nat) (p : Pbl), i ≤ bars.length → bars.length < fuel + i → Gm n bars p i →
  ∃ p' : Pbl, Gm n bars p' bars.length ∧ I_play_l1 N bars 3 kk fuel (p.free, p.tails, p.placed, (i : Int)) = kk (p'.free, p'.tails, p'.placed) := by
 intro fuel
 induction fuel with
 | zero => intro i p h1 h2; omega
 | succ fuel ih =>
  intro i p h1 h2 h
  rw [I_play_l1]
  by_cases hi : i < bars.length
  ·have e : (⟨p.free, p.tails, p.placed⟩ : Pbl) = p := rfl
   have fl := h.pg.inv.fl
   have tl := h.pg.inv.tl
   simp only [List.length_map] at tl
   have t2 := h.pg.inv.tlen
   have ec : I_copyPebbles N p = some p := by
    unfold I_copyPebbles
    rw [copyIntsR (by omega), copyIntsR (by omega), copyIntsR (by omega)]
    rfl
   rcases placeI_s hN hn hi hl hb h with ⟨p', g1, g2⟩ | ⟨⟨x, g1⟩, g2⟩
   ·obtain ⟨p2, k1, k2⟩ := ih (i + 1) p' (by omega) (by omega) g2
    refine ⟨p2, k1, ?_⟩
    simp (disch := omega) only [Int.toNat_natCast, tk0, List.length_cons, List.length_nil, grd_pos, grd_T, grd_R, cnd_dt, cnd_df, cnd_true, cnd_false, Option.bind_some, e, ec, g1, succ_cast]
    exact k2
   ·obtain ⟨p2, k1, k2⟩ := ih (i + 1) p (by omega) (by omega) g2
    refine ⟨p2, k1, ?_⟩
    simp (disch := omega) only [Int.toNat_natCast, tk0, List.length_cons, List.length_nil, grd_pos, grd_T, grd_R, cnd_dt, cnd_df, cnd_true, cnd_false, Option.bind_some, e, ec, g1, succ_cast]
    exact k2
  ·have e : i = bars.length := by omega
   subst e
   refine ⟨p, h, ?_⟩
   simp (disch := omega) only [Int.toNat_natCast, tk0, List.length_cons, List.length_nil, grd_pos, grd_T, grd_R, cnd_dt, cnd_df, cnd_true, cnd_false, Option.bind_some]
end
end Go.Proofs.YtmoamglpocjhgaaGreat
namespace Go.Proofs.YtmoamglpocjhgaaGreat
open Go.RowKit Go.Deep
section
variable {C : Cx} {ops : Array Oper} {K : PS → Prop} {l : List Oper} {s s' : PS} {TT : List (Nat × Ty)} {tm : List (Nat × D)} {rw' : List (Nat × Option (TypeId × Sq))} {bx : List (Nat × Option (List D))}
end
section
end
section
variable {C : Cx} {ops : Array Oper} {K : PS → Prop} {l : List Oper} {s s' : PS} {TT : List (Nat × Ty)} {tm : List (Nat × D)} {rw' : List (Nat × Option (TypeId × Sq))} {bx : List (Nat × Option (List D))}
variable {o : Oper} {rest : List Oper} {rk rids bk bids pids : List Nat}
end
section
end
section
variable {C : Cx} {ops : Array Oper} {K : PS → Prop} {o : Oper} {rest : List Oper} {s s' : PS} {TT : List (Nat × Ty)} {tm : List (Nat × D)} {rw' : List (Nat × Option (TypeId × Sq))} {bx : List (Nat × Option (List D))} {cr B : List Nat} {j : Nat}
end
end Go.Proofs.YtmoamglpocjhgaaGreat
namespace Go.Proofs.YtmoamglpocjhgaaGreat
open Go.RowKit
end Go.Proofs.YtmoamglpocjhgaaGreat
namespace Go.Proofs.YtmoamglpocjhgaaGreat
open Go.RowKit
end Go.Proofs.YtmoamglpocjhgaaGreat
namespace Go.Proofs.YtmoamglpocjhgaaGreat
open Go.RowKit
end Go.Proofs.YtmoamglpocjhgaaGreat
namespace Go.Proofs.YtmoamglpocjhgaaGreat
open Go.RowKit Go.Deep
section
variable {M M' : Mp} {A A' : Bool → Nat → Prop} {w w' : World} {r : Nat} {s : PS}
end
def lone (s : PS) (R F : Nat) : Bool := s.row.all fun p => Nat.beq p.1 R || (match s.r p.1 with | some (_, q) => (match q.refF with | some G => !Nat.beq G F && Nat.blt G 4294967296 | none => true) | none => true)
section
variable {w0 : World} {O0 : Hd} {n : Nat} {M : Mp} {s : PS} {a : Act} {w : World}
end
end Go.Proofs.YtmoamglpocjhgaaGreat
namespace Go.Proofs.YtmoamglpocjhgaaGreat
open Go.RowKit Go.Deep
section
variable {w0 : World} {O0 : Hd} {n : Nat} {M : Mp} {s : PS} {a : Act} {w : World}
end
end Go.Proofs.YtmoamglpocjhgaaGreat
namespace Go.Proofs.YtmoamglpocjhgaaGreat
open Go.RowKit Go.Deep
section
variable {C : Cx} {tm : List (Nat × D)} {rw' : List (Nat × Option (TypeId × Sq))} {bx : List (Nat × Option (List D))} {s' : PS}
end
end Go.Proofs.YtmoamglpocjhgaaGreat
namespace Go.Proofs.YtmoamglpocjhgaaGreat
open Go.RowKit Go.Deep
section
variable {C : Cx} {tm : List (Nat × D)} {rw' : List (Nat × Option (TypeId × Sq))} {bx : List (Nat × Option (List D))} {s' : PS}
end
end Go.Proofs.YtmoamglpocjhgaaGreat
namespace Go.Proofs.YtmoamglpocjhgaaGreat
open Go.RowKit Go.Deep
section
variable {w0 : World} {O0 : Hd} {n : Nat} {M : Mp} {s : PS} {a : Act} {w : World}
end
section
variable {C : Cx} {ops : Array Oper} {K : PS → Prop} {o : Oper} {rest : List Oper} {s : PS} {TT : List (Nat × Ty)} {tm : List (Nat × D)} {rw' : List (Nat × Option (TypeId × Sq))} {bx : List (Nat × Option (List D))}
end
end Go.Proofs.YtmoamglpocjhgaaGreat
namespace Go.Proofs.YtmoamglpocjhgaaGreat
open Go.RowKit Go.Deep
section
variable {P : Program} {w0 : World} {O0 : Hd} {n : Nat} {M : Mp} {s : PS} {a : Act} {w w' : World}
end
section
variable {C : Cx} {ops : Array Oper} {K : PS → Prop} {o : Oper} {rest : List Oper} {s : PS} {TT : List (Nat × Ty)} {tm : List (Nat × D)} {rw' : List (Nat × Option (TypeId × Sq))} {bx : List (Nat × Option (List D))} {cr B : List Nat} {j : Nat}
end
end Go.Proofs.YtmoamglpocjhgaaGreat
namespace Go.Proofs.YtmoamglpocjhgaaGreat
open Go.RowKit Go.Deep
section
variable {C : Cx} {ops : Array Oper} {K : PS → Prop} {o : Oper} {rest : List Oper} {s : PS} {TT : List (Nat × Ty)} {tm : List (Nat × D)} {rw' : List (Nat × Option (TypeId × Sq))} {bx : List (Nat × Option (List D))}
end
end Go.Proofs.YtmoamglpocjhgaaGreat
namespace Go.Proofs.YtmoamglpocjhgaaGreat
open Go.RowKit Go.Deep
section
variable {C : Cx} {ops : Array Oper} {K : PS → Prop} {o : Oper} {rest : List Oper} {s s' : PS} {TT : List (Nat × Ty)} {tm : List (Nat × D)} {rw' : List (Nat × Option (TypeId × Sq))} {bx : List (Nat × Option (List D))}
end
end Go.Proofs.YtmoamglpocjhgaaGreat
namespace Go.Proofs.YtmoamglpocjhgaaGreat
open Go.RowKit Go.Deep
end Go.Proofs.YtmoamglpocjhgaaGreat
namespace Go.Proofs.YtmoamglpocjhgaaGreat
open Go.RowKit Go.Deep
section
variable {C : Cx} {ops : Array Oper} {K : PS → Prop} {o : Oper} {rest : List Oper} {s : PS} {TT : List (Nat × Ty)} {tm : List (Nat × D)} {rw' : List (Nat × Option (TypeId × Sq))} {bx : List (Nat × Option (List D))} {cr B : List Nat} {j : Nat}
end
end Go.Proofs.YtmoamglpocjhgaaGreat
namespace Go.Proofs.YtmoamglpocjhgaaGreat
open Go.RowKit Go.Deep
section
variable {C : Cx} {tm : List (Nat × D)} {rw' : List (Nat × Option (TypeId × Sq))} {bx : List (Nat × Option (List D))} {s' : PS}
end
section
variable {C : Cx} {ops : Array Oper} {K : PS → Prop} {o : Oper} {rest : List Oper} {s : PS} {TT : List (Nat × Ty)} {tm : List (Nat × D)} {rw' : List (Nat × Option (TypeId × Sq))} {bx : List (Nat × Option (List D))}
end
end Go.Proofs.YtmoamglpocjhgaaGreat
namespace Go.Proofs.YtmoamglpocjhgaaGreat
open Go.RowKit Go.Deep
section
variable {C : Cx} {ops : Array Oper} {K : PS → Prop} {o : Oper} {rest : List Oper} {TT : List (Nat × Ty)} {tm : List (Nat × D)} {rw' : List (Nat × Option (TypeId × Sq))} {bx : List (Nat × Option (List D))} {cr B : List Nat} {j : Nat}
end
end Go.Proofs.YtmoamglpocjhgaaGreat
namespace Go.Proofs.YtmoamglpocjhgaaGreat
open Go.RowKit Go.Deep
end Go.Proofs.YtmoamglpocjhgaaGreat
namespace Go.Proofs.YtmoamglpocjhgaaGreat
open Go.RowKit
def S_l3Set_l1 (N : Nat) (n_0 : Int) (mask_1 : Int) (k : (List Int) → Option (List Int)) : Nat → ((List Int) × Int) → Option (List Int)
 | 0, _ => none
 | n + 1, (l5, i6) =>
  cnd (decide (i6 < n_0)) (
   grd (0 ≤ i6) <|
   cnd ((andI (shrI mask_1 i6) (1 : Int)) == (1 : Int)) (
    grd (l5.length + 1 ≤ 4294967296) <|
    grd (Rg64 (i6 + (1 : Int))) <|
    S_l3Set_l1 N n_0 mask_1 k n ((l5 ++ ([i6] : List Int)), (i6 + (1 : Int)))) (
    grd (Rg64 (i6 + (1 : Int))) <|
    S_l3Set_l1 N n_0 mask_1 k n (l5, (i6 + (1 : Int))))) (
   k l5)
def S_l3Set (N : Nat) (n_0 : Int) (mask_1 : Int) : Option (List Int) :=
 S_l3Set_l1 N n_0 mask_1 (fun (l3 : List Int) =>
    some l3) N (([] : List Int), (0 : Int))
set_option maxRecDepth 20000 in
set_option maxHeartbeats 1600000 in
theorem S_l3Set_w (N : Nat) (n_0 : Int) (mask_1 : Int) (r : List Int) (h : S_l3Set N n_0 mask_1 = some r) : PCall Tryz.prog 30 [.int n_0, .int mask_1] [(3, .ints r)] (.row 0 0 r.length) := by
 unfold S_l3Set at h
 refine pcall_intro (TT := TT) tt Tryz.func30 rfl rfl Tryz.ntmps30 (congrArg Array.toList Tryz.results30) rfl rfl fun w0 => ?_
 refine vSeq ?_
 refine vRegion ?_
 refine oVal tt rfl rfl rfl rfl rfl trivial ?_
 refine vNil ?_
 change VC _ _ _ _
 refine vSeq ?_
 refine vRegion ?_
 refine oEmpty tt (wNone rfl) rfl rfl rfl rfl ?_
 refine oVal tt rfl rfl rfl rfl rfl trivial ?_
 refine vNil ?_
 change VC _ _ _ _
 iterate 2 refine vSeq ?_
 refine vRegion ?_
 refine oVal tt rfl rfl rfl rfl rfl trivial ?_
 refine vNil ?_
 change VC _ _ _ _
 refine vJoin (F := fun k => S_l3Set_l1 N n_0 mask_1 k) h (α := List Int) (J := fun (l3 : List Int) => (⟨[(5, .row 21 0 l3.length)], [(21, some (3, .ints l3))], []⟩ : PS)) ?_ ?_
 ·rintro l3 h
  show VC _ _ _ (⟨[(5, .row 21 0 l3.length)], [(21, some (3, .ints l3))], []⟩ : PS)
  refine vSeq ?_
  refine vRegion ?_
  iterate 2 refine oVal tt rfl rfl rfl rfl rfl trivial ?_
  refine vNil ?_
  change VC _ _ _ _
  refine vRet ?_
  change ∃ _, _
  cases h
  exact ⟨[21], _, rfl, ⟨rfl, trivial⟩, rfl, (.eq rfl), rfl⟩
 ·intro k h
  refine vBlock ?_
  refine vNilT 5 21 3 (.ints []) rfl rfl rfl rfl ?_
  refine vLoopS (α := (List Int) × Int) (fun | (l5, i6) => (⟨[(0, .int n_0), (1, .int mask_1), (5, .row 21 0 l5.length), (6, .int i6)], [(21, some (3, .ints l5))], []⟩ : PS)) (S_l3Set_l1 N n_0 mask_1 k) h (En.of ⟨rfl, rfl, rfl, rfl, trivial⟩ ⟨rfl, trivial⟩ trivial) (fun _ => rfl) ?_
  rintro n ⟨l5, i6⟩ h
  rw [S_l3Set_l1] at h
  show VC _ _ _ (⟨[(0, .int n_0), (1, .int mask_1), (5, .row 21 0 l5.length), (6, .int i6)], [(21, some (3, .ints l5))], []⟩ : PS)
  iterate 2 refine vSeq ?_
  refine vRegion ?_
  iterate 3 refine oVal tt rfl rfl rfl rfl rfl trivial ?_
  refine vNil ?_
  change VC _ _ _ _
  refine vCond rfl (fun hb1 => ?_) (fun hb1 => ?_)
  ·replace h := cnd_t hb1 h
   refine vSkip ?_
   change VC _ _ _ _
   refine vSeq ?_
   refine vBlock ?_
   refine vSeq ?_
   refine vRegion ?_
   iterate 2 refine oVal tt rfl rfl rfl rfl rfl trivial ?_
   obtain ⟨hg2, h⟩ := grd_inv h
   refine oVal tt rfl rfl rfl rfl rfl hg2 ?_
   iterate 2 refine oVal tt rfl rfl rfl rfl rfl trivial ?_
   refine vNil ?_
   change VC _ _ _ _
   refine vCond rfl (fun hb3 => ?_) (fun hb3 => ?_)
   ·replace h := cnd_t hb3 h
    refine vRegion ?_
    iterate 2 refine oVal tt rfl rfl rfl rfl rfl trivial ?_
    refine oBuild tt rfl rfl rfl rfl rfl rfl rfl rfl rfl rfl rfl ?_
    obtain ⟨hg4, h⟩ := grd_inv h
    refine oAppend tt rfl rfl rfl rfl rfl rfl rfl rfl rfl rfl rfl rfl rfl rfl rfl rfl (Nat.le_of_eq (Nat.zero_add _)) hg4 ?_
    refine oVal tt rfl rfl rfl rfl rfl trivial ?_
    refine vNil ?_
    change VC _ _ _ _
    refine vRegion ?_
    refine oVal tt rfl rfl rfl rfl rfl trivial ?_
    obtain ⟨hg5, h⟩ := grd_inv h
    refine oVal tt rfl rfl rfl rfl rfl hg5 ?_
    refine oVal tt rfl rfl rfl rfl rfl trivial ?_
    refine vNil ?_
    change ∃ _, _
    exact ⟨((l5 ++ ([i6] : List Int)), (i6 + (1 : Int))), (En.of ⟨rfl, rfl, rfl, rfl, trivial⟩ ⟨rfl, trivial⟩ trivial), h⟩
   ·replace h := cnd_f hb3 h
    refine vSkip ?_
    change VC _ _ _ _
    refine vRegion ?_
    refine oVal tt rfl rfl rfl rfl rfl trivial ?_
    obtain ⟨hg6, h⟩ := grd_inv h
    refine oVal tt rfl rfl rfl rfl rfl hg6 ?_
    refine oVal tt rfl rfl rfl rfl rfl trivial ?_
    refine vNil ?_
    change ∃ _, _
    exact ⟨(l5, (i6 + (1 : Int))), (En.of ⟨rfl, rfl, rfl, rfl, trivial⟩ ⟨rfl, trivial⟩ trivial), h⟩
  ·replace h := cnd_f hb1 h
   refine vExit ?_
   change ∃ _, _
   exact ⟨l5, (En.of ⟨rfl, trivial⟩ ⟨rfl, trivial⟩ trivial), h⟩
def S_IsRange (N : Nat) (k_0 : Int) (l_1 : Int) : Option (Bool) :=
 (S_l1In N k_0 (1 : Int) (3 : Int)).bind fun v1 =>
 cnd v1 (
  cnd (decide (l_1 ≥ (0 : Int))) (
   grd (Rg64 ((2 : Int) * k_0)) <|
   some (decide (l_1 < ((2 : Int) * k_0)))) (
   some false)) (
  some false)
set_option maxRecDepth 20000 in
set_option maxHeartbeats 1600000 in
theorem S_IsRange_w (N : Nat) (k_0 : Int) (l_1 : Int) (r : Bool) (h : S_IsRange N k_0 l_1 = some r) : PCall Tryz.prog 183 [.int k_0, .int l_1] [] (.bool r) := by
 unfold S_IsRange at h
 refine pcall_intro (TT := TT) tt Tryz.func183 rfl rfl Tryz.ntmps183 (congrArg Array.toList Tryz.results183) rfl rfl fun w0 => ?_
 refine vSeq ?_
 refine vRegion ?_
 refine oVal tt rfl rfl rfl rfl rfl trivial ?_
 refine vNil ?_
 change VC _ _ _ _
 refine vSeq ?_
 refine vRegion ?_
 refine oVal tt rfl rfl rfl rfl rfl trivial ?_
 obtain ⟨v1, hc1, h⟩ := bind_inv h
 refine oCall (S_l1In_w N k_0 (1 : Int) (3 : Int) v1 hc1) rfl rfl rfl rfl rfl rfl rfl rfl ⟨rfl, rfl, rfl, trivial⟩ ?_
 refine oVal tt rfl rfl rfl rfl rfl trivial ?_
 refine oSplit rfl rfl rfl (fun hb2 => ?_) (fun hb2 => ?_)
 ·replace h := cnd_t hb2 h
  iterate 2 refine oValG tt rfl rfl rfl rfl rfl hb2 rfl rfl rfl trivial ?_
  refine oPick rfl rfl rfl rfl rfl hb2 rfl ?_
  refine oVal tt rfl rfl rfl rfl rfl trivial ?_
  refine oSplit rfl rfl rfl (fun hb3 => ?_) (fun hb3 => ?_)
  ·replace h := cnd_t hb3 h
   iterate 2 refine oValG tt rfl rfl rfl rfl rfl hb3 rfl rfl rfl trivial ?_
   obtain ⟨hg4, h⟩ := grd_inv h
   refine oValG tt rfl rfl rfl rfl rfl hb3 rfl rfl rfl hg4 ?_
   refine oValG tt rfl rfl rfl rfl rfl hb3 rfl rfl rfl trivial ?_
   refine oPick rfl rfl rfl rfl rfl hb3 rfl ?_
   refine oVal tt rfl rfl rfl rfl rfl trivial ?_
   refine vNil ?_
   change VC _ _ _ _
   refine vRet ?_
   change ∃ _, _
   cases h
   exact ⟨[], _, rfl, trivial, rfl, (.eq rfl), rfl⟩
  ·replace h := cnd_f hb3 h
   iterate 4 refine oNoT rfl rfl rfl rfl hb3 rfl rfl ?_
   refine oPickF rfl rfl rfl rfl rfl hb3 rfl ?_
   refine oVal tt rfl rfl rfl rfl rfl trivial ?_
   refine vNil ?_
   change VC _ _ _ _
   refine vRet ?_
   change ∃ _, _
   cases h
   exact ⟨[], _, rfl, trivial, rfl, (.eq rfl), rfl⟩
 ·replace h := cnd_f hb2 h
  iterate 2 refine oNoT rfl rfl rfl rfl hb2 rfl rfl ?_
  refine oPickF rfl rfl rfl rfl rfl hb2 rfl ?_
  refine oVal tt rfl rfl rfl rfl rfl trivial ?_
  iterate 4 refine oNoT rfl rfl rfl rfl rfl rfl rfl ?_
  refine oPickF rfl rfl rfl rfl rfl rfl rfl ?_
  refine oVal tt rfl rfl rfl rfl rfl trivial ?_
  refine vNil ?_
  change VC _ _ _ _
  refine vRet ?_
  change ∃ _, _
  cases h
  exact ⟨[], _, rfl, trivial, rfl, (.eq rfl), rfl⟩
def S_l4Tail_l1 (N : Nat) (p_0 : Pbl) (v_1 : Int) (k : Int → Option (Int)) : Nat → (Int × Int) → Option (Int)
 | 0, _ => none
 | n + 1, (n5, i6) =>
  cnd (decide (i6 < (p_0.tails.length : Int))) (
   grd (0 ≤ i6 ∧ i6 < (p_0.tails.length : Int)) <|
   cnd ((p_0.tails.getD ((i6).toNat) 0) == v_1) (
    grd (Rg64 (n5 + (1 : Int))) <|
    grd (Rg64 (i6 + (1 : Int))) <|
    S_l4Tail_l1 N p_0 v_1 k n ((n5 + (1 : Int)), (i6 + (1 : Int)))) (
    grd (Rg64 (i6 + (1 : Int))) <|
    S_l4Tail_l1 N p_0 v_1 k n (n5, (i6 + (1 : Int))))) (
   k n5)
def S_l4Tail (N : Nat) (p_0 : Pbl) (v_1 : Int) : Option (Int) :=
 S_l4Tail_l1 N p_0 v_1 (fun (n3 : Int) =>
    some n3) N ((0 : Int), (0 : Int))
set_option maxRecDepth 20000 in
set_option maxHeartbeats 1600000 in
theorem S_l4Tail_w (N : Nat) (p_0 : Pbl) (v_1 : Int) (r : Int) (h : S_l4Tail N p_0 v_1 = some r) : PCall Tryz.prog 195 [bD p_0, .int v_1] [] (.int r) := by
 unfold S_l4Tail at h
 refine pcall_intro (TT := TT) tt Tryz.func195 rfl rfl Tryz.ntmps195 (congrArg Array.toList Tryz.results195) rfl rfl fun w0 => ?_
 refine vSeq ?_
 refine vRegion ?_
 refine oBox rfl rfl rfl rfl rfl rfl rfl rfl rfl ?_
 refine oVal tt rfl rfl rfl rfl rfl trivial ?_
 refine vNil ?_
 change VC _ _ _ _
 refine vSeq ?_
 refine vRegion ?_
 refine oVal tt rfl rfl rfl rfl rfl trivial ?_
 refine vNil ?_
 change VC _ _ _ _
 iterate 2 refine vSeq ?_
 refine vRegion ?_
 refine oVal tt rfl rfl rfl rfl rfl trivial ?_
 refine vNil ?_
 change VC _ _ _ _
 refine vJoin (F := fun k => S_l4Tail_l1 N p_0 v_1 k) h (α := Int) (J := fun (n3 : Int) => (⟨[(5, .int n3)], [], []⟩ : PS)) ?_ ?_
 ·rintro n3 h
  show VC _ _ _ (⟨[(5, .int n3)], [], []⟩ : PS)
  refine vSeq ?_
  refine vRegion ?_
  iterate 2 refine oVal tt rfl rfl rfl rfl rfl trivial ?_
  refine vNil ?_
  change VC _ _ _ _
  refine vRet ?_
  change ∃ _, _
  cases h
  exact ⟨[], _, rfl, trivial, rfl, (.eq rfl), rfl⟩
 ·intro k h
  refine vBlock ?_
  refine vLoopS (α := Int × Int) (fun | (n5, i6) => (⟨[(1, .int v_1), (2, .ptr 2 0), (5, .int n5), (6, .int i6)], [], [(2, some [.ro false (.ints p_0.free), .ro false (.ints p_0.tails), .ro false (.ints p_0.placed)])]⟩ : PS)) (S_l4Tail_l1 N p_0 v_1 k) h (En.of ⟨rfl, rfl, rfl, rfl, trivial⟩ trivial ⟨rfl, trivial⟩) (fun _ => rfl) ?_
  rintro n ⟨n5, i6⟩ h
  rw [S_l4Tail_l1] at h
  show VC _ _ _ (⟨[(1, .int v_1), (2, .ptr 2 0), (5, .int n5), (6, .int i6)], [], [(2, some [.ro false (.ints p_0.free), .ro false (.ints p_0.tails), .ro false (.ints p_0.placed)])]⟩ : PS)
  iterate 2 refine vSeq ?_
  refine vRegion ?_
  iterate 5 refine oVal tt rfl rfl rfl rfl rfl trivial ?_
  refine vNil ?_
  change VC _ _ _ _
  refine vCond rfl (fun hb1 => ?_) (fun hb1 => ?_)
  ·replace h := cnd_t hb1 h
   refine vSkip ?_
   change VC _ _ _ _
   refine vSeq ?_
   refine vBlock ?_
   refine vSeq ?_
   refine vRegion ?_
   iterate 3 refine oVal tt rfl rfl rfl rfl rfl trivial ?_
   obtain ⟨hg2, h⟩ := grd_inv h
   refine oVal tt rfl rfl rfl rfl rfl hg2 ?_
   iterate 3 refine oVal tt rfl rfl rfl rfl rfl trivial ?_
   refine vNil ?_
   change VC _ _ _ _
   refine vCond rfl (fun hb3 => ?_) (fun hb3 => ?_)
   ·replace h := cnd_t hb3 h
    refine vRegion ?_
    refine oVal tt rfl rfl rfl rfl rfl trivial ?_
    obtain ⟨hg4, h⟩ := grd_inv h
    refine oVal tt rfl rfl rfl rfl rfl hg4 ?_
    refine oVal tt rfl rfl rfl rfl rfl trivial ?_
    refine vNil ?_
    change VC _ _ _ _
    refine vRegion ?_
    refine oVal tt rfl rfl rfl rfl rfl trivial ?_
    obtain ⟨hg5, h⟩ := grd_inv h
    refine oVal tt rfl rfl rfl rfl rfl hg5 ?_
    refine oVal tt rfl rfl rfl rfl rfl trivial ?_
    refine vNil ?_
    change ∃ _, _
    exact ⟨((n5 + (1 : Int)), (i6 + (1 : Int))), (En.of ⟨rfl, rfl, rfl, rfl, trivial⟩ trivial ⟨rfl, trivial⟩), h⟩
   ·replace h := cnd_f hb3 h
    refine vSkip ?_
    change VC _ _ _ _
    refine vRegion ?_
    refine oVal tt rfl rfl rfl rfl rfl trivial ?_
    obtain ⟨hg6, h⟩ := grd_inv h
    refine oVal tt rfl rfl rfl rfl rfl hg6 ?_
    refine oVal tt rfl rfl rfl rfl rfl trivial ?_
    refine vNil ?_
    change ∃ _, _
    exact ⟨(n5, (i6 + (1 : Int))), (En.of ⟨rfl, rfl, rfl, rfl, trivial⟩ trivial ⟨rfl, trivial⟩), h⟩
  ·replace h := cnd_f hb1 h
   refine vExit ?_
   change ∃ _, _
   exact ⟨n5, (En.of ⟨rfl, trivial⟩ trivial trivial), h⟩
def S_IsPebbles_l1 (N : Nat) (g_0 : Grf) (k_1 : Int) (p_2 : Pbl) (k : Unit → Option (Bool)) : Nat → Int → Option (Bool)
 | 0, _ => none
 | n + 1, v10 =>
  cnd (decide (v10 < g_0.n)) (
   grd (0 ≤ v10 ∧ v10 < (p_2.free.length : Int)) <|
   cnd (decide ((p_2.free.getD ((v10).toNat) 0) < (0 : Int))) (
    some false) (
    (S_l4Tail N p_2 v10).bind fun v12 =>
    grd (Rg64 ((p_2.free.getD ((v10).toNat) 0) + v12)) <|
    cnd (((p_2.free.getD ((v10).toNat) 0) + v12) != k_1) (
     some false) (
     grd (Rg64 (v10 + (1 : Int))) <|
     S_IsPebbles_l1 N g_0 k_1 p_2 k n (v10 + (1 : Int))))) (
   k ())
def S_IsPebbles_l2 (N : Nat) (g_0 : Grf) (p_2 : Pbl) (k : Unit → Option (Bool)) : Nat → Int → Option (Bool)
 | 0, _ => none
 | n + 1, i14 =>
  cnd (decide (i14 < (p_2.placed.length : Int))) (
   grd (0 ≤ i14 ∧ i14 < (p_2.placed.length : Int)) <|
   cnd (decide ((p_2.placed.getD ((i14).toNat) 0) < (0 : Int))) (
    some false) (
    cnd (decide ((p_2.placed.getD ((i14).toNat) 0) ≥ (g_0.bars.length : Int))) (
     some false) (
     cnd (decide (i14 > (0 : Int))) (
      grd (Rg64 (i14 - (1 : Int))) <|
      grd (0 ≤ (i14 - (1 : Int)) ∧ (i14 - (1 : Int)) < (p_2.placed.length : Int)) <|
      cnd (decide ((p_2.placed.getD (((i14 - (1 : Int))).toNat) 0) ≥ (p_2.placed.getD ((i14).toNat) 0))) (
       some false) (
       grd (0 ≤ i14 ∧ i14 < (p_2.tails.length : Int)) <|
       grd (0 ≤ (p_2.placed.getD ((i14).toNat) 0) ∧ (p_2.placed.getD ((i14).toNat) 0) < (g_0.bars.length : Int)) <|
       cnd ((p_2.tails.getD ((i14).toNat) 0) != ((g_0.bars.getD (((p_2.placed.getD ((i14).toNat) 0)).toNat) (0, 0)).1)) (
        cnd ((p_2.tails.getD ((i14).toNat) 0) != ((g_0.bars.getD (((p_2.placed.getD ((i14).toNat) 0)).toNat) (0, 0)).2)) (
         some false) (
         grd (Rg64 (i14 + (1 : Int))) <|
         S_IsPebbles_l2 N g_0 p_2 k n (i14 + (1 : Int)))) (
        grd (Rg64 (i14 + (1 : Int))) <|
        S_IsPebbles_l2 N g_0 p_2 k n (i14 + (1 : Int))))) (
      grd (0 ≤ i14 ∧ i14 < (p_2.tails.length : Int)) <|
      grd (0 ≤ (p_2.placed.getD ((i14).toNat) 0) ∧ (p_2.placed.getD ((i14).toNat) 0) < (g_0.bars.length : Int)) <|
      cnd ((p_2.tails.getD ((i14).toNat) 0) != ((g_0.bars.getD (((p_2.placed.getD ((i14).toNat) 0)).toNat) (0, 0)).1)) (
       cnd ((p_2.tails.getD ((i14).toNat) 0) != ((g_0.bars.getD (((p_2.placed.getD ((i14).toNat) 0)).toNat) (0, 0)).2)) (
        some false) (
        grd (Rg64 (i14 + (1 : Int))) <|
        S_IsPebbles_l2 N g_0 p_2 k n (i14 + (1 : Int)))) (
       grd (Rg64 (i14 + (1 : Int))) <|
       S_IsPebbles_l2 N g_0 p_2 k n (i14 + (1 : Int))))))) (
   k ())
def S_IsPebbles (N : Nat) (g_0 : Grf) (k_1 : Int) (p_2 : Pbl) : Option (Bool) :=
 (S_IsGraph N g_0).bind fun v1 =>
 cnd (!v1) (
  some false) (
  (S_l1In N k_1 (1 : Int) (3 : Int)).bind fun v2 =>
  cnd (!v2) (
   some false) (
   cnd ((p_2.free.length : Int) != g_0.n) (
    some false) (
    cnd ((p_2.tails.length : Int) != (p_2.placed.length : Int)) (
     some false) (
     S_IsPebbles_l2 N g_0 p_2 (fun (_ : Unit) =>
        S_IsPebbles_l1 N g_0 k_1 p_2 (fun (_ : Unit) =>
           some true) N (0 : Int)) N (0 : Int)))))
set_option maxRecDepth 20000 in
set_option maxHeartbeats 1600000 in
theorem S_IsPebbles_w (N : Nat) (g_0 : Grf) (k_1 : Int) (p_2 : Pbl) (r : Bool) (h : S_IsPebbles N g_0 k_1 p_2 = some r) : PCall Tryz.prog 189 [gD g_0, .int k_1, bD p_2] [] (.bool r) := by
 unfold S_IsPebbles at h
 refine pcall_intro (TT := TT) tt Tryz.func189 rfl rfl Tryz.ntmps189 (congrArg Array.toList Tryz.results189) rfl rfl fun w0 => ?_
 refine vSeq ?_
 refine vRegion ?_
 iterate 2 refine oBox rfl rfl rfl rfl rfl rfl rfl rfl rfl ?_
 refine oVal tt rfl rfl rfl rfl rfl trivial ?_
 refine vNil ?_
 change VC _ _ _ _
 iterate 2 refine vSeq ?_
 refine vRegion ?_
 refine oVal tt rfl rfl rfl rfl rfl trivial ?_
 obtain ⟨v1, hc1, h⟩ := bind_inv h
 refine oCall (S_IsGraph_w N g_0 v1 hc1) rfl rfl rfl rfl rfl rfl rfl rfl ⟨⟨rfl, rfl, trivial⟩, trivial⟩ ?_
 iterate 2 refine oVal tt rfl rfl rfl rfl rfl trivial ?_
 refine oSplit rfl rfl rfl (fun hb2 => ?_) (fun hb2 => ?_)
 ·replace h := cnd_t hb2 h
  iterate 3 refine oNoF rfl rfl rfl rfl hb2 rfl rfl ?_
  refine oPick rfl rfl rfl rfl rfl hb2 rfl ?_
  refine oVal tt rfl rfl rfl rfl rfl trivial ?_
  iterate 6 refine oNoF rfl rfl rfl rfl rfl rfl rfl ?_
  refine oPick rfl rfl rfl rfl rfl rfl rfl ?_
  refine oVal tt rfl rfl rfl rfl rfl trivial ?_
  iterate 7 refine oNoF rfl rfl rfl rfl rfl rfl rfl ?_
  refine oPick rfl rfl rfl rfl rfl rfl rfl ?_
  refine vNil ?_
  change VC _ _ _ _
  refine vCondT rfl rfl ?_
  refine vSeq ?_
  refine vRegion ?_
  refine oVal tt rfl rfl rfl rfl rfl trivial ?_
  refine vNil ?_
  change VC _ _ _ _
  refine vRet ?_
  change ∃ _, _
  cases h
  exact ⟨[], _, rfl, trivial, rfl, (.eq rfl), rfl⟩
 ·replace h := cnd_f hb2 h
  refine oValG tt rfl rfl rfl rfl rfl hb2 rfl rfl rfl trivial ?_
  obtain ⟨v2, hc3, h⟩ := bind_inv h
  refine oCallG (S_l1In_w N k_1 (1 : Int) (3 : Int) v2 hc3) rfl rfl rfl rfl hb2 rfl rfl rfl rfl rfl rfl rfl ⟨rfl, rfl, rfl, trivial⟩ ?_
  refine oValG tt rfl rfl rfl rfl rfl hb2 rfl rfl rfl trivial ?_
  refine oPickF rfl rfl rfl rfl rfl hb2 rfl ?_
  refine oVal tt rfl rfl rfl rfl rfl trivial ?_
  refine oSplit rfl rfl rfl (fun hb4 => ?_) (fun hb4 => ?_)
  ·replace h := cnd_t hb4 h
   iterate 6 refine oNoF rfl rfl rfl rfl hb4 rfl rfl ?_
   refine oPick rfl rfl rfl rfl rfl hb4 rfl ?_
   refine oVal tt rfl rfl rfl rfl rfl trivial ?_
   iterate 7 refine oNoF rfl rfl rfl rfl rfl rfl rfl ?_
   refine oPick rfl rfl rfl rfl rfl rfl rfl ?_
   refine vNil ?_
   change VC _ _ _ _
   refine vCondT rfl rfl ?_
   refine vSeq ?_
   refine vRegion ?_
   refine oVal tt rfl rfl rfl rfl rfl trivial ?_
   refine vNil ?_
   change VC _ _ _ _
   refine vRet ?_
   change ∃ _, _
   cases h
   exact ⟨[], _, rfl, trivial, rfl, (.eq rfl), rfl⟩
  ·replace h := cnd_f hb4 h
   iterate 6 refine oValG tt rfl rfl rfl rfl rfl hb4 rfl rfl rfl trivial ?_
   refine oPickF rfl rfl rfl rfl rfl hb4 rfl ?_
   refine oVal tt rfl rfl rfl rfl rfl trivial ?_
   refine oSplit rfl rfl rfl (fun hb5 => ?_) (fun hb5 => ?_)
   ·replace h := cnd_t hb5 h
    iterate 7 refine oNoF rfl rfl rfl rfl hb5 rfl rfl ?_
    refine oPick rfl rfl rfl rfl rfl hb5 rfl ?_
    refine vNil ?_
    change VC _ _ _ _
    refine vCondT rfl rfl ?_
    refine vSeq ?_
    refine vRegion ?_
    refine oVal tt rfl rfl rfl rfl rfl trivial ?_
    refine vNil ?_
    change VC _ _ _ _
    refine vRet ?_
    change ∃ _, _
    cases h
    exact ⟨[], _, rfl, trivial, rfl, (.eq rfl), rfl⟩
   ·replace h := cnd_f hb5 h
    iterate 7 refine oValG tt rfl rfl rfl rfl rfl hb5 rfl rfl rfl trivial ?_
    refine oPickF rfl rfl rfl rfl rfl hb5 rfl ?_
    refine vNil ?_
    change VC _ _ _ _
    refine vCond rfl (fun hb6 => ?_) (fun hb6 => ?_)
    ·replace h := cnd_t hb6 h
     refine vSeq ?_
     refine vRegion ?_
     refine oVal tt rfl rfl rfl rfl rfl trivial ?_
     refine vNil ?_
     change VC _ _ _ _
     refine vRet ?_
     change ∃ _, _
     cases h
     exact ⟨[], _, rfl, trivial, rfl, (.eq rfl), rfl⟩
    ·replace h := cnd_f hb6 h
     refine vSkip ?_
     change VC _ _ _ _
     iterate 2 refine vSeq ?_
     refine vRegion ?_
     refine oVal tt rfl rfl rfl rfl rfl trivial ?_
     refine vNil ?_
     change VC _ _ _ _
     refine vJoin (F := fun k => S_IsPebbles_l2 N g_0 p_2 k) h (α := Unit) (J := fun (_ : Unit) => (⟨[(1, .int k_1), (3, .ptr 3 0), (5, .ptr 5 0)], [], [(3, some [.int g_0.n, .ro false (.pairs g_0.bars)]), (5, some [.ro false (.ints p_2.free), .ro false (.ints p_2.tails), .ro false (.ints p_2.placed)])]⟩ : PS)) ?_ ?_
     ·rintro ⟨⟩ h
      show VC _ _ _ (⟨[(1, .int k_1), (3, .ptr 3 0), (5, .ptr 5 0)], [], [(3, some [.int g_0.n, .ro false (.pairs g_0.bars)]), (5, some [.ro false (.ints p_2.free), .ro false (.ints p_2.tails), .ro false (.ints p_2.placed)])]⟩ : PS)
      iterate 2 refine vSeq ?_
      refine vRegion ?_
      refine oVal tt rfl rfl rfl rfl rfl trivial ?_
      refine vNil ?_
      change VC _ _ _ _
      refine vJoin (F := fun k => S_IsPebbles_l1 N g_0 k_1 p_2 k) h (α := Unit) (J := fun (_ : Unit) => (⟨[], [], []⟩ : PS)) ?_ ?_
      ·rintro ⟨⟩ h
       show VC _ _ _ (⟨[], [], []⟩ : PS)
       refine vSeq ?_
       refine vRegion ?_
       refine oVal tt rfl rfl rfl rfl rfl trivial ?_
       refine vNil ?_
       change VC _ _ _ _
       refine vRet ?_
       change ∃ _, _
       cases h
       exact ⟨[], _, rfl, trivial, rfl, (.eq rfl), rfl⟩
      ·intro k h
       refine vBlock ?_
       refine vLoopS (α := Int) (fun (v10 : Int) => (⟨[(1, .int k_1), (3, .ptr 3 0), (5, .ptr 5 0), (9, .int v10)], [], [(3, some [.int g_0.n, .ro false (.pairs g_0.bars)]), (5, some [.ro false (.ints p_2.free), .ro false (.ints p_2.tails), .ro false (.ints p_2.placed)])]⟩ : PS)) (S_IsPebbles_l1 N g_0 k_1 p_2 k) h (En.of ⟨rfl, rfl, rfl, rfl, trivial⟩ trivial ⟨rfl, rfl, trivial⟩) (fun _ => rfl) ?_
       rintro n v10 h
       rw [S_IsPebbles_l1] at h
       show VC _ _ _ (⟨[(1, .int k_1), (3, .ptr 3 0), (5, .ptr 5 0), (9, .int v10)], [], [(3, some [.int g_0.n, .ro false (.pairs g_0.bars)]), (5, some [.ro false (.ints p_2.free), .ro false (.ints p_2.tails), .ro false (.ints p_2.placed)])]⟩ : PS)
       iterate 2 refine vSeq ?_
       refine vRegion ?_
       iterate 4 refine oVal tt rfl rfl rfl rfl rfl trivial ?_
       refine vNil ?_
       change VC _ _ _ _
       refine vCond rfl (fun hb7 => ?_) (fun hb7 => ?_)
       ·replace h := cnd_t hb7 h
        refine vSkip ?_
        change VC _ _ _ _
        refine vSeq ?_
        refine vBlock ?_
        refine vSeq ?_
        refine vRegionD (by kernel_rfl) (by kernel_rfl) ?_
        iterate 3 refine cVal tt rfl (wNone rfl) rfl rfl rfl trivial ?_
        obtain ⟨hg8, h⟩ := grd_inv h
        refine cVal tt rfl (wNone rfl) rfl rfl rfl hg8 ?_
        iterate 3 refine cVal tt rfl (wNone rfl) rfl rfl rfl trivial ?_
        refine cSplit rfl rfl rfl (fun hb9 => ?_) (fun hb9 => ?_)
        ·replace h := cnd_t hb9 h
         iterate 11 refine cNoF rfl rfl rfl rfl hb9 rfl rfl ?_
         refine cPickT rfl (wNone rfl) rfl rfl rfl hb9 rfl ?_
         refine cNil ?_
         change VC _ _ _ _
         refine vCondT rfl rfl ?_
         refine vSeq ?_
         refine vRegion ?_
         refine oVal tt rfl rfl rfl rfl rfl trivial ?_
         refine vNil ?_
         change VC _ _ _ _
         refine vRet ?_
         change ∃ _, _
         cases h
         exact ⟨[], _, rfl, trivial, rfl, (.eq rfl), rfl⟩
        ·replace h := cnd_f hb9 h
         iterate 3 refine cVal tt rfl (wSome rfl rfl rfl rfl hb9) rfl rfl rfl trivial ?_
         refine cVal tt rfl (wSome rfl rfl rfl rfl hb9) rfl rfl rfl hg8 ?_
         iterate 3 refine cVal tt rfl (wSome rfl rfl rfl rfl hb9) rfl rfl rfl trivial ?_
         obtain ⟨v12, hc10, h⟩ := bind_inv h
         refine cCall (S_l4Tail_w N p_2 v10 v12 hc10) rfl (wSome rfl rfl rfl rfl hb9) rfl rfl rfl rfl rfl rfl ⟨⟨rfl, rfl, rfl, trivial⟩, rfl, trivial⟩ ?_
         obtain ⟨hg11, h⟩ := grd_inv h
         refine cVal tt rfl (wSome rfl rfl rfl rfl hb9) rfl rfl rfl hg11 ?_
         iterate 2 refine cVal tt rfl (wSome rfl rfl rfl rfl hb9) rfl rfl rfl trivial ?_
         refine cPickF rfl (wNone rfl) rfl rfl rfl hb9 rfl ?_
         refine cNil ?_
         change VC _ _ _ _
         refine vCond rfl (fun hb12 => ?_) (fun hb12 => ?_)
         ·replace h := cnd_t hb12 h
          refine vSeq ?_
          refine vRegion ?_
          refine oVal tt rfl rfl rfl rfl rfl trivial ?_
          refine vNil ?_
          change VC _ _ _ _
          refine vRet ?_
          change ∃ _, _
          cases h
          exact ⟨[], _, rfl, trivial, rfl, (.eq rfl), rfl⟩
         ·replace h := cnd_f hb12 h
          refine vSkip ?_
          change VC _ _ _ _
          refine vRegion ?_
          refine oVal tt rfl rfl rfl rfl rfl trivial ?_
          obtain ⟨hg13, h⟩ := grd_inv h
          refine oVal tt rfl rfl rfl rfl rfl hg13 ?_
          refine oVal tt rfl rfl rfl rfl rfl trivial ?_
          refine vNil ?_
          change ∃ _, _
          exact ⟨(v10 + (1 : Int)), (En.of ⟨rfl, rfl, rfl, rfl, trivial⟩ trivial ⟨rfl, rfl, trivial⟩), h⟩
       ·replace h := cnd_f hb7 h
        refine vExit ?_
        change ∃ _, _
        exact ⟨(), (En.of trivial trivial trivial), h⟩
     ·intro k h
      refine vBlock ?_
      refine vLoopS (α := Int) (fun (i14 : Int) => (⟨[(1, .int k_1), (3, .ptr 3 0), (5, .ptr 5 0), (7, .int i14)], [], [(3, some [.int g_0.n, .ro false (.pairs g_0.bars)]), (5, some [.ro false (.ints p_2.free), .ro false (.ints p_2.tails), .ro false (.ints p_2.placed)])]⟩ : PS)) (S_IsPebbles_l2 N g_0 p_2 k) h (En.of ⟨rfl, rfl, rfl, rfl, trivial⟩ trivial ⟨rfl, rfl, trivial⟩) (fun _ => rfl) ?_
      rintro n i14 h
      rw [S_IsPebbles_l2] at h
      show VC _ _ _ (⟨[(1, .int k_1), (3, .ptr 3 0), (5, .ptr 5 0), (7, .int i14)], [], [(3, some [.int g_0.n, .ro false (.pairs g_0.bars)]), (5, some [.ro false (.ints p_2.free), .ro false (.ints p_2.tails), .ro false (.ints p_2.placed)])]⟩ : PS)
      iterate 2 refine vSeq ?_
      refine vRegion ?_
      iterate 5 refine oVal tt rfl rfl rfl rfl rfl trivial ?_
      refine vNil ?_
      change VC _ _ _ _
      refine vCond rfl (fun hb14 => ?_) (fun hb14 => ?_)
      ·replace h := cnd_t hb14 h
       refine vSkip ?_
       change VC _ _ _ _
       refine vSeq ?_
       refine vBlock ?_
       refine vSeq ?_
       refine vRegion ?_
       iterate 3 refine oVal tt rfl rfl rfl rfl rfl trivial ?_
       obtain ⟨hg15, h⟩ := grd_inv h
       refine oVal tt rfl rfl rfl rfl rfl hg15 ?_
       iterate 2 refine oVal tt rfl rfl rfl rfl rfl trivial ?_
       refine vNil ?_
       change VC _ _ _ _
       refine vSeq ?_
       refine vRegionD (by kernel_rfl) (by kernel_rfl) ?_
       iterate 3 refine cVal tt rfl (wNone rfl) rfl rfl rfl trivial ?_
       refine cSplit rfl rfl rfl (fun hb16 => ?_) (fun hb16 => ?_)
       ·replace h := cnd_t hb16 h
        iterate 5 refine cNoF rfl rfl rfl rfl hb16 rfl rfl ?_
        refine cPickT rfl (wNone rfl) rfl rfl rfl hb16 rfl ?_
        refine cVal tt rfl (wNone rfl) rfl rfl rfl trivial ?_
        iterate 3 refine cNoF rfl rfl rfl rfl rfl rfl rfl ?_
        iterate 8 refine cNoU rfl rfl rfl rfl rfl ?_
        refine cNoF rfl rfl rfl rfl rfl rfl rfl ?_
        refine cPickT rfl (wNone rfl) rfl rfl rfl rfl rfl ?_
        refine cVal tt rfl (wNone rfl) rfl rfl rfl trivial ?_
        iterate 13 refine cNoF rfl rfl rfl rfl rfl rfl rfl ?_
        iterate 12 refine cNoU rfl rfl rfl rfl rfl ?_
        refine cNoF rfl rfl rfl rfl rfl rfl rfl ?_
        refine cPickT rfl (wNone rfl) rfl rfl rfl rfl rfl ?_
        refine cNil ?_
        change VC _ _ _ _
        refine vCondT rfl rfl ?_
        refine vSeq ?_
        refine vRegion ?_
        refine oVal tt rfl rfl rfl rfl rfl trivial ?_
        refine vNil ?_
        change VC _ _ _ _
        refine vRet ?_
        change ∃ _, _
        cases h
        exact ⟨[], _, rfl, trivial, rfl, (.eq rfl), rfl⟩
       ·replace h := cnd_f hb16 h
        iterate 5 refine cVal tt rfl (wSome rfl rfl rfl rfl hb16) rfl rfl rfl trivial ?_
        refine cPickF rfl (wNone rfl) rfl rfl rfl hb16 rfl ?_
        refine cVal tt rfl (wNone rfl) rfl rfl rfl trivial ?_
        refine cSplit rfl rfl rfl (fun hb17 => ?_) (fun hb17 => ?_)
        ·replace h := cnd_t hb17 h
         iterate 3 refine cNoF rfl rfl rfl rfl hb17 rfl rfl ?_
         iterate 8 refine cNoU rfl rfl rfl rfl rfl ?_
         refine cNoF rfl rfl rfl rfl hb17 rfl rfl ?_
         refine cPickT rfl (wNone rfl) rfl rfl rfl hb17 rfl ?_
         refine cVal tt rfl (wNone rfl) rfl rfl rfl trivial ?_
         iterate 13 refine cNoF rfl rfl rfl rfl rfl rfl rfl ?_
         iterate 12 refine cNoU rfl rfl rfl rfl rfl ?_
         refine cNoF rfl rfl rfl rfl rfl rfl rfl ?_
         refine cPickT rfl (wNone rfl) rfl rfl rfl rfl rfl ?_
         refine cNil ?_
         change VC _ _ _ _
         refine vCondT rfl rfl ?_
         refine vSeq ?_
         refine vRegion ?_
         refine oVal tt rfl rfl rfl rfl rfl trivial ?_
         refine vNil ?_
         change VC _ _ _ _
         refine vRet ?_
         change ∃ _, _
         cases h
         exact ⟨[], _, rfl, trivial, rfl, (.eq rfl), rfl⟩
        ·replace h := cnd_f hb17 h
         iterate 3 refine cVal tt rfl (wSome rfl rfl rfl rfl hb17) rfl rfl rfl trivial ?_
         refine cSplit rfl rfl rfl (fun hb18 => ?_) (fun hb18 => ?_)
         ·replace h := cnd_t hb18 h
          iterate 3 refine cVal tt rfl (wSome rfl rfl rfl rfl hb18) rfl rfl rfl trivial ?_
          obtain ⟨hg19, h⟩ := grd_inv h
          refine cVal tt rfl (wSome rfl rfl rfl rfl hb18) rfl rfl rfl hg19 ?_
          obtain ⟨hg20, h⟩ := grd_inv h
          refine cVal tt rfl (wSome rfl rfl rfl rfl hb18) rfl rfl rfl hg20 ?_
          iterate 3 refine cVal tt rfl (wSome rfl rfl rfl rfl hb18) rfl rfl rfl trivial ?_
          refine cPickT rfl (wSome rfl rfl rfl rfl hb17) rfl rfl rfl hb18 rfl ?_
          refine cPickF rfl (wNone rfl) rfl rfl rfl hb17 rfl ?_
          refine cVal tt rfl (wNone rfl) rfl rfl rfl trivial ?_
          refine cSplit rfl rfl rfl (fun hb21 => ?_) (fun hb21 => ?_)
          ·replace h := cnd_t hb21 h
           iterate 13 refine cNoF rfl rfl rfl rfl hb21 rfl rfl ?_
           iterate 12 refine cNoU rfl rfl rfl rfl rfl ?_
           refine cNoF rfl rfl rfl rfl hb21 rfl rfl ?_
           refine cPickT rfl (wNone rfl) rfl rfl rfl hb21 rfl ?_
           refine cNil ?_
           change VC _ _ _ _
           refine vCondT rfl rfl ?_
           refine vSeq ?_
           refine vRegion ?_
           refine oVal tt rfl rfl rfl rfl rfl trivial ?_
           refine vNil ?_
           change VC _ _ _ _
           refine vRet ?_
           change ∃ _, _
           cases h
           exact ⟨[], _, rfl, trivial, rfl, (.eq rfl), rfl⟩
          ·replace h := cnd_f hb21 h
           iterate 3 refine cVal tt rfl (wSome rfl rfl rfl rfl hb21) rfl rfl rfl trivial ?_
           obtain ⟨hg22, h⟩ := grd_inv h
           refine cVal tt rfl (wSome rfl rfl rfl rfl hb21) rfl rfl rfl hg22 ?_
           iterate 4 refine cVal tt rfl (wSome rfl rfl rfl rfl hb21) rfl rfl rfl trivial ?_
           obtain ⟨hg23, h⟩ := grd_inv h
           refine cVal tt rfl (wSome rfl rfl rfl rfl hb21) rfl rfl rfl hg23 ?_
           iterate 4 refine cVal tt rfl (wSome rfl rfl rfl rfl hb21) rfl rfl rfl trivial ?_
           refine cSplit rfl rfl rfl (fun hb24 => ?_) (fun hb24 => ?_)
           ·replace h := cnd_t hb24 h
            iterate 3 refine cVal tt rfl (wSome rfl rfl rfl rfl hb24) rfl rfl rfl trivial ?_
            refine cVal tt rfl (wSome rfl rfl rfl rfl hb24) rfl rfl rfl hg22 ?_
            iterate 4 refine cVal tt rfl (wSome rfl rfl rfl rfl hb24) rfl rfl rfl trivial ?_
            refine cVal tt rfl (wSome rfl rfl rfl rfl hb24) rfl rfl rfl hg23 ?_
            iterate 3 refine cVal tt rfl (wSome rfl rfl rfl rfl hb24) rfl rfl rfl trivial ?_
            refine cPickT rfl (wSome rfl rfl rfl rfl hb21) rfl rfl rfl hb24 rfl ?_
            refine cPickF rfl (wNone rfl) rfl rfl rfl hb21 rfl ?_
            refine cNil ?_
            change VC _ _ _ _
            refine vCond rfl (fun hb25 => ?_) (fun hb25 => ?_)
            ·replace h := cnd_t hb25 h
             refine vSeq ?_
             refine vRegion ?_
             refine oVal tt rfl rfl rfl rfl rfl trivial ?_
             refine vNil ?_
             change VC _ _ _ _
             refine vRet ?_
             change ∃ _, _
             cases h
             exact ⟨[], _, rfl, trivial, rfl, (.eq rfl), rfl⟩
            ·replace h := cnd_f hb25 h
             refine vSkip ?_
             change VC _ _ _ _
             refine vRegion ?_
             refine oVal tt rfl rfl rfl rfl rfl trivial ?_
             obtain ⟨hg26, h⟩ := grd_inv h
             refine oVal tt rfl rfl rfl rfl rfl hg26 ?_
             refine oVal tt rfl rfl rfl rfl rfl trivial ?_
             refine vNil ?_
             change ∃ _, _
             exact ⟨(i14 + (1 : Int)), (En.of ⟨rfl, rfl, rfl, rfl, trivial⟩ trivial ⟨rfl, rfl, trivial⟩), h⟩
           ·replace h := cnd_f hb24 h
            iterate 12 refine cNoT rfl rfl rfl rfl hb24 rfl rfl ?_
            refine cPickF rfl (wSome rfl rfl rfl rfl hb21) rfl rfl rfl hb24 rfl ?_
            refine cPickF rfl (wNone rfl) rfl rfl rfl hb21 rfl ?_
            refine cNil ?_
            change VC _ _ _ _
            refine vCondF rfl rfl ?_
            refine vSkip ?_
            change VC _ _ _ _
            refine vRegion ?_
            refine oVal tt rfl rfl rfl rfl rfl trivial ?_
            obtain ⟨hg27, h⟩ := grd_inv h
            refine oVal tt rfl rfl rfl rfl rfl hg27 ?_
            refine oVal tt rfl rfl rfl rfl rfl trivial ?_
            refine vNil ?_
            change ∃ _, _
            exact ⟨(i14 + (1 : Int)), (En.of ⟨rfl, rfl, rfl, rfl, trivial⟩ trivial ⟨rfl, rfl, trivial⟩), h⟩
         ·replace h := cnd_f hb18 h
          iterate 8 refine cNoT rfl rfl rfl rfl hb18 rfl rfl ?_
          refine cPickF rfl (wSome rfl rfl rfl rfl hb17) rfl rfl rfl hb18 rfl ?_
          refine cPickF rfl (wNone rfl) rfl rfl rfl hb17 rfl ?_
          refine cVal tt rfl (wNone rfl) rfl rfl rfl trivial ?_
          iterate 3 refine cVal tt rfl (wSome rfl rfl rfl rfl rfl) rfl rfl rfl trivial ?_
          obtain ⟨hg28, h⟩ := grd_inv h
          refine cVal tt rfl (wSome rfl rfl rfl rfl rfl) rfl rfl rfl hg28 ?_
          iterate 4 refine cVal tt rfl (wSome rfl rfl rfl rfl rfl) rfl rfl rfl trivial ?_
          obtain ⟨hg29, h⟩ := grd_inv h
          refine cVal tt rfl (wSome rfl rfl rfl rfl rfl) rfl rfl rfl hg29 ?_
          iterate 4 refine cVal tt rfl (wSome rfl rfl rfl rfl rfl) rfl rfl rfl trivial ?_
          refine cSplit rfl rfl rfl (fun hb30 => ?_) (fun hb30 => ?_)
          ·replace h := cnd_t hb30 h
           iterate 3 refine cVal tt rfl (wSome rfl rfl rfl rfl hb30) rfl rfl rfl trivial ?_
           refine cVal tt rfl (wSome rfl rfl rfl rfl hb30) rfl rfl rfl hg28 ?_
           iterate 4 refine cVal tt rfl (wSome rfl rfl rfl rfl hb30) rfl rfl rfl trivial ?_
           refine cVal tt rfl (wSome rfl rfl rfl rfl hb30) rfl rfl rfl hg29 ?_
           iterate 3 refine cVal tt rfl (wSome rfl rfl rfl rfl hb30) rfl rfl rfl trivial ?_
           refine cPickT rfl (wSome rfl rfl rfl rfl rfl) rfl rfl rfl hb30 rfl ?_
           refine cPickF rfl (wNone rfl) rfl rfl rfl rfl rfl ?_
           refine cNil ?_
           change VC _ _ _ _
           refine vCond rfl (fun hb31 => ?_) (fun hb31 => ?_)
           ·replace h := cnd_t hb31 h
            refine vSeq ?_
            refine vRegion ?_
            refine oVal tt rfl rfl rfl rfl rfl trivial ?_
            refine vNil ?_
            change VC _ _ _ _
            refine vRet ?_
            change ∃ _, _
            cases h
            exact ⟨[], _, rfl, trivial, rfl, (.eq rfl), rfl⟩
           ·replace h := cnd_f hb31 h
            refine vSkip ?_
            change VC _ _ _ _
            refine vRegion ?_
            refine oVal tt rfl rfl rfl rfl rfl trivial ?_
            obtain ⟨hg32, h⟩ := grd_inv h
            refine oVal tt rfl rfl rfl rfl rfl hg32 ?_
            refine oVal tt rfl rfl rfl rfl rfl trivial ?_
            refine vNil ?_
            change ∃ _, _
            exact ⟨(i14 + (1 : Int)), (En.of ⟨rfl, rfl, rfl, rfl, trivial⟩ trivial ⟨rfl, rfl, trivial⟩), h⟩
          ·replace h := cnd_f hb30 h
           iterate 12 refine cNoT rfl rfl rfl rfl hb30 rfl rfl ?_
           refine cPickF rfl (wSome rfl rfl rfl rfl rfl) rfl rfl rfl hb30 rfl ?_
           refine cPickF rfl (wNone rfl) rfl rfl rfl rfl rfl ?_
           refine cNil ?_
           change VC _ _ _ _
           refine vCondF rfl rfl ?_
           refine vSkip ?_
           change VC _ _ _ _
           refine vRegion ?_
           refine oVal tt rfl rfl rfl rfl rfl trivial ?_
           obtain ⟨hg33, h⟩ := grd_inv h
           refine oVal tt rfl rfl rfl rfl rfl hg33 ?_
           refine oVal tt rfl rfl rfl rfl rfl trivial ?_
           refine vNil ?_
           change ∃ _, _
           exact ⟨(i14 + (1 : Int)), (En.of ⟨rfl, rfl, rfl, rfl, trivial⟩ trivial ⟨rfl, rfl, trivial⟩), h⟩
      ·replace h := cnd_f hb14 h
       refine vExit ?_
       change ∃ _, _
       exact ⟨(), (En.of ⟨rfl, rfl, rfl, trivial⟩ trivial ⟨rfl, rfl, trivial⟩), h⟩
def S_PlaceBar (N : Nat) (g_0 : Grf) (k_1 : Int) (l_2 : Int) (p_3 : Pbl) (bar_4 : Int) : Option (Pbl × Bool) :=
 (S_IsPebbles N g_0 k_1 p_3).bind fun v1 =>
 cnd (!v1) (
  (S_l4Copy N p_3).bind fun v2 =>
  some ((⟨v2.free, v2.tails, v2.placed⟩ : Pbl), false)) (
  (S_IsRange N k_1 l_2).bind fun v3 =>
  cnd (!v3) (
   (S_l4Copy N p_3).bind fun v4 =>
   some ((⟨v4.free, v4.tails, v4.placed⟩ : Pbl), false)) (
   cnd (decide (bar_4 < (0 : Int))) (
    (S_l4Copy N p_3).bind fun v5 =>
    some ((⟨v5.free, v5.tails, v5.placed⟩ : Pbl), false)) (
    cnd (decide (bar_4 ≥ (g_0.bars.length : Int))) (
     (S_l4Copy N p_3).bind fun v6 =>
     some ((⟨v6.free, v6.tails, v6.placed⟩ : Pbl), false)) (
     cnd (decide ((p_3.placed.length : Int) > (0 : Int))) (
      grd (Rg64 ((p_3.placed.length : Int) - (1 : Int))) <|
      grd (0 ≤ ((p_3.placed.length : Int) - (1 : Int)) ∧ ((p_3.placed.length : Int) - (1 : Int)) < (p_3.placed.length : Int)) <|
      cnd (decide ((p_3.placed.getD ((((p_3.placed.length : Int) - (1 : Int))).toNat) 0) ≥ bar_4)) (
       (S_l4Copy N p_3).bind fun v7 =>
       some ((⟨v7.free, v7.tails, v7.placed⟩ : Pbl), false)) (
       grd (0 ≤ bar_4 ∧ bar_4 < (g_0.bars.length : Int)) <|
       grd (Rg64 (l_2 + (1 : Int))) <|
       (S_l4Gather N g_0 p_3 ((g_0.bars.getD ((bar_4).toNat) (0, 0)).1) ((g_0.bars.getD ((bar_4).toNat) (0, 0)).2) (l_2 + (1 : Int))).bind fun v8 =>
       cnd (!v8.2) (
        (S_l4Copy N p_3).bind fun v9 =>
        some ((⟨v9.free, v9.tails, v9.placed⟩ : Pbl), false)) (
        grd (0 ≤ ((g_0.bars.getD ((bar_4).toNat) (0, 0)).1) ∧ ((g_0.bars.getD ((bar_4).toNat) (0, 0)).1) < (v8.1.free.length : Int)) <|
        jn (fun (tail10 : Int) =>
           grd (0 ≤ tail10 ∧ tail10 < (v8.1.free.length : Int)) <|
           grd (Rg64 ((v8.1.free.getD ((tail10).toNat) 0) - (1 : Int))) <|
           grd (v8.1.tails.length + 1 ≤ 4294967296) <|
           grd (v8.1.placed.length + 1 ≤ 4294967296) <|
           grd (v8.1.free.length = (v8.1.free.set ((tail10).toNat) ((v8.1.free.getD ((tail10).toNat) 0) - (1 : Int))).length) <|
           some ((⟨(v8.1.free.set ((tail10).toNat) ((v8.1.free.getD ((tail10).toNat) 0) - (1 : Int))), (v8.1.tails ++ ([tail10] : List Int)), (v8.1.placed ++ ([bar_4] : List Int))⟩ : Pbl), true)) fun k11 =>
         cnd ((v8.1.free.getD (((g_0.bars.getD ((bar_4).toNat) (0, 0)).1).toNat) 0) == (0 : Int)) (
          k11 ((g_0.bars.getD ((bar_4).toNat) (0, 0)).2)) (
          k11 ((g_0.bars.getD ((bar_4).toNat) (0, 0)).1))))) (
      grd (0 ≤ bar_4 ∧ bar_4 < (g_0.bars.length : Int)) <|
      grd (Rg64 (l_2 + (1 : Int))) <|
      (S_l4Gather N g_0 p_3 ((g_0.bars.getD ((bar_4).toNat) (0, 0)).1) ((g_0.bars.getD ((bar_4).toNat) (0, 0)).2) (l_2 + (1 : Int))).bind fun v12 =>
      cnd (!v12.2) (
       (S_l4Copy N p_3).bind fun v13 =>
       some ((⟨v13.free, v13.tails, v13.placed⟩ : Pbl), false)) (
       grd (0 ≤ ((g_0.bars.getD ((bar_4).toNat) (0, 0)).1) ∧ ((g_0.bars.getD ((bar_4).toNat) (0, 0)).1) < (v12.1.free.length : Int)) <|
       jn (fun (tail14 : Int) =>
          grd (0 ≤ tail14 ∧ tail14 < (v12.1.free.length : Int)) <|
          grd (Rg64 ((v12.1.free.getD ((tail14).toNat) 0) - (1 : Int))) <|
          grd (v12.1.tails.length + 1 ≤ 4294967296) <|
          grd (v12.1.placed.length + 1 ≤ 4294967296) <|
          grd (v12.1.free.length = (v12.1.free.set ((tail14).toNat) ((v12.1.free.getD ((tail14).toNat) 0) - (1 : Int))).length) <|
          some ((⟨(v12.1.free.set ((tail14).toNat) ((v12.1.free.getD ((tail14).toNat) 0) - (1 : Int))), (v12.1.tails ++ ([tail14] : List Int)), (v12.1.placed ++ ([bar_4] : List Int))⟩ : Pbl), true)) fun k15 =>
        cnd ((v12.1.free.getD (((g_0.bars.getD ((bar_4).toNat) (0, 0)).1).toNat) 0) == (0 : Int)) (
         k15 ((g_0.bars.getD ((bar_4).toNat) (0, 0)).2)) (
         k15 ((g_0.bars.getD ((bar_4).toNat) (0, 0)).1))))))))
set_option maxRecDepth 20000 in
set_option maxHeartbeats 1600000 in
theorem S_PlaceBar_w (N : Nat) (g_0 : Grf) (k_1 : Int) (l_2 : Int) (p_3 : Pbl) (bar_4 : Int) (r : Pbl × Bool) (h : S_PlaceBar N g_0 k_1 l_2 p_3 bar_4 = some r) : PCall Tryz.prog 184 [gD g_0, .int k_1, .int l_2, bD p_3, .int bar_4] [(3, .ints r.1.free), (3, .ints r.1.tails), (3, .ints r.1.placed)] (.tup [.agg [.row 0 0 r.1.free.length, .row 1 0 r.1.tails.length, .row 2 0 r.1.placed.length], .bool r.2]) := by
 unfold S_PlaceBar at h
 refine pcall_intro (TT := TT) tt Tryz.func184 rfl rfl Tryz.ntmps184 (congrArg Array.toList Tryz.results184) rfl rfl fun w0 => ?_
 refine vSeq ?_
 refine vRegion ?_
 iterate 2 refine oBox rfl rfl rfl rfl rfl rfl rfl rfl rfl ?_
 refine oAlloc tt rfl rfl rfl rfl rfl rfl rfl rfl rfl ?_
 refine oVal tt rfl rfl rfl rfl rfl trivial ?_
 refine vNil ?_
 change VC _ _ _ _
 iterate 2 refine vSeq ?_
 refine vRegion ?_
 iterate 3 refine oVal tt rfl rfl rfl rfl rfl trivial ?_
 obtain ⟨v1, hc1, h⟩ := bind_inv h
 refine oCall (S_IsPebbles_w N g_0 k_1 p_3 v1 hc1) rfl rfl rfl rfl rfl rfl rfl rfl ⟨⟨rfl, rfl, trivial⟩, rfl, ⟨rfl, rfl, rfl, trivial⟩, trivial⟩ ?_
 iterate 2 refine oVal tt rfl rfl rfl rfl rfl trivial ?_
 refine oSplit rfl rfl rfl (fun hb2 => ?_) (fun hb2 => ?_)
 ·replace h := cnd_t hb2 h
  iterate 4 refine oNoF rfl rfl rfl rfl hb2 rfl rfl ?_
  refine oPick rfl rfl rfl rfl rfl hb2 rfl ?_
  refine oVal tt rfl rfl rfl rfl rfl trivial ?_
  iterate 2 refine oNoF rfl rfl rfl rfl rfl rfl rfl ?_
  refine oPick rfl rfl rfl rfl rfl rfl rfl ?_
  refine oVal tt rfl rfl rfl rfl rfl trivial ?_
  iterate 5 refine oNoF rfl rfl rfl rfl rfl rfl rfl ?_
  refine oPick rfl rfl rfl rfl rfl rfl rfl ?_
  refine oVal tt rfl rfl rfl rfl rfl trivial ?_
  iterate 5 refine oNoF rfl rfl rfl rfl rfl rfl rfl ?_
  iterate 10 refine oNoU rfl rfl rfl rfl rfl ?_
  refine oNoF rfl rfl rfl rfl rfl rfl rfl ?_
  refine oPick rfl rfl rfl rfl rfl rfl rfl ?_
  refine vNil ?_
  change VC _ _ _ _
  refine vCondT rfl rfl ?_
  refine vSeq ?_
  refine vRegion ?_
  refine oVal tt rfl rfl rfl rfl rfl trivial ?_
  obtain ⟨v2, hc3, h⟩ := bind_inv h
  refine oCall (S_l4Copy_w N p_3 v2 hc3) rfl rfl rfl rfl rfl rfl rfl rfl ⟨⟨rfl, rfl, rfl, trivial⟩, trivial⟩ ?_
  refine oStore tt rfl rfl rfl rfl rfl rfl rfl rfl rfl rfl rfl ⟨trivial, trivial, trivial, trivial⟩ ?_
  refine oVal tt rfl rfl rfl rfl rfl trivial ?_
  refine vNil ?_
  change VC _ _ _ _
  refine vRet ?_
  change ∃ _, _
  cases h
  exact ⟨[1570, 1571, 1572], _, rfl, ⟨rfl, rfl, rfl, trivial⟩, rfl, (.eq rfl), rfl⟩
 ·replace h := cnd_f hb2 h
  iterate 2 refine oValG tt rfl rfl rfl rfl rfl hb2 rfl rfl rfl trivial ?_
  obtain ⟨v3, hc4, h⟩ := bind_inv h
  refine oCallG (S_IsRange_w N k_1 l_2 v3 hc4) rfl rfl rfl rfl hb2 rfl rfl rfl rfl rfl rfl rfl ⟨rfl, rfl, trivial⟩ ?_
  refine oValG tt rfl rfl rfl rfl rfl hb2 rfl rfl rfl trivial ?_
  refine oPickF rfl rfl rfl rfl rfl hb2 rfl ?_
  refine oVal tt rfl rfl rfl rfl rfl trivial ?_
  refine oSplit rfl rfl rfl (fun hb5 => ?_) (fun hb5 => ?_)
  ·replace h := cnd_t hb5 h
   iterate 2 refine oNoF rfl rfl rfl rfl hb5 rfl rfl ?_
   refine oPick rfl rfl rfl rfl rfl hb5 rfl ?_
   refine oVal tt rfl rfl rfl rfl rfl trivial ?_
   iterate 5 refine oNoF rfl rfl rfl rfl rfl rfl rfl ?_
   refine oPick rfl rfl rfl rfl rfl rfl rfl ?_
   refine oVal tt rfl rfl rfl rfl rfl trivial ?_
   iterate 5 refine oNoF rfl rfl rfl rfl rfl rfl rfl ?_
   iterate 10 refine oNoU rfl rfl rfl rfl rfl ?_
   refine oNoF rfl rfl rfl rfl rfl rfl rfl ?_
   refine oPick rfl rfl rfl rfl rfl rfl rfl ?_
   refine vNil ?_
   change VC _ _ _ _
   refine vCondT rfl rfl ?_
   refine vSeq ?_
   refine vRegion ?_
   refine oVal tt rfl rfl rfl rfl rfl trivial ?_
   obtain ⟨v4, hc6, h⟩ := bind_inv h
   refine oCall (S_l4Copy_w N p_3 v4 hc6) rfl rfl rfl rfl rfl rfl rfl rfl ⟨⟨rfl, rfl, rfl, trivial⟩, trivial⟩ ?_
   refine oStore tt rfl rfl rfl rfl rfl rfl rfl rfl rfl rfl rfl ⟨trivial, trivial, trivial, trivial⟩ ?_
   refine oVal tt rfl rfl rfl rfl rfl trivial ?_
   refine vNil ?_
   change VC _ _ _ _
   refine vRet ?_
   change ∃ _, _
   cases h
   exact ⟨[1570, 1571, 1572], _, rfl, ⟨rfl, rfl, rfl, trivial⟩, rfl, (.eq rfl), rfl⟩
  ·replace h := cnd_f hb5 h
   iterate 2 refine oValG tt rfl rfl rfl rfl rfl hb5 rfl rfl rfl trivial ?_
   refine oPickF rfl rfl rfl rfl rfl hb5 rfl ?_
   refine oVal tt rfl rfl rfl rfl rfl trivial ?_
   refine oSplit rfl rfl rfl (fun hb7 => ?_) (fun hb7 => ?_)
   ·replace h := cnd_t hb7 h
    iterate 5 refine oNoF rfl rfl rfl rfl hb7 rfl rfl ?_
    refine oPick rfl rfl rfl rfl rfl hb7 rfl ?_
    refine oVal tt rfl rfl rfl rfl rfl trivial ?_
    iterate 5 refine oNoF rfl rfl rfl rfl rfl rfl rfl ?_
    iterate 10 refine oNoU rfl rfl rfl rfl rfl ?_
    refine oNoF rfl rfl rfl rfl rfl rfl rfl ?_
    refine oPick rfl rfl rfl rfl rfl rfl rfl ?_
    refine vNil ?_
    change VC _ _ _ _
    refine vCondT rfl rfl ?_
    refine vSeq ?_
    refine vRegion ?_
    refine oVal tt rfl rfl rfl rfl rfl trivial ?_
    obtain ⟨v5, hc8, h⟩ := bind_inv h
    refine oCall (S_l4Copy_w N p_3 v5 hc8) rfl rfl rfl rfl rfl rfl rfl rfl ⟨⟨rfl, rfl, rfl, trivial⟩, trivial⟩ ?_
    refine oStore tt rfl rfl rfl rfl rfl rfl rfl rfl rfl rfl rfl ⟨trivial, trivial, trivial, trivial⟩ ?_
    refine oVal tt rfl rfl rfl rfl rfl trivial ?_
    refine vNil ?_
    change VC _ _ _ _
    refine vRet ?_
    change ∃ _, _
    cases h
    exact ⟨[1570, 1571, 1572], _, rfl, ⟨rfl, rfl, rfl, trivial⟩, rfl, (.eq rfl), rfl⟩
   ·replace h := cnd_f hb7 h
    iterate 5 refine oValG tt rfl rfl rfl rfl rfl hb7 rfl rfl rfl trivial ?_
    refine oPickF rfl rfl rfl rfl rfl hb7 rfl ?_
    refine oVal tt rfl rfl rfl rfl rfl trivial ?_
    refine oSplit rfl rfl rfl (fun hb9 => ?_) (fun hb9 => ?_)
    ·replace h := cnd_t hb9 h
     iterate 5 refine oNoF rfl rfl rfl rfl hb9 rfl rfl ?_
     iterate 10 refine oNoU rfl rfl rfl rfl rfl ?_
     refine oNoF rfl rfl rfl rfl hb9 rfl rfl ?_
     refine oPick rfl rfl rfl rfl rfl hb9 rfl ?_
     refine vNil ?_
     change VC _ _ _ _
     refine vCondT rfl rfl ?_
     refine vSeq ?_
     refine vRegion ?_
     refine oVal tt rfl rfl rfl rfl rfl trivial ?_
     obtain ⟨v6, hc10, h⟩ := bind_inv h
     refine oCall (S_l4Copy_w N p_3 v6 hc10) rfl rfl rfl rfl rfl rfl rfl rfl ⟨⟨rfl, rfl, rfl, trivial⟩, trivial⟩ ?_
     refine oStore tt rfl rfl rfl rfl rfl rfl rfl rfl rfl rfl rfl ⟨trivial, trivial, trivial, trivial⟩ ?_
     refine oVal tt rfl rfl rfl rfl rfl trivial ?_
     refine vNil ?_
     change VC _ _ _ _
     refine vRet ?_
     change ∃ _, _
     cases h
     exact ⟨[1570, 1571, 1572], _, rfl, ⟨rfl, rfl, rfl, trivial⟩, rfl, (.eq rfl), rfl⟩
    ·replace h := cnd_f hb9 h
     iterate 5 refine oValG tt rfl rfl rfl rfl rfl hb9 rfl rfl rfl trivial ?_
     refine oSplit rfl rfl rfl (fun hb11 => ?_) (fun hb11 => ?_)
     ·replace h := cnd_t hb11 h
      iterate 5 refine oValG tt rfl rfl rfl rfl rfl hb11 rfl rfl rfl trivial ?_
      obtain ⟨hg12, h⟩ := grd_inv h
      refine oValG tt rfl rfl rfl rfl rfl hb11 rfl rfl rfl hg12 ?_
      obtain ⟨hg13, h⟩ := grd_inv h
      refine oValG tt rfl rfl rfl rfl rfl hb11 rfl rfl rfl hg13 ?_
      iterate 3 refine oValG tt rfl rfl rfl rfl rfl hb11 rfl rfl rfl trivial ?_
      refine oPickGT rfl rfl rfl rfl hb9 rfl rfl rfl rfl hb11 rfl ?_
      refine oPickF rfl rfl rfl rfl rfl hb9 rfl ?_
      refine vNil ?_
      change VC _ _ _ _
      refine vCond rfl (fun hb14 => ?_) (fun hb14 => ?_)
      ·replace h := cnd_t hb14 h
       refine vSeq ?_
       refine vRegion ?_
       refine oVal tt rfl rfl rfl rfl rfl trivial ?_
       obtain ⟨v7, hc15, h⟩ := bind_inv h
       refine oCall (S_l4Copy_w N p_3 v7 hc15) rfl rfl rfl rfl rfl rfl rfl rfl ⟨⟨rfl, rfl, rfl, trivial⟩, trivial⟩ ?_
       refine oStore tt rfl rfl rfl rfl rfl rfl rfl rfl rfl rfl rfl ⟨trivial, trivial, trivial, trivial⟩ ?_
       refine oVal tt rfl rfl rfl rfl rfl trivial ?_
       refine vNil ?_
       change VC _ _ _ _
       refine vRet ?_
       change ∃ _, _
       cases h
       exact ⟨[1570, 1571, 1572], _, rfl, ⟨rfl, rfl, rfl, trivial⟩, rfl, (.eq rfl), rfl⟩
      ·replace h := cnd_f hb14 h
       refine vSkip ?_
       change VC _ _ _ _
       refine vSeq ?_
       refine vRegion ?_
       iterate 3 refine oVal tt rfl rfl rfl rfl rfl trivial ?_
       obtain ⟨hg16, h⟩ := grd_inv h
       refine oVal tt rfl rfl rfl rfl rfl hg16 ?_
       refine oVal tt rfl rfl rfl rfl rfl trivial ?_
       refine oAlloc tt rfl rfl rfl rfl rfl rfl rfl rfl rfl ?_
       refine oStore tt rfl rfl rfl rfl rfl rfl rfl rfl rfl rfl rfl ⟨trivial, trivial, trivial⟩ ?_
       refine vNil ?_
       change VC _ _ _ _
       refine vSeq ?_
       refine vRegion ?_
       iterate 7 refine oVal tt rfl rfl rfl rfl rfl trivial ?_
       obtain ⟨hg17, h⟩ := grd_inv h
       refine oVal tt rfl rfl rfl rfl rfl hg17 ?_
       obtain ⟨v8, hc18, h⟩ := bind_inv h
       refine oCall (S_l4Gather_w N g_0 p_3 ((g_0.bars.getD ((bar_4).toNat) (0, 0)).1) ((g_0.bars.getD ((bar_4).toNat) (0, 0)).2) (l_2 + (1 : Int)) v8 hc18) rfl rfl rfl rfl rfl rfl rfl rfl ⟨⟨rfl, rfl, trivial⟩, ⟨rfl, rfl, rfl, trivial⟩, rfl, rfl, rfl, trivial⟩ ?_
       iterate 3 refine oVal tt rfl rfl rfl rfl rfl trivial ?_
       refine oAlloc tt rfl rfl rfl rfl rfl rfl rfl rfl rfl ?_
       refine oStore tt rfl rfl rfl rfl rfl rfl rfl rfl rfl rfl rfl ⟨trivial, trivial, trivial, trivial⟩ ?_
       refine oVal tt rfl rfl rfl rfl rfl trivial ?_
       refine vNil ?_
       change VC _ _ _ _
       iterate 2 refine vSeq ?_
       refine vRegion ?_
       iterate 2 refine oVal tt rfl rfl rfl rfl rfl trivial ?_
       refine vNil ?_
       change VC _ _ _ _
       refine vCond rfl (fun hb19 => ?_) (fun hb19 => ?_)
       ·replace h := cnd_t hb19 h
        refine vSeq ?_
        refine vRegion ?_
        refine oVal tt rfl rfl rfl rfl rfl trivial ?_
        obtain ⟨v9, hc20, h⟩ := bind_inv h
        refine oCall (S_l4Copy_w N p_3 v9 hc20) rfl rfl rfl rfl rfl rfl rfl rfl ⟨⟨rfl, rfl, rfl, trivial⟩, trivial⟩ ?_
        refine oStore tt rfl rfl rfl rfl rfl rfl rfl rfl rfl rfl rfl ⟨trivial, trivial, trivial, trivial⟩ ?_
        refine oVal tt rfl rfl rfl rfl rfl trivial ?_
        refine vNil ?_
        change VC _ _ _ _
        refine vRet ?_
        change ∃ _, _
        cases h
        exact ⟨[1780, 1781, 1782], _, rfl, ⟨rfl, rfl, rfl, trivial⟩, rfl, (.eq rfl), rfl⟩
       ·replace h := cnd_f hb19 h
        refine vSkip ?_
        change VC _ _ _ _
        refine vSeq ?_
        refine vRegion ?_
        iterate 3 refine oVal tt rfl rfl rfl rfl rfl trivial ?_
        refine vNil ?_
        change VC _ _ _ _
        iterate 2 refine vSeq ?_
        refine vRegion ?_
        iterate 4 refine oVal tt rfl rfl rfl rfl rfl trivial ?_
        obtain ⟨hg21, h⟩ := grd_inv h
        iterate 2 refine oVal tt rfl rfl rfl rfl rfl hg21 ?_
        refine oVal tt rfl rfl rfl rfl rfl trivial ?_
        refine vNil ?_
        change VC _ _ _ _
        refine vJoinN h (α := Int) (J := fun (tail10 : Int) => (⟨[(4, .int bar_4), (10, .ptr 10 0), (13, .ptr 13 0), (15, .int tail10)], [(1720, some (3, .ints v8.1.free)), (1721, some (3, .ints v8.1.tails)), (1722, some (3, .ints v8.1.placed))], [(10, some [.nil, .nil, .nil]), (13, some [.row 1720 0 v8.1.free.length, .row 1721 0 v8.1.tails.length, .row 1722 0 v8.1.placed.length])]⟩ : PS)) ?_ ?_
        ·rintro tail10 h
         show VC _ _ _ (⟨[(4, .int bar_4), (10, .ptr 10 0), (13, .ptr 13 0), (15, .int tail10)], [(1720, some (3, .ints v8.1.free)), (1721, some (3, .ints v8.1.tails)), (1722, some (3, .ints v8.1.placed))], [(10, some [.nil, .nil, .nil]), (13, some [.row 1720 0 v8.1.free.length, .row 1721 0 v8.1.tails.length, .row 1722 0 v8.1.placed.length])]⟩ : PS)
         refine vSeq ?_
         refine vRegionN 9 [] [0, 1, 0, 0, 8, 0, 56, 120, 248, 511, 1023] (by kernel_rfl) (by kernel_rfl) (by kernel_rfl) (by kernel_rfl) (by kernel_rfl) rfl (by rfl) ?_
         iterate 6 refine nVal tt rfl (wNone rfl) rfl rfl rfl rfl rfl trivial ?_
         obtain ⟨hg22, h⟩ := grd_inv h
         iterate 2 refine nVal tt rfl (wNone rfl) rfl rfl rfl rfl rfl hg22 ?_
         obtain ⟨hg23, h⟩ := grd_inv h
         refine nVal tt rfl (wNone rfl) rfl rfl rfl rfl rfl hg23 ?_
         refine nNil ?_
         change VO _ _ _ _ _
         refine oVal tt rfl rfl rfl rfl rfl hg22 ?_
         refine oStore tt rfl rfl rfl rfl rfl rfl rfl rfl rfl rfl ⟨_, _, rfl, hg22.1, hg22.2⟩ ⟨hg22, trivial⟩ ?_
         refine vNil ?_
         change VC _ _ _ _
         refine vSeq ?_
         refine vRegion ?_
         iterate 3 refine oVal tt rfl rfl rfl rfl rfl trivial ?_
         refine oBuild tt rfl rfl rfl rfl rfl rfl rfl rfl rfl rfl rfl ?_
         obtain ⟨hg24, h⟩ := grd_inv h
         refine oAppend tt rfl rfl rfl rfl rfl rfl rfl rfl rfl rfl rfl rfl rfl rfl rfl rfl (Nat.le_of_eq (Nat.zero_add _)) hg24 ?_
         refine oVal tt rfl rfl rfl rfl rfl trivial ?_
         refine oStore tt rfl rfl rfl rfl rfl rfl rfl rfl rfl rfl rfl ⟨trivial, trivial⟩ ?_
         refine vNil ?_
         change VC _ _ _ _
         refine vSeq ?_
         refine vRegion ?_
         iterate 3 refine oVal tt rfl rfl rfl rfl rfl trivial ?_
         refine oBuild tt rfl rfl rfl rfl rfl rfl rfl rfl rfl rfl rfl ?_
         obtain ⟨hg25, h⟩ := grd_inv h
         refine oAppend tt rfl rfl rfl rfl rfl rfl rfl rfl rfl rfl rfl rfl rfl rfl rfl rfl (Nat.le_of_eq (Nat.zero_add _)) hg25 ?_
         refine oVal tt rfl rfl rfl rfl rfl trivial ?_
         refine oStore tt rfl rfl rfl rfl rfl rfl rfl rfl rfl rfl rfl ⟨trivial, trivial⟩ ?_
         refine vNil ?_
         change VC _ _ _ _
         refine vSeq ?_
         refine vRegion ?_
         refine oVal tt rfl rfl rfl rfl rfl trivial ?_
         refine oStore tt rfl rfl rfl rfl rfl rfl rfl rfl rfl rfl rfl ⟨trivial, trivial, trivial, trivial⟩ ?_
         refine oVal tt rfl rfl rfl rfl rfl trivial ?_
         refine vNil ?_
         change VC _ _ _ _
         obtain ⟨hg26, h⟩ := grd_inv h
         refine vRet ?_
         change ∃ _, _
         cases h
         exact ⟨[1720, 1721, 1722], _, rfl, ⟨rfl, rfl, rfl, trivial⟩, rfl, (.eq (by simp only [hg26]; rfl)), rfl⟩
        ·intro k11 h
         refine vCond rfl (fun hb27 => ?_) (fun hb27 => ?_)
         ·replace h := cnd_t hb27 h
          refine vRegion ?_
          iterate 3 refine oVal tt rfl rfl rfl rfl rfl trivial ?_
          refine vNil ?_
          change ∃ _, _
          exact ⟨(g_0.bars.getD ((bar_4).toNat) (0, 0)).2, (En.of ⟨rfl, rfl, rfl, rfl, trivial⟩ ⟨rfl, rfl, rfl, trivial⟩ ⟨rfl, rfl, trivial⟩), h⟩
         ·replace h := cnd_f hb27 h
          refine vSkip ?_
          change ∃ _, _
          exact ⟨(g_0.bars.getD ((bar_4).toNat) (0, 0)).1, (En.of ⟨rfl, rfl, rfl, rfl, trivial⟩ ⟨rfl, rfl, rfl, trivial⟩ ⟨rfl, rfl, trivial⟩), h⟩
     ·replace h := cnd_f hb11 h
      iterate 10 refine oNoT rfl rfl rfl rfl hb11 rfl rfl ?_
      refine oPickGF rfl rfl rfl rfl hb9 rfl rfl rfl rfl hb11 rfl ?_
      refine oPickF rfl rfl rfl rfl rfl hb9 rfl ?_
      refine vNil ?_
      change VC _ _ _ _
      refine vCondF rfl rfl ?_
      refine vSkip ?_
      change VC _ _ _ _
      refine vSeq ?_
      refine vRegion ?_
      iterate 3 refine oVal tt rfl rfl rfl rfl rfl trivial ?_
      obtain ⟨hg28, h⟩ := grd_inv h
      refine oVal tt rfl rfl rfl rfl rfl hg28 ?_
      refine oVal tt rfl rfl rfl rfl rfl trivial ?_
      refine oAlloc tt rfl rfl rfl rfl rfl rfl rfl rfl rfl ?_
      refine oStore tt rfl rfl rfl rfl rfl rfl rfl rfl rfl rfl rfl ⟨trivial, trivial, trivial⟩ ?_
      refine vNil ?_
      change VC _ _ _ _
      refine vSeq ?_
      refine vRegion ?_
      iterate 7 refine oVal tt rfl rfl rfl rfl rfl trivial ?_
      obtain ⟨hg29, h⟩ := grd_inv h
      refine oVal tt rfl rfl rfl rfl rfl hg29 ?_
      obtain ⟨v12, hc30, h⟩ := bind_inv h
      refine oCall (S_l4Gather_w N g_0 p_3 ((g_0.bars.getD ((bar_4).toNat) (0, 0)).1) ((g_0.bars.getD ((bar_4).toNat) (0, 0)).2) (l_2 + (1 : Int)) v12 hc30) rfl rfl rfl rfl rfl rfl rfl rfl ⟨⟨rfl, rfl, trivial⟩, ⟨rfl, rfl, rfl, trivial⟩, rfl, rfl, rfl, trivial⟩ ?_
      iterate 3 refine oVal tt rfl rfl rfl rfl rfl trivial ?_
      refine oAlloc tt rfl rfl rfl rfl rfl rfl rfl rfl rfl ?_
      refine oStore tt rfl rfl rfl rfl rfl rfl rfl rfl rfl rfl rfl ⟨trivial, trivial, trivial, trivial⟩ ?_
      refine oVal tt rfl rfl rfl rfl rfl trivial ?_
      refine vNil ?_
      change VC _ _ _ _
      iterate 2 refine vSeq ?_
      refine vRegion ?_
      iterate 2 refine oVal tt rfl rfl rfl rfl rfl trivial ?_
      refine vNil ?_
      change VC _ _ _ _
      refine vCond rfl (fun hb31 => ?_) (fun hb31 => ?_)
      ·replace h := cnd_t hb31 h
       refine vSeq ?_
       refine vRegion ?_
       refine oVal tt rfl rfl rfl rfl rfl trivial ?_
       obtain ⟨v13, hc32, h⟩ := bind_inv h
       refine oCall (S_l4Copy_w N p_3 v13 hc32) rfl rfl rfl rfl rfl rfl rfl rfl ⟨⟨rfl, rfl, rfl, trivial⟩, trivial⟩ ?_
       refine oStore tt rfl rfl rfl rfl rfl rfl rfl rfl rfl rfl rfl ⟨trivial, trivial, trivial, trivial⟩ ?_
       refine oVal tt rfl rfl rfl rfl rfl trivial ?_
       refine vNil ?_
       change VC _ _ _ _
       refine vRet ?_
       change ∃ _, _
       cases h
       exact ⟨[1780, 1781, 1782], _, rfl, ⟨rfl, rfl, rfl, trivial⟩, rfl, (.eq rfl), rfl⟩
      ·replace h := cnd_f hb31 h
       refine vSkip ?_
       change VC _ _ _ _
       refine vSeq ?_
       refine vRegion ?_
       iterate 3 refine oVal tt rfl rfl rfl rfl rfl trivial ?_
       refine vNil ?_
       change VC _ _ _ _
       iterate 2 refine vSeq ?_
       refine vRegion ?_
       iterate 4 refine oVal tt rfl rfl rfl rfl rfl trivial ?_
       obtain ⟨hg33, h⟩ := grd_inv h
       iterate 2 refine oVal tt rfl rfl rfl rfl rfl hg33 ?_
       refine oVal tt rfl rfl rfl rfl rfl trivial ?_
       refine vNil ?_
       change VC _ _ _ _
       refine vJoinN h (α := Int) (J := fun (tail14 : Int) => (⟨[(4, .int bar_4), (10, .ptr 10 0), (13, .ptr 13 0), (15, .int tail14)], [(1720, some (3, .ints v12.1.free)), (1721, some (3, .ints v12.1.tails)), (1722, some (3, .ints v12.1.placed))], [(10, some [.nil, .nil, .nil]), (13, some [.row 1720 0 v12.1.free.length, .row 1721 0 v12.1.tails.length, .row 1722 0 v12.1.placed.length])]⟩ : PS)) ?_ ?_
       ·rintro tail14 h
        show VC _ _ _ (⟨[(4, .int bar_4), (10, .ptr 10 0), (13, .ptr 13 0), (15, .int tail14)], [(1720, some (3, .ints v12.1.free)), (1721, some (3, .ints v12.1.tails)), (1722, some (3, .ints v12.1.placed))], [(10, some [.nil, .nil, .nil]), (13, some [.row 1720 0 v12.1.free.length, .row 1721 0 v12.1.tails.length, .row 1722 0 v12.1.placed.length])]⟩ : PS)
        refine vSeq ?_
        refine vRegionN 9 [] [0, 1, 0, 0, 8, 0, 56, 120, 248, 511, 1023] (by kernel_rfl) (by kernel_rfl) (by kernel_rfl) (by kernel_rfl) (by kernel_rfl) rfl (by rfl) ?_
        iterate 6 refine nVal tt rfl (wNone rfl) rfl rfl rfl rfl rfl trivial ?_
        obtain ⟨hg34, h⟩ := grd_inv h
        iterate 2 refine nVal tt rfl (wNone rfl) rfl rfl rfl rfl rfl hg34 ?_
        obtain ⟨hg35, h⟩ := grd_inv h
        refine nVal tt rfl (wNone rfl) rfl rfl rfl rfl rfl hg35 ?_
        refine nNil ?_
        change VO _ _ _ _ _
        refine oVal tt rfl rfl rfl rfl rfl hg34 ?_
        refine oStore tt rfl rfl rfl rfl rfl rfl rfl rfl rfl rfl ⟨_, _, rfl, hg34.1, hg34.2⟩ ⟨hg34, trivial⟩ ?_
        refine vNil ?_
        change VC _ _ _ _
        refine vSeq ?_
        refine vRegion ?_
        iterate 3 refine oVal tt rfl rfl rfl rfl rfl trivial ?_
        refine oBuild tt rfl rfl rfl rfl rfl rfl rfl rfl rfl rfl rfl ?_
        obtain ⟨hg36, h⟩ := grd_inv h
        refine oAppend tt rfl rfl rfl rfl rfl rfl rfl rfl rfl rfl rfl rfl rfl rfl rfl rfl (Nat.le_of_eq (Nat.zero_add _)) hg36 ?_
        refine oVal tt rfl rfl rfl rfl rfl trivial ?_
        refine oStore tt rfl rfl rfl rfl rfl rfl rfl rfl rfl rfl rfl ⟨trivial, trivial⟩ ?_
        refine vNil ?_
        change VC _ _ _ _
        refine vSeq ?_
        refine vRegion ?_
        iterate 3 refine oVal tt rfl rfl rfl rfl rfl trivial ?_
        refine oBuild tt rfl rfl rfl rfl rfl rfl rfl rfl rfl rfl rfl ?_
        obtain ⟨hg37, h⟩ := grd_inv h
        refine oAppend tt rfl rfl rfl rfl rfl rfl rfl rfl rfl rfl rfl rfl rfl rfl rfl rfl (Nat.le_of_eq (Nat.zero_add _)) hg37 ?_
        refine oVal tt rfl rfl rfl rfl rfl trivial ?_
        refine oStore tt rfl rfl rfl rfl rfl rfl rfl rfl rfl rfl rfl ⟨trivial, trivial⟩ ?_
        refine vNil ?_
        change VC _ _ _ _
        refine vSeq ?_
        refine vRegion ?_
        refine oVal tt rfl rfl rfl rfl rfl trivial ?_
        refine oStore tt rfl rfl rfl rfl rfl rfl rfl rfl rfl rfl rfl ⟨trivial, trivial, trivial, trivial⟩ ?_
        refine oVal tt rfl rfl rfl rfl rfl trivial ?_
        refine vNil ?_
        change VC _ _ _ _
        obtain ⟨hg38, h⟩ := grd_inv h
        refine vRet ?_
        change ∃ _, _
        cases h
        exact ⟨[1720, 1721, 1722], _, rfl, ⟨rfl, rfl, rfl, trivial⟩, rfl, (.eq (by simp only [hg38]; rfl)), rfl⟩
       ·intro k15 h
        refine vCond rfl (fun hb39 => ?_) (fun hb39 => ?_)
        ·replace h := cnd_t hb39 h
         refine vRegion ?_
         iterate 3 refine oVal tt rfl rfl rfl rfl rfl trivial ?_
         refine vNil ?_
         change ∃ _, _
         exact ⟨(g_0.bars.getD ((bar_4).toNat) (0, 0)).2, (En.of ⟨rfl, rfl, rfl, rfl, trivial⟩ ⟨rfl, rfl, rfl, trivial⟩ ⟨rfl, rfl, trivial⟩), h⟩
        ·replace h := cnd_f hb39 h
         refine vSkip ?_
         change ∃ _, _
         exact ⟨(g_0.bars.getD ((bar_4).toNat) (0, 0)).1, (En.of ⟨rfl, rfl, rfl, rfl, trivial⟩ ⟨rfl, rfl, rfl, trivial⟩ ⟨rfl, rfl, trivial⟩), h⟩
end Go.Proofs.YtmoamglpocjhgaaGreat
namespace Go.Proofs.YtmoamglpocjhgaaGreat
open Go.RowKit
def S_RunPebbles_l1 (N : Nat) (g_0 : Grf) (k_1 : Int) (l_2 : Int) (k : ((List Int) × (List Int) × (List Int)) → Option (Pbl × Bool)) : Nat → ((List Int) × (List Int) × (List Int) × Int) → Option (Pbl × Bool)
 | 0, _ => none
 | n + 1, (l29, l30, l31, i32) =>
  cnd (decide (i32 < (g_0.bars.length : Int))) (
   (S_PlaceBar N g_0 k_1 l_2 (⟨l29, l30, l31⟩ : Pbl) i32).bind fun v34 =>
   grd (Rg64 (i32 + (1 : Int))) <|
   S_RunPebbles_l1 N g_0 k_1 l_2 k n (v34.1.free, v34.1.tails, v34.1.placed, (i32 + (1 : Int)))) (
   k (l29, l30, l31))
def S_RunPebbles (N : Nat) (g_0 : Grf) (k_1 : Int) (l_2 : Int) : Option (Pbl × Bool) :=
 (S_NewPebbles N g_0 k_1).bind fun v1 =>
 cnd (!v1.2) (
  some ((⟨([] : List Int), ([] : List Int), ([] : List Int)⟩ : Pbl), false)) (
  (S_IsRange N k_1 l_2).bind fun v2 =>
  cnd (!v2) (
   some ((⟨([] : List Int), ([] : List Int), ([] : List Int)⟩ : Pbl), false)) (
   S_RunPebbles_l1 N g_0 k_1 l_2 (fun (x : (List Int) × (List Int) × (List Int)) =>
     match x with
     | (l17, l18, l19) =>
      some ((⟨l17, l18, l19⟩ : Pbl), true)) N (v1.1.free, ([] : List Int), ([] : List Int), (0 : Int))))
set_option maxRecDepth 20000 in
set_option maxHeartbeats 1600000 in
theorem S_RunPebbles_w (N : Nat) (g_0 : Grf) (k_1 : Int) (l_2 : Int) (r : Pbl × Bool) (h : S_RunPebbles N g_0 k_1 l_2 = some r) : PCall Tryz.prog 170 [gD g_0, .int k_1, .int l_2] [(3, .ints r.1.free), (3, .ints r.1.tails), (3, .ints r.1.placed)] (.tup [.agg [.row 0 0 r.1.free.length, .row 1 0 r.1.tails.length, .row 2 0 r.1.placed.length], .bool r.2]) := by
 unfold S_RunPebbles at h
 refine pcall_intro (TT := TT) tt Tryz.func170 rfl rfl Tryz.ntmps170 (congrArg Array.toList Tryz.results170) rfl rfl fun w0 => ?_
 refine vSeq ?_
 refine vRegion ?_
 refine oBox rfl rfl rfl rfl rfl rfl rfl rfl rfl ?_
 refine oAlloc tt rfl rfl rfl rfl rfl rfl rfl rfl rfl ?_
 refine oVal tt rfl rfl rfl rfl rfl trivial ?_
 refine vNil ?_
 change VC _ _ _ _
 refine vSeq ?_
 refine vRegion ?_
 iterate 2 refine oVal tt rfl rfl rfl rfl rfl trivial ?_
 obtain ⟨v1, hc1, h⟩ := bind_inv h
 refine oCall (S_NewPebbles_w N g_0 k_1 v1 hc1) rfl rfl rfl rfl rfl rfl rfl rfl ⟨⟨rfl, rfl, trivial⟩, rfl, trivial⟩ ?_
 iterate 3 refine oVal tt rfl rfl rfl rfl rfl trivial ?_
 refine oAlloc tt rfl rfl rfl rfl rfl rfl rfl rfl rfl ?_
 refine oStore tt rfl rfl rfl rfl rfl rfl rfl rfl rfl rfl rfl ⟨trivial, trivial, trivial, trivial⟩ ?_
 refine oVal tt rfl rfl rfl rfl rfl trivial ?_
 refine vNil ?_
 change VC _ _ _ _
 iterate 2 refine vSeq ?_
 refine vRegion ?_
 iterate 3 refine oVal tt rfl rfl rfl rfl rfl trivial ?_
 refine oSplit rfl rfl rfl (fun hb2 => ?_) (fun hb2 => ?_)
 ·replace h := cnd_t hb2 h
  iterate 4 refine oNoF rfl rfl rfl rfl hb2 rfl rfl ?_
  refine oPick rfl rfl rfl rfl rfl hb2 rfl ?_
  refine vNil ?_
  change VC _ _ _ _
  refine vCondT rfl rfl ?_
  refine vSeq ?_
  refine vRegion ?_
  refine oPure (wNone rfl) (pBuild bld_impl_Pebbles rfl rfl) rfl rfl ?_
  refine oStore tt rfl rfl rfl rfl rfl rfl rfl rfl rfl rfl rfl ⟨trivial, trivial, trivial, trivial⟩ ?_
  refine oVal tt rfl rfl rfl rfl rfl trivial ?_
  refine vNil ?_
  change VC _ _ _ _
  refine vNilB 6 0 9001 3 (.ints []) rfl rfl rfl rfl rfl ?_
  refine vNilB 6 1 9002 3 (.ints []) rfl rfl rfl rfl rfl ?_
  refine vNilB 6 2 9003 3 (.ints []) rfl rfl rfl rfl rfl ?_
  refine vRet ?_
  change ∃ _, _
  cases h
  exact ⟨[9001, 9002, 9003], _, rfl, ⟨rfl, rfl, rfl, trivial⟩, rfl, (.eq rfl), rfl⟩
 ·replace h := cnd_f hb2 h
  iterate 2 refine oValG tt rfl rfl rfl rfl rfl hb2 rfl rfl rfl trivial ?_
  obtain ⟨v2, hc3, h⟩ := bind_inv h
  refine oCallG (S_IsRange_w N k_1 l_2 v2 hc3) rfl rfl rfl rfl hb2 rfl rfl rfl rfl rfl rfl rfl ⟨rfl, rfl, trivial⟩ ?_
  refine oValG tt rfl rfl rfl rfl rfl hb2 rfl rfl rfl trivial ?_
  refine oPickF rfl rfl rfl rfl rfl hb2 rfl ?_
  refine vNil ?_
  change VC _ _ _ _
  refine vCond rfl (fun hb4 => ?_) (fun hb4 => ?_)
  ·replace h := cnd_t hb4 h
   refine vSeq ?_
   refine vRegion ?_
   refine oPure (wNone rfl) (pBuild bld_impl_Pebbles rfl rfl) rfl rfl ?_
   refine oStore tt rfl rfl rfl rfl rfl rfl rfl rfl rfl rfl rfl ⟨trivial, trivial, trivial, trivial⟩ ?_
   refine oVal tt rfl rfl rfl rfl rfl trivial ?_
   refine vNil ?_
   change VC _ _ _ _
   refine vNilB 6 0 9001 3 (.ints []) rfl rfl rfl rfl rfl ?_
   refine vNilB 6 1 9002 3 (.ints []) rfl rfl rfl rfl rfl ?_
   refine vNilB 6 2 9003 3 (.ints []) rfl rfl rfl rfl rfl ?_
   refine vRet ?_
   change ∃ _, _
   cases h
   exact ⟨[9001, 9002, 9003], _, rfl, ⟨rfl, rfl, rfl, trivial⟩, rfl, (.eq rfl), rfl⟩
  ·replace h := cnd_f hb4 h
   refine vSkip ?_
   change VC _ _ _ _
   iterate 2 refine vSeq ?_
   refine vRegion ?_
   refine oVal tt rfl rfl rfl rfl rfl trivial ?_
   refine vNil ?_
   change VC _ _ _ _
   refine vJoin (F := fun k => S_RunPebbles_l1 N g_0 k_1 l_2 k) h (α := (List Int) × (List Int) × (List Int)) (J := fun | (l17, l18, l19) => (⟨[(6, .ptr 6 0), (8, .ptr 8 0)], [(1140, some (3, .ints l17)), (9505, some (3, .ints l18)), (9506, some (3, .ints l19))], [(6, some [.nil, .nil, .nil]), (8, some [.row 1140 0 l17.length, .row 9505 0 l18.length, .row 9506 0 l19.length])]⟩ : PS)) ?_ ?_
   ·rintro ⟨l17, l18, l19⟩ h
    show VC _ _ _ (⟨[(6, .ptr 6 0), (8, .ptr 8 0)], [(1140, some (3, .ints l17)), (9505, some (3, .ints l18)), (9506, some (3, .ints l19))], [(6, some [.nil, .nil, .nil]), (8, some [.row 1140 0 l17.length, .row 9505 0 l18.length, .row 9506 0 l19.length])]⟩ : PS)
    refine vSeq ?_
    refine vRegion ?_
    refine oVal tt rfl rfl rfl rfl rfl trivial ?_
    refine oStore tt rfl rfl rfl rfl rfl rfl rfl rfl rfl rfl rfl ⟨trivial, trivial, trivial, trivial⟩ ?_
    refine oVal tt rfl rfl rfl rfl rfl trivial ?_
    refine vNil ?_
    change VC _ _ _ _
    refine vRet ?_
    change ∃ _, _
    cases h
    exact ⟨[1140, 9505, 9506], _, rfl, ⟨rfl, rfl, rfl, trivial⟩, rfl, (.eq rfl), rfl⟩
   ·intro k h
    refine vBlock ?_
    refine vNilB 8 1 9507 3 (.ints []) rfl rfl rfl rfl rfl ?_
    refine vNilB 8 2 9508 3 (.ints []) rfl rfl rfl rfl rfl ?_
    refine vLoopS (α := (List Int) × (List Int) × (List Int) × Int) (fun | (l29, l30, l31, i32) => (⟨[(1, .int k_1), (2, .int l_2), (3, .ptr 3 0), (6, .ptr 6 0), (8, .ptr 8 0), (10, .int i32)], [(1140, some (3, .ints l29)), (9507, some (3, .ints l30)), (9508, some (3, .ints l31))], [(3, some [.int g_0.n, .ro false (.pairs g_0.bars)]), (6, some [.nil, .nil, .nil]), (8, some [.row 1140 0 l29.length, .row 9507 0 l30.length, .row 9508 0 l31.length])]⟩ : PS)) (S_RunPebbles_l1 N g_0 k_1 l_2 k) h (En.of ⟨rfl, rfl, rfl, rfl, rfl, rfl, trivial⟩ ⟨rfl, rfl, rfl, trivial⟩ ⟨rfl, rfl, rfl, trivial⟩) (fun _ => rfl) ?_
    rintro n ⟨l29, l30, l31, i32⟩ h
    rw [S_RunPebbles_l1] at h
    show VC _ _ _ (⟨[(1, .int k_1), (2, .int l_2), (3, .ptr 3 0), (6, .ptr 6 0), (8, .ptr 8 0), (10, .int i32)], [(1140, some (3, .ints l29)), (9507, some (3, .ints l30)), (9508, some (3, .ints l31))], [(3, some [.int g_0.n, .ro false (.pairs g_0.bars)]), (6, some [.nil, .nil, .nil]), (8, some [.row 1140 0 l29.length, .row 9507 0 l30.length, .row 9508 0 l31.length])]⟩ : PS)
    iterate 2 refine vSeq ?_
    refine vRegion ?_
    iterate 5 refine oVal tt rfl rfl rfl rfl rfl trivial ?_
    refine vNil ?_
    change VC _ _ _ _
    refine vCond rfl (fun hb5 => ?_) (fun hb5 => ?_)
    ·replace h := cnd_t hb5 h
     refine vSkip ?_
     change VC _ _ _ _
     refine vSeq ?_
     refine vBlock ?_
     refine vRegion ?_
     iterate 5 refine oVal tt rfl rfl rfl rfl rfl trivial ?_
     obtain ⟨v34, hc6, h⟩ := bind_inv h
     refine oCall (S_PlaceBar_w N g_0 k_1 l_2 (⟨l29, l30, l31⟩ : Pbl) i32 v34 hc6) rfl rfl rfl rfl rfl rfl rfl rfl ⟨⟨rfl, rfl, trivial⟩, rfl, rfl, ⟨(.inl ⟨rfl, rfl⟩), (.inl ⟨rfl, rfl⟩), (.inl ⟨rfl, rfl⟩), trivial⟩, rfl, trivial⟩ ?_
     iterate 3 refine oVal tt rfl rfl rfl rfl rfl trivial ?_
     refine oStore tt rfl rfl rfl rfl rfl rfl rfl rfl rfl rfl rfl ⟨trivial, trivial, trivial, trivial⟩ ?_
     refine vNil ?_
     change VC _ _ _ _
     refine vRegion ?_
     refine oVal tt rfl rfl rfl rfl rfl trivial ?_
     obtain ⟨hg7, h⟩ := grd_inv h
     refine oVal tt rfl rfl rfl rfl rfl hg7 ?_
     refine oVal tt rfl rfl rfl rfl rfl trivial ?_
     refine vNil ?_
     change ∃ _, _
     exact ⟨(v34.1.free, v34.1.tails, v34.1.placed, (i32 + (1 : Int))), (En.ren [1140, 9507, 9508] [1390, 1391, 1392] rfl ⟨.inr rfl, .inr rfl, .inr rfl, .inr rfl, .inr rfl, .inr rfl, trivial⟩ ⟨.inr rfl, .inr rfl, .inr rfl, trivial⟩ ⟨.inr ⟨_, _, rfl, rfl, ⟨.inr rfl, .inr rfl, trivial⟩⟩, .inr ⟨_, _, rfl, rfl, ⟨.inr rfl, .inr rfl, .inr rfl, trivial⟩⟩, .inr ⟨_, _, rfl, rfl, ⟨.inr rfl, .inr rfl, .inr rfl, trivial⟩⟩, trivial⟩), h⟩
    ·replace h := cnd_f hb5 h
     refine vExit ?_
     change ∃ _, _
     exact ⟨(l29, l30, l31), (En.ren [9505, 9506] [9507, 9508] rfl ⟨.inr rfl, .inr rfl, trivial⟩ ⟨.inr rfl, .inr rfl, .inr rfl, trivial⟩ ⟨.inr ⟨_, _, rfl, rfl, ⟨.inr rfl, .inr rfl, .inr rfl, trivial⟩⟩, .inr ⟨_, _, rfl, rfl, ⟨.inr rfl, .inr rfl, .inr rfl, trivial⟩⟩, trivial⟩), h⟩
def S_RankOf (N : Nat) (g_0 : Grf) (k_1 : Int) (l_2 : Int) : Option (Int) :=
 (S_RunPebbles N g_0 k_1 l_2).bind fun v1 =>
 cnd (!v1.2) (
  some (-1 : Int)) (
  some (v1.1.placed.length : Int))
set_option maxRecDepth 20000 in
set_option maxHeartbeats 1600000 in
theorem S_RankOf_w (N : Nat) (g_0 : Grf) (k_1 : Int) (l_2 : Int) (r : Int) (h : S_RankOf N g_0 k_1 l_2 = some r) : PCall Tryz.prog 150 [gD g_0, .int k_1, .int l_2] [] (.int r) := by
 unfold S_RankOf at h
 refine pcall_intro (TT := TT) tt Tryz.func150 rfl rfl Tryz.ntmps150 (congrArg Array.toList Tryz.results150) rfl rfl fun w0 => ?_
 refine vSeq ?_
 refine vRegion ?_
 refine oBox rfl rfl rfl rfl rfl rfl rfl rfl rfl ?_
 refine oVal tt rfl rfl rfl rfl rfl trivial ?_
 refine vNil ?_
 change VC _ _ _ _
 refine vSeq ?_
 refine vRegion ?_
 iterate 3 refine oVal tt rfl rfl rfl rfl rfl trivial ?_
 obtain ⟨v1, hc1, h⟩ := bind_inv h
 refine oCall (S_RunPebbles_w N g_0 k_1 l_2 v1 hc1) rfl rfl rfl rfl rfl rfl rfl rfl ⟨⟨rfl, rfl, trivial⟩, rfl, rfl, trivial⟩ ?_
 iterate 3 refine oVal tt rfl rfl rfl rfl rfl trivial ?_
 refine oAlloc tt rfl rfl rfl rfl rfl rfl rfl rfl rfl ?_
 refine oStore tt rfl rfl rfl rfl rfl rfl rfl rfl rfl rfl rfl ⟨trivial, trivial, trivial, trivial⟩ ?_
 refine oVal tt rfl rfl rfl rfl rfl trivial ?_
 refine vNil ?_
 change VC _ _ _ _
 iterate 2 refine vSeq ?_
 refine vRegion ?_
 iterate 2 refine oVal tt rfl rfl rfl rfl rfl trivial ?_
 refine vNil ?_
 change VC _ _ _ _
 refine vCond rfl (fun hb2 => ?_) (fun hb2 => ?_)
 ·replace h := cnd_t hb2 h
  refine vSeq ?_
  refine vRegion ?_
  refine oVal tt rfl rfl rfl rfl rfl trivial ?_
  refine vNil ?_
  change VC _ _ _ _
  refine vRet ?_
  change ∃ _, _
  cases h
  exact ⟨[], _, rfl, trivial, rfl, (.eq rfl), rfl⟩
 ·replace h := cnd_f hb2 h
  refine vSkip ?_
  change VC _ _ _ _
  refine vSeq ?_
  refine vRegion ?_
  iterate 4 refine oVal tt rfl rfl rfl rfl rfl trivial ?_
  refine vNil ?_
  change VC _ _ _ _
  refine vRet ?_
  change ∃ _, _
  cases h
  exact ⟨[], _, rfl, trivial, rfl, (.eq rfl), rfl⟩
def S_FreedomOf (N : Nat) (g_0 : Grf) : Option (Int) :=
 (S_IsGraph N g_0).bind fun v1 =>
 cnd (!v1) (
  some (-1 : Int)) (
  grd (Rg64 ((2 : Int) * g_0.n)) <|
  grd (Rg64 (((2 : Int) * g_0.n) - (3 : Int))) <|
  (S_RankOf N g_0 (2 : Int) (3 : Int)).bind fun v2 =>
  grd (Rg64 ((max (0 : Int) (((2 : Int) * g_0.n) - (3 : Int))) - v2)) <|
  some ((max (0 : Int) (((2 : Int) * g_0.n) - (3 : Int))) - v2))
set_option maxRecDepth 20000 in
set_option maxHeartbeats 1600000 in
theorem S_FreedomOf_w (N : Nat) (g_0 : Grf) (r : Int) (h : S_FreedomOf N g_0 = some r) : PCall Tryz.prog 126 [gD g_0] [] (.int r) := by
 unfold S_FreedomOf at h
 refine pcall_intro (TT := TT) tt Tryz.func126 rfl rfl Tryz.ntmps126 (congrArg Array.toList Tryz.results126) rfl rfl fun w0 => ?_
 refine vSeq ?_
 refine vRegion ?_
 refine oBox rfl rfl rfl rfl rfl rfl rfl rfl rfl ?_
 refine oVal tt rfl rfl rfl rfl rfl trivial ?_
 refine vNil ?_
 change VC _ _ _ _
 iterate 2 refine vSeq ?_
 refine vRegion ?_
 refine oVal tt rfl rfl rfl rfl rfl trivial ?_
 obtain ⟨v1, hc1, h⟩ := bind_inv h
 refine oCall (S_IsGraph_w N g_0 v1 hc1) rfl rfl rfl rfl rfl rfl rfl rfl ⟨⟨rfl, rfl, trivial⟩, trivial⟩ ?_
 refine oVal tt rfl rfl rfl rfl rfl trivial ?_
 refine vNil ?_
 change VC _ _ _ _
 refine vCond rfl (fun hb2 => ?_) (fun hb2 => ?_)
 ·replace h := cnd_t hb2 h
  refine vSeq ?_
  refine vRegion ?_
  refine oVal tt rfl rfl rfl rfl rfl trivial ?_
  refine vNil ?_
  change VC _ _ _ _
  refine vRet ?_
  change ∃ _, _
  cases h
  exact ⟨[], _, rfl, trivial, rfl, (.eq rfl), rfl⟩
 ·replace h := cnd_f hb2 h
  refine vSkip ?_
  change VC _ _ _ _
  refine vSeq ?_
  refine vRegionD (by kernel_rfl) (by kernel_rfl) ?_
  iterate 2 refine cVal tt rfl (wNone rfl) rfl rfl rfl trivial ?_
  obtain ⟨hg3, h⟩ := grd_inv h
  refine cVal tt rfl (wNone rfl) rfl rfl rfl hg3 ?_
  obtain ⟨hg4, h⟩ := grd_inv h
  refine cVal tt rfl (wNone rfl) rfl rfl rfl hg4 ?_
  iterate 2 refine cVal tt rfl (wNone rfl) rfl rfl rfl trivial ?_
  obtain ⟨v2, hc5, h⟩ := bind_inv h
  refine cCall (S_RankOf_w N g_0 (2 : Int) (3 : Int) v2 hc5) rfl (wNone rfl) rfl rfl rfl rfl rfl rfl ⟨⟨rfl, rfl, trivial⟩, rfl, rfl, trivial⟩ ?_
  obtain ⟨hg6, h⟩ := grd_inv h
  refine cVal tt rfl (wNone rfl) rfl rfl rfl hg6 ?_
  refine cVal tt rfl (wNone rfl) rfl rfl rfl trivial ?_
  refine cNil ?_
  change VC _ _ _ _
  refine vRet ?_
  change ∃ _, _
  cases h
  exact ⟨[], _, rfl, trivial, rfl, (.eq rfl), rfl⟩
def S_IsRigid (N : Nat) (g_0 : Grf) : Option (Bool) :=
 (S_FreedomOf N g_0).bind fun v1 =>
 some (v1 == (0 : Int))
set_option maxRecDepth 20000 in
set_option maxHeartbeats 1600000 in
theorem S_IsRigid_w (N : Nat) (g_0 : Grf) (r : Bool) (h : S_IsRigid N g_0 = some r) : PCall Tryz.prog 99 [gD g_0] [] (.bool r) := by
 unfold S_IsRigid at h
 refine pcall_intro (TT := TT) tt Tryz.func99 rfl rfl Tryz.ntmps99 (congrArg Array.toList Tryz.results99) rfl rfl fun w0 => ?_
 refine vSeq ?_
 refine vRegion ?_
 refine oBox rfl rfl rfl rfl rfl rfl rfl rfl rfl ?_
 refine oVal tt rfl rfl rfl rfl rfl trivial ?_
 refine vNil ?_
 change VC _ _ _ _
 refine vSeq ?_
 refine vRegion ?_
 refine oVal tt rfl rfl rfl rfl rfl trivial ?_
 obtain ⟨v1, hc1, h⟩ := bind_inv h
 refine oCall (S_FreedomOf_w N g_0 v1 hc1) rfl rfl rfl rfl rfl rfl rfl rfl ⟨⟨rfl, rfl, trivial⟩, trivial⟩ ?_
 iterate 2 refine oVal tt rfl rfl rfl rfl rfl trivial ?_
 refine vNil ?_
 change VC _ _ _ _
 refine vRet ?_
 change ∃ _, _
 cases h
 exact ⟨[], _, rfl, trivial, rfl, (.eq rfl), rfl⟩
def S_WithoutPoints_l1 (N : Nat) (g_0 : Grf) (l7 : List Int) (k : (List (Int × Int)) → Option (Grf)) : Nat → ((List (Int × Int)) × Int) → Option (Grf)
 | 0, _ => none
 | n + 1, (l21, i22) =>
  cnd (decide (i22 < (g_0.bars.length : Int))) (
   (S_IsGraph N g_0).bind fun v24 =>
   cnd v24 (
    grd (0 ≤ i22 ∧ i22 < (g_0.bars.length : Int)) <|
    grd (0 ≤ ((g_0.bars.getD ((i22).toNat) (0, 0)).1) ∧ ((g_0.bars.getD ((i22).toNat) (0, 0)).1) < ((List.replicate (((max (0 : Int) (min (8 : Int) g_0.n))).toNat) (0 : Int)).length : Int)) <|
    grd (0 ≤ ((g_0.bars.getD ((i22).toNat) (0, 0)).1) ∧ ((g_0.bars.getD ((i22).toNat) (0, 0)).1) < (l7.length : Int)) <|
    grd (0 ≤ ((g_0.bars.getD ((i22).toNat) (0, 0)).2) ∧ ((g_0.bars.getD ((i22).toNat) (0, 0)).2) < ((List.replicate (((max (0 : Int) (min (8 : Int) g_0.n))).toNat) (0 : Int)).length : Int)) <|
    grd (0 ≤ ((g_0.bars.getD ((i22).toNat) (0, 0)).2) ∧ ((g_0.bars.getD ((i22).toNat) (0, 0)).2) < (l7.length : Int)) <|
    cnd (decide ((l7.getD (((g_0.bars.getD ((i22).toNat) (0, 0)).1).toNat) 0) ≥ (0 : Int))) (
     cnd (decide ((l7.getD (((g_0.bars.getD ((i22).toNat) (0, 0)).2).toNat) 0) ≥ (0 : Int))) (
      grd (l21.length + 1 ≤ 4294967296) <|
      grd (Rg64 (i22 + (1 : Int))) <|
      S_WithoutPoints_l1 N g_0 l7 k n ((l21 ++ ([((l7.getD (((g_0.bars.getD ((i22).toNat) (0, 0)).1).toNat) 0), (l7.getD (((g_0.bars.getD ((i22).toNat) (0, 0)).2).toNat) 0))] : List (Int × Int))), (i22 + (1 : Int)))) (
      grd (Rg64 (i22 + (1 : Int))) <|
      S_WithoutPoints_l1 N g_0 l7 k n (l21, (i22 + (1 : Int))))) (
     grd (Rg64 (i22 + (1 : Int))) <|
     S_WithoutPoints_l1 N g_0 l7 k n (l21, (i22 + (1 : Int))))) (
    k l21)) (
   k l21)
def S_WithoutPoints_l2 (N : Nat) (g_0 : Grf) (set_1 : List Int) (k : ((List Int) × Int) → Option (Grf)) : Nat → ((List Int) × Int × Int) → Option (Grf)
 | 0, _ => none
 | n + 1, (l27, n28, i29) =>
  cnd (decide (i29 < ((List.replicate (((max (0 : Int) (min (8 : Int) g_0.n))).toNat) (0 : Int)).length : Int))) (
   grd (0 ≤ i29 ∧ i29 < ((List.replicate (((max (0 : Int) (min (8 : Int) g_0.n))).toNat) (0 : Int)).length : Int)) <|
   grd (0 ≤ i29 ∧ i29 < (l27.length : Int)) <|
   (S_l2Has N set_1 i29).bind fun v31 =>
   cnd (!v31) (
    grd (0 ≤ i29 ∧ i29 < ((l27.set ((i29).toNat) (-1 : Int)).length : Int)) <|
    grd (Rg64 (n28 + (1 : Int))) <|
    grd (Rg64 (i29 + (1 : Int))) <|
    S_WithoutPoints_l2 N g_0 set_1 k n (((l27.set ((i29).toNat) (-1 : Int)).set ((i29).toNat) n28), (n28 + (1 : Int)), (i29 + (1 : Int)))) (
    grd (Rg64 (i29 + (1 : Int))) <|
    S_WithoutPoints_l2 N g_0 set_1 k n ((l27.set ((i29).toNat) (-1 : Int)), n28, (i29 + (1 : Int))))) (
   k (l27, n28))
def S_WithoutPoints (N : Nat) (g_0 : Grf) (set_1 : List Int) : Option (Grf) :=
 grd (0 ≤ (max (0 : Int) (min (8 : Int) g_0.n)) ∧ (max (0 : Int) (min (8 : Int) g_0.n)) ≤ 4294967296) <|
 S_WithoutPoints_l2 N g_0 set_1 (fun (x : (List Int) × Int) =>
   match x with
   | (l7, n8) =>
    S_WithoutPoints_l1 N g_0 l7 (fun (l16 : List (Int × Int)) =>
       some (⟨n8, l16⟩ : Grf)) N (([] : List (Int × Int)), (0 : Int))) N ((List.replicate (((max (0 : Int) (min (8 : Int) g_0.n))).toNat) (0 : Int)), (0 : Int), (0 : Int))
set_option maxRecDepth 20000 in
set_option maxHeartbeats 1600000 in
theorem S_WithoutPoints_w (N : Nat) (g_0 : Grf) (set_1 : List Int) (r : Grf) (h : S_WithoutPoints N g_0 set_1 = some r) : PCall Tryz.prog 66 [gD g_0, .ro false (.ints set_1)] [(39, .pairs r.bars)] (.agg [.int r.n, .row 0 0 r.bars.length]) := by
 unfold S_WithoutPoints at h
 refine pcall_intro (TT := TT) tt Tryz.func66 rfl rfl Tryz.ntmps66 (congrArg Array.toList Tryz.results66) rfl rfl fun w0 => ?_
 refine vSeq ?_
 refine vRegion ?_
 refine oBox rfl rfl rfl rfl rfl rfl rfl rfl rfl ?_
 refine oAlloc tt rfl rfl rfl rfl rfl rfl rfl rfl rfl ?_
 refine vNil ?_
 change VC _ _ _ _
 refine vSeq ?_
 refine vRegion ?_
 iterate 4 refine oVal tt rfl rfl rfl rfl rfl trivial ?_
 obtain ⟨hg1, h⟩ := grd_inv h
 refine oMake tt rfl rfl rfl rfl rfl rfl rfl rfl rfl rfl rfl hg1 ?_
 refine oVal tt rfl rfl rfl rfl rfl trivial ?_
 refine vNil ?_
 change VC _ _ _ _
 refine vSeq ?_
 refine vRegion ?_
 refine oVal tt rfl rfl rfl rfl rfl trivial ?_
 refine vNil ?_
 change VC _ _ _ _
 iterate 2 refine vSeq ?_
 refine vRegion ?_
 refine oVal tt rfl rfl rfl rfl rfl trivial ?_
 refine vNil ?_
 change VC _ _ _ _
 refine vJoin (F := fun k => S_WithoutPoints_l2 N g_0 set_1 k) h (α := (List Int) × Int) (J := fun | (l7, n8) => (⟨[(2, .ptr 2 0), (4, .ptr 4 0), (5, .row 16 0 ((List.replicate (((max (0 : Int) (min (8 : Int) g_0.n))).toNat) (0 : Int)).length)), (6, .int n8)], [(16, some (3, .ints l7))], [(2, some [.int g_0.n, .ro false (.pairs g_0.bars)]), (4, some [.int (0 : Int), .nil])]⟩ : PS)) ?_ ?_
 ·rintro ⟨l7, n8⟩ h
  show VC _ _ _ (⟨[(2, .ptr 2 0), (4, .ptr 4 0), (5, .row 16 0 ((List.replicate (((max (0 : Int) (min (8 : Int) g_0.n))).toNat) (0 : Int)).length)), (6, .int n8)], [(16, some (3, .ints l7))], [(2, some [.int g_0.n, .ro false (.pairs g_0.bars)]), (4, some [.int (0 : Int), .nil])]⟩ : PS)
  refine vSeq ?_
  refine vRegion ?_
  refine oVal tt rfl rfl rfl rfl rfl trivial ?_
  refine oEmpty tt (wNone rfl) rfl rfl rfl rfl ?_
  refine oPure (wNone rfl) (pBuild bld_impl_Graph rfl rfl) rfl rfl ?_
  refine oAlloc tt rfl rfl rfl rfl rfl rfl rfl rfl rfl ?_
  refine oStore tt rfl rfl rfl rfl rfl rfl rfl rfl rfl rfl rfl ⟨trivial, trivial, trivial⟩ ?_
  refine vNil ?_
  change VC _ _ _ _
  iterate 2 refine vSeq ?_
  refine vRegion ?_
  refine oVal tt rfl rfl rfl rfl rfl trivial ?_
  refine vNil ?_
  change VC _ _ _ _
  refine vJoin (F := fun k => S_WithoutPoints_l1 N g_0 l7 k) h (α := List (Int × Int)) (J := fun (l16 : List (Int × Int)) => (⟨[(4, .ptr 4 0), (8, .ptr 8 0)], [(80, some (39, .pairs l16))], [(4, some [.int (0 : Int), .nil]), (8, some [.int n8, .row 80 0 l16.length])]⟩ : PS)) ?_ ?_
  ·rintro l16 h
   show VC _ _ _ (⟨[(4, .ptr 4 0), (8, .ptr 8 0)], [(80, some (39, .pairs l16))], [(4, some [.int (0 : Int), .nil]), (8, some [.int n8, .row 80 0 l16.length])]⟩ : PS)
   refine vSeq ?_
   refine vRegion ?_
   refine oVal tt rfl rfl rfl rfl rfl trivial ?_
   refine oStore tt rfl rfl rfl rfl rfl rfl rfl rfl rfl rfl rfl ⟨trivial, trivial, trivial⟩ ?_
   refine vNil ?_
   change VC _ _ _ _
   refine vRet ?_
   change ∃ _, _
   cases h
   exact ⟨[80], _, rfl, ⟨rfl, trivial⟩, rfl, (.eq rfl), rfl⟩
  ·intro k h
   refine vBlock ?_
   refine vNilB 8 1 80 39 (.pairs []) rfl rfl rfl rfl rfl ?_
   refine vLoopS (α := (List (Int × Int)) × Int) (fun | (l21, i22) => (⟨[(2, .ptr 2 0), (4, .ptr 4 0), (5, .row 16 0 ((List.replicate (((max (0 : Int) (min (8 : Int) g_0.n))).toNat) (0 : Int)).length)), (8, .ptr 8 0), (9, .int i22)], [(16, some (3, .ints l7)), (80, some (39, .pairs l21))], [(2, some [.int g_0.n, .ro false (.pairs g_0.bars)]), (4, some [.int (0 : Int), .nil]), (8, some [.int n8, .row 80 0 l21.length])]⟩ : PS)) (S_WithoutPoints_l1 N g_0 l7 k) h (En.of ⟨rfl, rfl, rfl, rfl, rfl, trivial⟩ ⟨rfl, rfl, trivial⟩ ⟨rfl, rfl, rfl, trivial⟩) (fun _ => rfl) ?_
   rintro n ⟨l21, i22⟩ h
   rw [S_WithoutPoints_l1] at h
   show VC _ _ _ (⟨[(2, .ptr 2 0), (4, .ptr 4 0), (5, .row 16 0 ((List.replicate (((max (0 : Int) (min (8 : Int) g_0.n))).toNat) (0 : Int)).length)), (8, .ptr 8 0), (9, .int i22)], [(16, some (3, .ints l7)), (80, some (39, .pairs l21))], [(2, some [.int g_0.n, .ro false (.pairs g_0.bars)]), (4, some [.int (0 : Int), .nil]), (8, some [.int n8, .row 80 0 l21.length])]⟩ : PS)
   iterate 2 refine vSeq ?_
   refine vRegion ?_
   iterate 6 refine oVal tt rfl rfl rfl rfl rfl trivial ?_
   refine oSplit rfl rfl rfl (fun hb2 => ?_) (fun hb2 => ?_)
   ·replace h := cnd_t hb2 h
    refine oValG tt rfl rfl rfl rfl rfl hb2 rfl rfl rfl trivial ?_
    obtain ⟨v24, hc3, h⟩ := bind_inv h
    refine oCallG (S_IsGraph_w N g_0 v24 hc3) rfl rfl rfl rfl hb2 rfl rfl rfl rfl rfl rfl rfl ⟨⟨rfl, rfl, trivial⟩, trivial⟩ ?_
    refine oPick rfl rfl rfl rfl rfl hb2 rfl ?_
    refine vNil ?_
    change VC _ _ _ _
    refine vCond rfl (fun hb4 => ?_) (fun hb4 => ?_)
    ·replace h := cnd_t hb4 h
     refine vSkip ?_
     change VC _ _ _ _
     refine vSeq ?_
     refine vBlock ?_
     refine vSeq ?_
     refine vRegion ?_
     iterate 4 refine oVal tt rfl rfl rfl rfl rfl trivial ?_
     obtain ⟨hg5, h⟩ := grd_inv h
     refine oVal tt rfl rfl rfl rfl rfl hg5 ?_
     iterate 2 refine oVal tt rfl rfl rfl rfl rfl trivial ?_
     obtain ⟨hg6, h⟩ := grd_inv h
     refine oVal tt rfl rfl rfl rfl rfl hg6 ?_
     obtain ⟨hg7, h⟩ := grd_inv h
     refine oVal tt rfl rfl rfl rfl rfl hg7 ?_
     refine oVal tt rfl rfl rfl rfl rfl trivial ?_
     refine vNil ?_
     change VC _ _ _ _
     refine vSeq ?_
     refine vRegion ?_
     iterate 4 refine oVal tt rfl rfl rfl rfl rfl trivial ?_
     refine oVal tt rfl rfl rfl rfl rfl hg5 ?_
     iterate 2 refine oVal tt rfl rfl rfl rfl rfl trivial ?_
     obtain ⟨hg8, h⟩ := grd_inv h
     refine oVal tt rfl rfl rfl rfl rfl hg8 ?_
     obtain ⟨hg9, h⟩ := grd_inv h
     refine oVal tt rfl rfl rfl rfl rfl hg9 ?_
     refine oVal tt rfl rfl rfl rfl rfl trivial ?_
     refine vNil ?_
     change VC _ _ _ _
     refine vSeq ?_
     refine vRegion ?_
     iterate 3 refine oVal tt rfl rfl rfl rfl rfl trivial ?_
     refine oSplit rfl rfl rfl (fun hb10 => ?_) (fun hb10 => ?_)
     ·replace h := cnd_t hb10 h
      iterate 2 refine oValG tt rfl rfl rfl rfl rfl hb10 rfl rfl rfl trivial ?_
      refine oPick rfl rfl rfl rfl rfl hb10 rfl ?_
      refine vNil ?_
      change VC _ _ _ _
      refine vCond rfl (fun hb11 => ?_) (fun hb11 => ?_)
      ·replace h := cnd_t hb11 h
       refine vRegion ?_
       iterate 4 refine oVal tt rfl rfl rfl rfl rfl trivial ?_
       refine oPure (wNone rfl) (pBuild bld_impl_Bar rfl rfl) rfl rfl ?_
       refine oBuild tt rfl rfl rfl rfl rfl rfl rfl rfl rfl rfl rfl ?_
       obtain ⟨hg12, h⟩ := grd_inv h
       refine oAppend tt rfl rfl rfl rfl rfl rfl rfl rfl rfl rfl rfl rfl rfl rfl rfl rfl (Nat.le_of_eq (Nat.zero_add _)) hg12 ?_
       refine oVal tt rfl rfl rfl rfl rfl trivial ?_
       refine oStore tt rfl rfl rfl rfl rfl rfl rfl rfl rfl rfl rfl ⟨trivial, trivial⟩ ?_
       refine vNil ?_
       change VC _ _ _ _
       refine vRegion ?_
       refine oVal tt rfl rfl rfl rfl rfl trivial ?_
       obtain ⟨hg13, h⟩ := grd_inv h
       refine oVal tt rfl rfl rfl rfl rfl hg13 ?_
       refine oVal tt rfl rfl rfl rfl rfl trivial ?_
       refine vNil ?_
       change ∃ _, _
       exact ⟨((l21 ++ ([((l7.getD (((g_0.bars.getD ((i22).toNat) (0, 0)).1).toNat) 0), (l7.getD (((g_0.bars.getD ((i22).toNat) (0, 0)).2).toNat) 0))] : List (Int × Int))), (i22 + (1 : Int))), (En.of ⟨rfl, rfl, rfl, rfl, rfl, trivial⟩ ⟨rfl, rfl, trivial⟩ ⟨rfl, rfl, rfl, trivial⟩), h⟩
      ·replace h := cnd_f hb11 h
       refine vSkip ?_
       change VC _ _ _ _
       refine vRegion ?_
       refine oVal tt rfl rfl rfl rfl rfl trivial ?_
       obtain ⟨hg14, h⟩ := grd_inv h
       refine oVal tt rfl rfl rfl rfl rfl hg14 ?_
       refine oVal tt rfl rfl rfl rfl rfl trivial ?_
       refine vNil ?_
       change ∃ _, _
       exact ⟨(l21, (i22 + (1 : Int))), (En.of ⟨rfl, rfl, rfl, rfl, rfl, trivial⟩ ⟨rfl, rfl, trivial⟩ ⟨rfl, rfl, rfl, trivial⟩), h⟩
     ·replace h := cnd_f hb10 h
      iterate 2 refine oNoT rfl rfl rfl rfl hb10 rfl rfl ?_
      refine oPickF rfl rfl rfl rfl rfl hb10 rfl ?_
      refine vNil ?_
      change VC _ _ _ _
      refine vCondF rfl rfl ?_
      refine vSkip ?_
      change VC _ _ _ _
      refine vRegion ?_
      refine oVal tt rfl rfl rfl rfl rfl trivial ?_
      obtain ⟨hg15, h⟩ := grd_inv h
      refine oVal tt rfl rfl rfl rfl rfl hg15 ?_
      refine oVal tt rfl rfl rfl rfl rfl trivial ?_
      refine vNil ?_
      change ∃ _, _
      exact ⟨(l21, (i22 + (1 : Int))), (En.of ⟨rfl, rfl, rfl, rfl, rfl, trivial⟩ ⟨rfl, rfl, trivial⟩ ⟨rfl, rfl, rfl, trivial⟩), h⟩
    ·replace h := cnd_f hb4 h
     refine vExit ?_
     change ∃ _, _
     exact ⟨l21, (En.of ⟨rfl, rfl, trivial⟩ ⟨rfl, trivial⟩ ⟨rfl, rfl, trivial⟩), h⟩
   ·replace h := cnd_f hb2 h
    iterate 2 refine oNoT rfl rfl rfl rfl hb2 rfl rfl ?_
    refine oPickF rfl rfl rfl rfl rfl hb2 rfl ?_
    refine vNil ?_
    change VC _ _ _ _
    refine vCondF rfl rfl ?_
    refine vExit ?_
    change ∃ _, _
    exact ⟨l21, (En.of ⟨rfl, rfl, trivial⟩ ⟨rfl, trivial⟩ ⟨rfl, rfl, trivial⟩), h⟩
 ·intro k h
  refine vBlock ?_
  refine vLoopS (α := (List Int) × Int × Int) (fun | (l27, n28, i29) => (⟨[(1, .ro false (.ints set_1)), (2, .ptr 2 0), (4, .ptr 4 0), (5, .row 16 0 ((List.replicate (((max (0 : Int) (min (8 : Int) g_0.n))).toNat) (0 : Int)).length)), (6, .int n28), (7, .int i29)], [(16, some (3, .ints l27))], [(2, some [.int g_0.n, .ro false (.pairs g_0.bars)]), (4, some [.int (0 : Int), .nil])]⟩ : PS)) (S_WithoutPoints_l2 N g_0 set_1 k) h (En.of ⟨rfl, rfl, rfl, rfl, rfl, rfl, trivial⟩ ⟨rfl, trivial⟩ ⟨rfl, rfl, trivial⟩) (fun _ => rfl) ?_
  rintro n ⟨l27, n28, i29⟩ h
  rw [S_WithoutPoints_l2] at h
  show VC _ _ _ (⟨[(1, .ro false (.ints set_1)), (2, .ptr 2 0), (4, .ptr 4 0), (5, .row 16 0 ((List.replicate (((max (0 : Int) (min (8 : Int) g_0.n))).toNat) (0 : Int)).length)), (6, .int n28), (7, .int i29)], [(16, some (3, .ints l27))], [(2, some [.int g_0.n, .ro false (.pairs g_0.bars)]), (4, some [.int (0 : Int), .nil])]⟩ : PS)
  iterate 2 refine vSeq ?_
  refine vRegion ?_
  iterate 4 refine oVal tt rfl rfl rfl rfl rfl trivial ?_
  refine vNil ?_
  change VC _ _ _ _
  refine vCond rfl (fun hb16 => ?_) (fun hb16 => ?_)
  ·replace h := cnd_t hb16 h
   refine vSkip ?_
   change VC _ _ _ _
   refine vSeq ?_
   refine vBlock ?_
   refine vSeq ?_
   refine vRegion ?_
   iterate 2 refine oVal tt rfl rfl rfl rfl rfl trivial ?_
   obtain ⟨hg17, h⟩ := grd_inv h
   refine oVal tt rfl rfl rfl rfl rfl hg17 ?_
   obtain ⟨hg18, h⟩ := grd_inv h
   refine oStore tt rfl rfl rfl rfl rfl rfl rfl rfl rfl rfl ⟨_, _, rfl, hg18.1, hg18.2⟩ ⟨hg18, trivial⟩ ?_
   refine vNil ?_
   change VC _ _ _ _
   refine vSeq ?_
   refine vRegion ?_
   iterate 2 refine oVal tt rfl rfl rfl rfl rfl trivial ?_
   obtain ⟨v31, hc19, h⟩ := bind_inv h
   refine oCall (S_l2Has_w N set_1 i29 v31 hc19) rfl rfl rfl rfl rfl rfl rfl rfl ⟨rfl, rfl, trivial⟩ ?_
   refine oVal tt rfl rfl rfl rfl rfl trivial ?_
   refine vNil ?_
   change VC _ _ _ _
   refine vCond rfl (fun hb20 => ?_) (fun hb20 => ?_)
   ·replace h := cnd_t hb20 h
    refine vSeq ?_
    refine vRegion ?_
    iterate 3 refine oVal tt rfl rfl rfl rfl rfl trivial ?_
    refine oVal tt rfl rfl rfl rfl rfl hg17 ?_
    obtain ⟨hg21, h⟩ := grd_inv h
    refine oStore tt rfl rfl rfl rfl rfl rfl rfl rfl rfl rfl ⟨_, _, rfl, hg21.1, hg21.2⟩ ⟨hg21, trivial⟩ ?_
    refine vNil ?_
    change VC _ _ _ _
    refine vRegion ?_
    refine oVal tt rfl rfl rfl rfl rfl trivial ?_
    obtain ⟨hg22, h⟩ := grd_inv h
    refine oVal tt rfl rfl rfl rfl rfl hg22 ?_
    refine oVal tt rfl rfl rfl rfl rfl trivial ?_
    refine vNil ?_
    change VC _ _ _ _
    refine vRegion ?_
    refine oVal tt rfl rfl rfl rfl rfl trivial ?_
    obtain ⟨hg23, h⟩ := grd_inv h
    refine oVal tt rfl rfl rfl rfl rfl hg23 ?_
    refine oVal tt rfl rfl rfl rfl rfl trivial ?_
    refine vNil ?_
    change ∃ _, _
    exact ⟨(((l27.set ((i29).toNat) (-1 : Int)).set ((i29).toNat) n28), (n28 + (1 : Int)), (i29 + (1 : Int))), (En.of ⟨rfl, rfl, rfl, rfl, rfl, rfl, trivial⟩ ⟨rfl, trivial⟩ ⟨rfl, rfl, trivial⟩), h⟩
   ·replace h := cnd_f hb20 h
    refine vSkip ?_
    change VC _ _ _ _
    refine vRegion ?_
    refine oVal tt rfl rfl rfl rfl rfl trivial ?_
    obtain ⟨hg24, h⟩ := grd_inv h
    refine oVal tt rfl rfl rfl rfl rfl hg24 ?_
    refine oVal tt rfl rfl rfl rfl rfl trivial ?_
    refine vNil ?_
    change ∃ _, _
    exact ⟨((l27.set ((i29).toNat) (-1 : Int)), n28, (i29 + (1 : Int))), (En.of ⟨rfl, rfl, rfl, rfl, rfl, rfl, trivial⟩ ⟨rfl, trivial⟩ ⟨rfl, rfl, trivial⟩), h⟩
  ·replace h := cnd_f hb16 h
   refine vExit ?_
   change ∃ _, _
   exact ⟨(l27, n28), (En.of ⟨rfl, rfl, rfl, rfl, trivial⟩ ⟨rfl, trivial⟩ ⟨rfl, rfl, trivial⟩), h⟩
def S_ReachOf_l1 (N : Nat) (g_0 : Grf) (l22 : List Bool) (k : (List Int) → Option (List Int)) : Nat → ((List Int) × Int) → Option (List Int)
 | 0, _ => none
 | n + 1, (l27, i28) =>
  cnd (decide (i28 < g_0.n)) (
   grd (0 ≤ i28 ∧ i28 < ((List.replicate ((g_0.n).toNat) (false : Bool)).length : Int)) <|
   grd (0 ≤ i28 ∧ i28 < (l22.length : Int)) <|
   cnd (l22.getD ((i28).toNat) false) (
    grd (l27.length + 1 ≤ 4294967296) <|
    grd (Rg64 (i28 + (1 : Int))) <|
    S_ReachOf_l1 N g_0 l22 k n ((l27 ++ ([i28] : List Int)), (i28 + (1 : Int)))) (
    grd (Rg64 (i28 + (1 : Int))) <|
    S_ReachOf_l1 N g_0 l22 k n (l27, (i28 + (1 : Int))))) (
   k l27)
def S_ReachOf_l3 (N : Nat) (g_0 : Grf) (k : (List Bool) → Option (List Int)) : Nat → ((List Bool) × Int) → Option (List Int)
 | 0, _ => none
 | n + 1, (l48, i49) =>
  cnd (decide (i49 < (g_0.bars.length : Int))) (
   grd (0 ≤ i49 ∧ i49 < (g_0.bars.length : Int)) <|
   grd (0 ≤ ((g_0.bars.getD ((i49).toNat) (0, 0)).1) ∧ ((g_0.bars.getD ((i49).toNat) (0, 0)).1) < ((List.replicate ((g_0.n).toNat) (false : Bool)).length : Int)) <|
   grd (0 ≤ ((g_0.bars.getD ((i49).toNat) (0, 0)).1) ∧ ((g_0.bars.getD ((i49).toNat) (0, 0)).1) < (l48.length : Int)) <|
   cnd (l48.getD (((g_0.bars.getD ((i49).toNat) (0, 0)).1).toNat) false) (
    grd (0 ≤ ((g_0.bars.getD ((i49).toNat) (0, 0)).2) ∧ ((g_0.bars.getD ((i49).toNat) (0, 0)).2) < ((List.replicate ((g_0.n).toNat) (false : Bool)).length : Int)) <|
    grd (0 ≤ ((g_0.bars.getD ((i49).toNat) (0, 0)).2) ∧ ((g_0.bars.getD ((i49).toNat) (0, 0)).2) < ((l48.set (((g_0.bars.getD ((i49).toNat) (0, 0)).1).toNat) true).length : Int)) <|
    grd (Rg64 (i49 + (1 : Int))) <|
    S_ReachOf_l3 N g_0 k n (((l48.set (((g_0.bars.getD ((i49).toNat) (0, 0)).1).toNat) true).set (((g_0.bars.getD ((i49).toNat) (0, 0)).2).toNat) true), (i49 + (1 : Int)))) (
    grd (0 ≤ ((g_0.bars.getD ((i49).toNat) (0, 0)).2) ∧ ((g_0.bars.getD ((i49).toNat) (0, 0)).2) < ((List.replicate ((g_0.n).toNat) (false : Bool)).length : Int)) <|
    grd (0 ≤ ((g_0.bars.getD ((i49).toNat) (0, 0)).2) ∧ ((g_0.bars.getD ((i49).toNat) (0, 0)).2) < (l48.length : Int)) <|
    cnd (l48.getD (((g_0.bars.getD ((i49).toNat) (0, 0)).2).toNat) false) (
     grd (0 ≤ ((g_0.bars.getD ((i49).toNat) (0, 0)).2) ∧ ((g_0.bars.getD ((i49).toNat) (0, 0)).2) < ((l48.set (((g_0.bars.getD ((i49).toNat) (0, 0)).1).toNat) true).length : Int)) <|
     grd (Rg64 (i49 + (1 : Int))) <|
     S_ReachOf_l3 N g_0 k n (((l48.set (((g_0.bars.getD ((i49).toNat) (0, 0)).1).toNat) true).set (((g_0.bars.getD ((i49).toNat) (0, 0)).2).toNat) true), (i49 + (1 : Int)))) (
     grd (Rg64 (i49 + (1 : Int))) <|
     S_ReachOf_l3 N g_0 k n (l48, (i49 + (1 : Int)))))) (
   k l48)
def S_ReachOf_l2 (N : Nat) (g_0 : Grf) (k : (List Bool) → Option (List Int)) : Nat → ((List Bool) × Int) → Option (List Int)
 | 0, _ => none
 | n + 1, (l36, n37) =>
  cnd (decide (n37 < g_0.n)) (
   S_ReachOf_l3 N g_0 (fun (l46 : List Bool) =>
      grd (Rg64 (n37 + (1 : Int))) <|
      S_ReachOf_l2 N g_0 k n (l46, (n37 + (1 : Int)))) N (l36, (0 : Int))) (
   k l36)
def S_ReachOf (N : Nat) (g_0 : Grf) (v_1 : Int) : Option (List Int) :=
 (S_IsGraph N g_0).bind fun v1 =>
 cnd (!v1) (
  some ([] : List Int)) (
  cnd (decide (v_1 < (0 : Int))) (
   some ([] : List Int)) (
   cnd (decide (v_1 ≥ g_0.n)) (
    some ([] : List Int)) (
    grd (0 ≤ g_0.n ∧ g_0.n ≤ 4294967296) <|
    grd (0 ≤ v_1 ∧ v_1 < ((List.replicate ((g_0.n).toNat) (false : Bool)).length : Int)) <|
    S_ReachOf_l2 N g_0 (fun (l22 : List Bool) =>
       S_ReachOf_l1 N g_0 l22 (fun (l25 : List Int) =>
          some l25) N (([] : List Int), (0 : Int))) N (((List.replicate ((g_0.n).toNat) (false : Bool)).set ((v_1).toNat) true), (0 : Int)))))
set_option maxRecDepth 20000 in
set_option maxHeartbeats 1600000 in
theorem S_ReachOf_w (N : Nat) (g_0 : Grf) (v_1 : Int) (r : List Int) (h : S_ReachOf N g_0 v_1 = some r) : PCall Tryz.prog 171 [gD g_0, .int v_1] [(3, .ints r)] (.row 0 0 r.length) := by
 unfold S_ReachOf at h
 refine pcall_intro (TT := TT) tt Tryz.func171 rfl rfl Tryz.ntmps171 (congrArg Array.toList Tryz.results171) rfl rfl fun w0 => ?_
 refine vSeq ?_
 refine vRegion ?_
 refine oBox rfl rfl rfl rfl rfl rfl rfl rfl rfl ?_
 refine oVal tt rfl rfl rfl rfl rfl trivial ?_
 refine vNil ?_
 change VC _ _ _ _
 refine vSeq ?_
 refine vRegion ?_
 refine oEmpty tt (wNone rfl) rfl rfl rfl rfl ?_
 refine oVal tt rfl rfl rfl rfl rfl trivial ?_
 refine vNil ?_
 change VC _ _ _ _
 iterate 2 refine vSeq ?_
 refine vRegion ?_
 refine oVal tt rfl rfl rfl rfl rfl trivial ?_
 obtain ⟨v1, hc1, h⟩ := bind_inv h
 refine oCall (S_IsGraph_w N g_0 v1 hc1) rfl rfl rfl rfl rfl rfl rfl rfl ⟨⟨rfl, rfl, trivial⟩, trivial⟩ ?_
 iterate 2 refine oVal tt rfl rfl rfl rfl rfl trivial ?_
 refine oSplit rfl rfl rfl (fun hb2 => ?_) (fun hb2 => ?_)
 ·replace h := cnd_t hb2 h
  iterate 2 refine oNoF rfl rfl rfl rfl hb2 rfl rfl ?_
  refine oPick rfl rfl rfl rfl rfl hb2 rfl ?_
  refine oVal tt rfl rfl rfl rfl rfl trivial ?_
  iterate 4 refine oNoF rfl rfl rfl rfl rfl rfl rfl ?_
  refine oPick rfl rfl rfl rfl rfl rfl rfl ?_
  refine vNil ?_
  change VC _ _ _ _
  refine vCondT rfl rfl ?_
  refine vSeq ?_
  refine vRegion ?_
  iterate 2 refine oVal tt rfl rfl rfl rfl rfl trivial ?_
  refine vNil ?_
  change VC _ _ _ _
  refine vNilT 4 9001 3 (.ints []) rfl rfl rfl rfl ?_
  refine vRet ?_
  change ∃ _, _
  cases h
  exact ⟨[9001], _, rfl, ⟨rfl, trivial⟩, rfl, (.eq rfl), rfl⟩
 ·replace h := cnd_f hb2 h
  iterate 2 refine oValG tt rfl rfl rfl rfl rfl hb2 rfl rfl rfl trivial ?_
  refine oPickF rfl rfl rfl rfl rfl hb2 rfl ?_
  refine oVal tt rfl rfl rfl rfl rfl trivial ?_
  refine oSplit rfl rfl rfl (fun hb3 => ?_) (fun hb3 => ?_)
  ·replace h := cnd_t hb3 h
   iterate 4 refine oNoF rfl rfl rfl rfl hb3 rfl rfl ?_
   refine oPick rfl rfl rfl rfl rfl hb3 rfl ?_
   refine vNil ?_
   change VC _ _ _ _
   refine vCondT rfl rfl ?_
   refine vSeq ?_
   refine vRegion ?_
   iterate 2 refine oVal tt rfl rfl rfl rfl rfl trivial ?_
   refine vNil ?_
   change VC _ _ _ _
   refine vNilT 4 9001 3 (.ints []) rfl rfl rfl rfl ?_
   refine vRet ?_
   change ∃ _, _
   cases h
   exact ⟨[9001], _, rfl, ⟨rfl, trivial⟩, rfl, (.eq rfl), rfl⟩
  ·replace h := cnd_f hb3 h
   iterate 4 refine oValG tt rfl rfl rfl rfl rfl hb3 rfl rfl rfl trivial ?_
   refine oPickF rfl rfl rfl rfl rfl hb3 rfl ?_
   refine vNil ?_
   change VC _ _ _ _
   refine vCond rfl (fun hb4 => ?_) (fun hb4 => ?_)
   ·replace h := cnd_t hb4 h
    refine vSeq ?_
    refine vRegion ?_
    iterate 2 refine oVal tt rfl rfl rfl rfl rfl trivial ?_
    refine vNil ?_
    change VC _ _ _ _
    refine vNilT 4 9001 3 (.ints []) rfl rfl rfl rfl ?_
    refine vRet ?_
    change ∃ _, _
    cases h
    exact ⟨[9001], _, rfl, ⟨rfl, trivial⟩, rfl, (.eq rfl), rfl⟩
   ·replace h := cnd_f hb4 h
    refine vSkip ?_
    change VC _ _ _ _
    refine vSeq ?_
    refine vRegion ?_
    iterate 2 refine oVal tt rfl rfl rfl rfl rfl trivial ?_
    obtain ⟨hg5, h⟩ := grd_inv h
    refine oMake tt rfl rfl rfl rfl rfl rfl rfl rfl rfl rfl rfl hg5 ?_
    refine oVal tt rfl rfl rfl rfl rfl trivial ?_
    refine vNil ?_
    change VC _ _ _ _
    refine vSeq ?_
    refine vRegion ?_
    iterate 2 refine oVal tt rfl rfl rfl rfl rfl trivial ?_
    obtain ⟨hg6, h⟩ := grd_inv h
    refine oVal tt rfl rfl rfl rfl rfl hg6 ?_
    refine oStore tt rfl rfl rfl rfl rfl rfl rfl rfl rfl rfl ⟨_, _, rfl, hg6.1, hg6.2⟩ ⟨hg6, trivial⟩ ?_
    refine vNil ?_
    change VC _ _ _ _
    iterate 2 refine vSeq ?_
    refine vRegion ?_
    refine oVal tt rfl rfl rfl rfl rfl trivial ?_
    refine vNil ?_
    change VC _ _ _ _
    refine vJoin (F := fun k => S_ReachOf_l2 N g_0 k) h (α := List Bool) (J := fun (l22 : List Bool) => (⟨[(2, .ptr 2 0), (5, .nil), (6, .row 27 0 ((List.replicate ((g_0.n).toNat) (false : Bool)).length))], [(27, some (4, .bools l22))], [(2, some [.int g_0.n, .ro false (.pairs g_0.bars)])]⟩ : PS)) ?_ ?_
    ·rintro l22 h
     show VC _ _ _ (⟨[(2, .ptr 2 0), (5, .nil), (6, .row 27 0 ((List.replicate ((g_0.n).toNat) (false : Bool)).length))], [(27, some (4, .bools l22))], [(2, some [.int g_0.n, .ro false (.pairs g_0.bars)])]⟩ : PS)
     iterate 2 refine vSeq ?_
     refine vRegion ?_
     refine oVal tt rfl rfl rfl rfl rfl trivial ?_
     refine vNil ?_
     change VC _ _ _ _
     refine vJoin (F := fun k => S_ReachOf_l1 N g_0 l22 k) h (α := List Int) (J := fun (l25 : List Int) => (⟨[(5, .row 93 0 l25.length)], [(93, some (3, .ints l25))], []⟩ : PS)) ?_ ?_
     ·rintro l25 h
      show VC _ _ _ (⟨[(5, .row 93 0 l25.length)], [(93, some (3, .ints l25))], []⟩ : PS)
      refine vSeq ?_
      refine vRegion ?_
      iterate 2 refine oVal tt rfl rfl rfl rfl rfl trivial ?_
      refine vNil ?_
      change VC _ _ _ _
      refine vRet ?_
      change ∃ _, _
      cases h
      exact ⟨[93], _, rfl, ⟨rfl, trivial⟩, rfl, (.eq rfl), rfl⟩
     ·intro k h
      refine vBlock ?_
      refine vNilT 5 93 3 (.ints []) rfl rfl rfl rfl ?_
      refine vLoopS (α := (List Int) × Int) (fun | (l27, i28) => (⟨[(2, .ptr 2 0), (5, .row 93 0 l27.length), (6, .row 27 0 ((List.replicate ((g_0.n).toNat) (false : Bool)).length)), (9, .int i28)], [(93, some (3, .ints l27)), (27, some (4, .bools l22))], [(2, some [.int g_0.n, .ro false (.pairs g_0.bars)])]⟩ : PS)) (S_ReachOf_l1 N g_0 l22 k) h (En.of ⟨rfl, rfl, rfl, rfl, trivial⟩ ⟨rfl, rfl, trivial⟩ ⟨rfl, trivial⟩) (fun _ => rfl) ?_
      rintro n ⟨l27, i28⟩ h
      rw [S_ReachOf_l1] at h
      show VC _ _ _ (⟨[(2, .ptr 2 0), (5, .row 93 0 l27.length), (6, .row 27 0 ((List.replicate ((g_0.n).toNat) (false : Bool)).length)), (9, .int i28)], [(93, some (3, .ints l27)), (27, some (4, .bools l22))], [(2, some [.int g_0.n, .ro false (.pairs g_0.bars)])]⟩ : PS)
      iterate 2 refine vSeq ?_
      refine vRegion ?_
      iterate 4 refine oVal tt rfl rfl rfl rfl rfl trivial ?_
      refine vNil ?_
      change VC _ _ _ _
      refine vCond rfl (fun hb7 => ?_) (fun hb7 => ?_)
      ·replace h := cnd_t hb7 h
       refine vSkip ?_
       change VC _ _ _ _
       refine vSeq ?_
       refine vBlock ?_
       refine vSeq ?_
       refine vRegion ?_
       iterate 2 refine oVal tt rfl rfl rfl rfl rfl trivial ?_
       obtain ⟨hg8, h⟩ := grd_inv h
       refine oVal tt rfl rfl rfl rfl rfl hg8 ?_
       obtain ⟨hg9, h⟩ := grd_inv h
       refine oVal tt rfl rfl rfl rfl rfl hg9 ?_
       refine vNil ?_
       change VC _ _ _ _
       refine vCond rfl (fun hb10 => ?_) (fun hb10 => ?_)
       ·replace h := cnd_t hb10 h
        refine vRegion ?_
        iterate 2 refine oVal tt rfl rfl rfl rfl rfl trivial ?_
        refine oBuild tt rfl rfl rfl rfl rfl rfl rfl rfl rfl rfl rfl ?_
        obtain ⟨hg11, h⟩ := grd_inv h
        refine oAppend tt rfl rfl rfl rfl rfl rfl rfl rfl rfl rfl rfl rfl rfl rfl rfl rfl (Nat.le_of_eq (Nat.zero_add _)) hg11 ?_
        refine oVal tt rfl rfl rfl rfl rfl trivial ?_
        refine vNil ?_
        change VC _ _ _ _
        refine vRegion ?_
        refine oVal tt rfl rfl rfl rfl rfl trivial ?_
        obtain ⟨hg12, h⟩ := grd_inv h
        refine oVal tt rfl rfl rfl rfl rfl hg12 ?_
        refine oVal tt rfl rfl rfl rfl rfl trivial ?_
        refine vNil ?_
        change ∃ _, _
        exact ⟨((l27 ++ ([i28] : List Int)), (i28 + (1 : Int))), (En.of ⟨rfl, rfl, rfl, rfl, trivial⟩ ⟨rfl, rfl, trivial⟩ ⟨rfl, trivial⟩), h⟩
       ·replace h := cnd_f hb10 h
        refine vSkip ?_
        change VC _ _ _ _
        refine vRegion ?_
        refine oVal tt rfl rfl rfl rfl rfl trivial ?_
        obtain ⟨hg13, h⟩ := grd_inv h
        refine oVal tt rfl rfl rfl rfl rfl hg13 ?_
        refine oVal tt rfl rfl rfl rfl rfl trivial ?_
        refine vNil ?_
        change ∃ _, _
        exact ⟨(l27, (i28 + (1 : Int))), (En.of ⟨rfl, rfl, rfl, rfl, trivial⟩ ⟨rfl, rfl, trivial⟩ ⟨rfl, trivial⟩), h⟩
      ·replace h := cnd_f hb7 h
       refine vExit ?_
       change ∃ _, _
       exact ⟨l27, (En.of ⟨rfl, trivial⟩ ⟨rfl, trivial⟩ trivial), h⟩
    ·intro k h
     refine vBlock ?_
     refine vLoopS (α := (List Bool) × Int) (fun | (l36, n37) => (⟨[(2, .ptr 2 0), (5, .nil), (6, .row 27 0 ((List.replicate ((g_0.n).toNat) (false : Bool)).length)), (7, .int n37)], [(27, some (4, .bools l36))], [(2, some [.int g_0.n, .ro false (.pairs g_0.bars)])]⟩ : PS)) (S_ReachOf_l2 N g_0 k) h (En.of ⟨rfl, rfl, rfl, rfl, trivial⟩ ⟨rfl, trivial⟩ ⟨rfl, trivial⟩) (fun _ => rfl) ?_
     rintro n ⟨l36, n37⟩ h
     rw [S_ReachOf_l2] at h
     show VC _ _ _ (⟨[(2, .ptr 2 0), (5, .nil), (6, .row 27 0 ((List.replicate ((g_0.n).toNat) (false : Bool)).length)), (7, .int n37)], [(27, some (4, .bools l36))], [(2, some [.int g_0.n, .ro false (.pairs g_0.bars)])]⟩ : PS)
     iterate 2 refine vSeq ?_
     refine vRegion ?_
     iterate 4 refine oVal tt rfl rfl rfl rfl rfl trivial ?_
     refine vNil ?_
     change VC _ _ _ _
     refine vCond rfl (fun hb14 => ?_) (fun hb14 => ?_)
     ·replace h := cnd_t hb14 h
      refine vSkip ?_
      change VC _ _ _ _
      refine vSeq ?_
      refine vBlock ?_
      refine vSeq ?_
      refine vRegion ?_
      refine oVal tt rfl rfl rfl rfl rfl trivial ?_
      refine vNil ?_
      change VC _ _ _ _
      refine vJoin (F := fun k => S_ReachOf_l3 N g_0 k) h (α := List Bool) (J := fun (l46 : List Bool) => (⟨[(2, .ptr 2 0), (5, .nil), (6, .row 27 0 ((List.replicate ((g_0.n).toNat) (false : Bool)).length)), (7, .int n37)], [(27, some (4, .bools l46))], [(2, some [.int g_0.n, .ro false (.pairs g_0.bars)])]⟩ : PS)) ?_ ?_
      ·rintro l46 h
       show VC _ _ _ (⟨[(2, .ptr 2 0), (5, .nil), (6, .row 27 0 ((List.replicate ((g_0.n).toNat) (false : Bool)).length)), (7, .int n37)], [(27, some (4, .bools l46))], [(2, some [.int g_0.n, .ro false (.pairs g_0.bars)])]⟩ : PS)
       refine vRegion ?_
       refine oVal tt rfl rfl rfl rfl rfl trivial ?_
       obtain ⟨hg15, h⟩ := grd_inv h
       refine oVal tt rfl rfl rfl rfl rfl hg15 ?_
       refine oVal tt rfl rfl rfl rfl rfl trivial ?_
       refine vNil ?_
       change ∃ _, _
       exact ⟨(l46, (n37 + (1 : Int))), (En.of ⟨rfl, rfl, rfl, rfl, trivial⟩ ⟨rfl, trivial⟩ ⟨rfl, trivial⟩), h⟩
      ·intro k h
       refine vBlock ?_
       refine vLoopS (α := (List Bool) × Int) (fun | (l48, i49) => (⟨[(2, .ptr 2 0), (5, .nil), (6, .row 27 0 ((List.replicate ((g_0.n).toNat) (false : Bool)).length)), (7, .int n37), (8, .int i49)], [(27, some (4, .bools l48))], [(2, some [.int g_0.n, .ro false (.pairs g_0.bars)])]⟩ : PS)) (S_ReachOf_l3 N g_0 k) h (En.of ⟨rfl, rfl, rfl, rfl, rfl, trivial⟩ ⟨rfl, trivial⟩ ⟨rfl, trivial⟩) (fun _ => rfl) ?_
       rintro n ⟨l48, i49⟩ h
       rw [S_ReachOf_l3] at h
       show VC _ _ _ (⟨[(2, .ptr 2 0), (5, .nil), (6, .row 27 0 ((List.replicate ((g_0.n).toNat) (false : Bool)).length)), (7, .int n37), (8, .int i49)], [(27, some (4, .bools l48))], [(2, some [.int g_0.n, .ro false (.pairs g_0.bars)])]⟩ : PS)
       iterate 2 refine vSeq ?_
       refine vRegion ?_
       iterate 5 refine oVal tt rfl rfl rfl rfl rfl trivial ?_
       refine vNil ?_
       change VC _ _ _ _
       refine vCond rfl (fun hb16 => ?_) (fun hb16 => ?_)
       ·replace h := cnd_t hb16 h
        refine vSkip ?_
        change VC _ _ _ _
        refine vSeq ?_
        refine vBlock ?_
        refine vSeq ?_
        refine vRegion ?_
        iterate 4 refine oVal tt rfl rfl rfl rfl rfl trivial ?_
        obtain ⟨hg17, h⟩ := grd_inv h
        refine oVal tt rfl rfl rfl rfl rfl hg17 ?_
        iterate 2 refine oVal tt rfl rfl rfl rfl rfl trivial ?_
        obtain ⟨hg18, h⟩ := grd_inv h
        refine oVal tt rfl rfl rfl rfl rfl hg18 ?_
        obtain ⟨hg19, h⟩ := grd_inv h
        refine oVal tt rfl rfl rfl rfl rfl hg19 ?_
        refine oVal tt rfl rfl rfl rfl rfl trivial ?_
        refine oSplit rfl rfl rfl (fun hb20 => ?_) (fun hb20 => ?_)
        ·replace h := cnd_t hb20 h
         iterate 9 refine oNoF rfl rfl rfl rfl hb20 rfl rfl ?_
         refine oPick rfl rfl rfl rfl rfl hb20 rfl ?_
         refine vNil ?_
         change VC _ _ _ _
         refine vCondT rfl rfl ?_
         refine vSeq ?_
         refine vRegion ?_
         iterate 4 refine oVal tt rfl rfl rfl rfl rfl trivial ?_
         refine oVal tt rfl rfl rfl rfl rfl hg17 ?_
         iterate 2 refine oVal tt rfl rfl rfl rfl rfl trivial ?_
         refine oVal tt rfl rfl rfl rfl rfl hg18 ?_
         refine oStore tt rfl rfl rfl rfl rfl rfl rfl rfl rfl rfl ⟨_, _, rfl, hg19.1, hg19.2⟩ ⟨hg19, trivial⟩ ?_
         refine vNil ?_
         change VC _ _ _ _
         refine vRegion ?_
         iterate 4 refine oVal tt rfl rfl rfl rfl rfl trivial ?_
         refine oVal tt rfl rfl rfl rfl rfl hg17 ?_
         iterate 2 refine oVal tt rfl rfl rfl rfl rfl trivial ?_
         obtain ⟨hg21, h⟩ := grd_inv h
         refine oVal tt rfl rfl rfl rfl rfl hg21 ?_
         obtain ⟨hg22, h⟩ := grd_inv h
         refine oStore tt rfl rfl rfl rfl rfl rfl rfl rfl rfl rfl ⟨_, _, rfl, hg22.1, hg22.2⟩ ⟨hg22, trivial⟩ ?_
         refine vNil ?_
         change VC _ _ _ _
         refine vRegion ?_
         refine oVal tt rfl rfl rfl rfl rfl trivial ?_
         obtain ⟨hg23, h⟩ := grd_inv h
         refine oVal tt rfl rfl rfl rfl rfl hg23 ?_
         refine oVal tt rfl rfl rfl rfl rfl trivial ?_
         refine vNil ?_
         change ∃ _, _
         exact ⟨(((l48.set (((g_0.bars.getD ((i49).toNat) (0, 0)).1).toNat) true).set (((g_0.bars.getD ((i49).toNat) (0, 0)).2).toNat) true), (i49 + (1 : Int))), (En.of ⟨rfl, rfl, rfl, rfl, rfl, trivial⟩ ⟨rfl, trivial⟩ ⟨rfl, trivial⟩), h⟩
        ·replace h := cnd_f hb20 h
         iterate 4 refine oValG tt rfl rfl rfl rfl rfl hb20 rfl rfl rfl trivial ?_
         refine oValG tt rfl rfl rfl rfl rfl hb20 rfl rfl rfl hg17 ?_
         iterate 2 refine oValG tt rfl rfl rfl rfl rfl hb20 rfl rfl rfl trivial ?_
         obtain ⟨hg24, h⟩ := grd_inv h
         refine oValG tt rfl rfl rfl rfl rfl hb20 rfl rfl rfl hg24 ?_
         obtain ⟨hg25, h⟩ := grd_inv h
         refine oValG tt rfl rfl rfl rfl rfl hb20 rfl rfl rfl hg25 ?_
         refine oPickF rfl rfl rfl rfl rfl hb20 rfl ?_
         refine vNil ?_
         change VC _ _ _ _
         refine vCond rfl (fun hb26 => ?_) (fun hb26 => ?_)
         ·replace h := cnd_t hb26 h
          refine vSeq ?_
          refine vRegion ?_
          iterate 4 refine oVal tt rfl rfl rfl rfl rfl trivial ?_
          refine oVal tt rfl rfl rfl rfl rfl hg17 ?_
          iterate 2 refine oVal tt rfl rfl rfl rfl rfl trivial ?_
          refine oVal tt rfl rfl rfl rfl rfl hg18 ?_
          refine oStore tt rfl rfl rfl rfl rfl rfl rfl rfl rfl rfl ⟨_, _, rfl, hg19.1, hg19.2⟩ ⟨hg19, trivial⟩ ?_
          refine vNil ?_
          change VC _ _ _ _
          refine vRegion ?_
          iterate 4 refine oVal tt rfl rfl rfl rfl rfl trivial ?_
          refine oVal tt rfl rfl rfl rfl rfl hg17 ?_
          iterate 2 refine oVal tt rfl rfl rfl rfl rfl trivial ?_
          refine oVal tt rfl rfl rfl rfl rfl hg24 ?_
          obtain ⟨hg27, h⟩ := grd_inv h
          refine oStore tt rfl rfl rfl rfl rfl rfl rfl rfl rfl rfl ⟨_, _, rfl, hg27.1, hg27.2⟩ ⟨hg27, trivial⟩ ?_
          refine vNil ?_
          change VC _ _ _ _
          refine vRegion ?_
          refine oVal tt rfl rfl rfl rfl rfl trivial ?_
          obtain ⟨hg28, h⟩ := grd_inv h
          refine oVal tt rfl rfl rfl rfl rfl hg28 ?_
          refine oVal tt rfl rfl rfl rfl rfl trivial ?_
          refine vNil ?_
          change ∃ _, _
          exact ⟨(((l48.set (((g_0.bars.getD ((i49).toNat) (0, 0)).1).toNat) true).set (((g_0.bars.getD ((i49).toNat) (0, 0)).2).toNat) true), (i49 + (1 : Int))), (En.of ⟨rfl, rfl, rfl, rfl, rfl, trivial⟩ ⟨rfl, trivial⟩ ⟨rfl, trivial⟩), h⟩
         ·replace h := cnd_f hb26 h
          refine vSkip ?_
          change VC _ _ _ _
          refine vRegion ?_
          refine oVal tt rfl rfl rfl rfl rfl trivial ?_
          obtain ⟨hg29, h⟩ := grd_inv h
          refine oVal tt rfl rfl rfl rfl rfl hg29 ?_
          refine oVal tt rfl rfl rfl rfl rfl trivial ?_
          refine vNil ?_
          change ∃ _, _
          exact ⟨(l48, (i49 + (1 : Int))), (En.of ⟨rfl, rfl, rfl, rfl, rfl, trivial⟩ ⟨rfl, trivial⟩ ⟨rfl, trivial⟩), h⟩
       ·replace h := cnd_f hb16 h
        refine vExit ?_
        change ∃ _, _
        exact ⟨l48, (En.of ⟨rfl, rfl, rfl, rfl, trivial⟩ ⟨rfl, trivial⟩ ⟨rfl, trivial⟩), h⟩
     ·replace h := cnd_f hb14 h
      refine vExit ?_
      change ∃ _, _
      exact ⟨l36, (En.of ⟨rfl, rfl, rfl, trivial⟩ ⟨rfl, trivial⟩ ⟨rfl, trivial⟩), h⟩
end Go.Proofs.YtmoamglpocjhgaaGreat
