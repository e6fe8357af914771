/- Texts that the proof needs, put together: Pj G17 G22 Pk Pm M7 M8 M9 M10 M11 M12 M13 M14 G64 G65 M15 G88. -/
import Derived.Test.YtmoamglpocjhgaaGreatBtr3
import Derived.Test.YtmoamglpocjhgaaGreatBtr4
set_option linter.unusedVariables false
set_option linter.unusedSimpArgs false
namespace Go.Proofs.YtmoamglpocjhgaaGreat
variable (N : Nat)
def onGrid (p : Int × Int) : Bool := inB p.1 0 4 && inB p.2 0 4
theorem onGrid_bd {p : Int × Int} (h : onGrid p = true) : 0 ≤ p.1 ∧ p.1 ≤ 4 ∧ 0 ≤ p.2 ∧ p.2 ≤ 4 := by
 rw [onGrid, Bool.and_eq_true] at h
 have h1 := inB_true.1 h.1
 have h2 := inB_true.1 h.2
 omega
theorem isPlace_s (p : Int × Int) : I_isPlace N p = some (onGrid p) := by
 unfold I_isPlace onGrid
 simp only [within_s, Option.bind_some, cnd_some]
 cases inB p.1 0 4 <;> rfl
abbrev pl0 (l : List (Int × Int)) (x : Int) : Int × Int := l.getD x.toNat (0, 0)
def frAt (f : Frm) (i : Nat) : Bool := !(pl0 f.places (f.g.bars.getD i (0, 0)).1 == pl0 f.places (f.g.bars.getD i (0, 0)).2) && !doubleAt f.g.bars i
def gridAt (l : List (Int × Int)) (i : Nat) : Bool := onGrid (l.getD i (0, 0))
def isFr (f : Frm) : Bool := isGraph f.g && (decide (f.g.n ≤ 6) && (decide ((f.places.length : Int) = f.g.n) && (decide (f.g.bars.length ≤ 15) && ((List.range f.places.length).all (gridAt f.places) && (List.range f.g.bars.length).all (frAt f)))))
theorem isGraph_nn {g : Grf} (h : isGraph g = true) : 1 ≤ g.n ∧ g.n ≤ 8 ∧ g.bars.length ≤ 24 := by
 have := isGraph_parts h; omega
theorem bar_bdd {g : Grf} (hg : isGraph g = true) {i : Nat} (hi : i < g.bars.length) : 0 ≤ (g.bars.getD i (0, 0)).1 ∧ (g.bars.getD i (0, 0)).1 < g.n ∧ 0 ≤ (g.bars.getD i (0, 0)).2 ∧ (g.bars.getD i (0, 0)).2 < g.n ∧ g.n ≤ 8 := by
 have h2 := isGraph_bar hg (List.getElem_mem hi)
 have h3 := isGraph_nn hg
 simp [List.getD_eq_getElem?_getD, hi]
 omega
theorem isFrS_s (hN : 4000000 ≤ N) {f : Frm} (hp : f.places.length ≤ 3000000) : S_IsFramework N f = some (isFr f) := by
 unfold S_IsFramework isFr
 rw [isGraphS_s N hN, Option.bind_some, cnd_not]
 cases hg : isGraph f.g with
 | false => rfl
 | true =>
  have hn := isGraph_nn hg
  rw [cnd_true]
  by_cases h1 : f.g.n ≤ 6
  ·by_cases h2 : (f.places.length : Int) = f.g.n
   ·by_cases h3 : f.g.bars.length ≤ 15
    ·rw [cnd_df (by omega), cnd_nef h2, cnd_df (by omega), decide_eq_true h1, decide_eq_true h2, decide_eq_true h3]
     refine (srch (len := f.places.length) (ok := gridAt f.places) (bad := some false) (fin := some ((List.range f.g.bars.length).all (frAt f))) (by omega) ?_ ?_).trans ?_
     ·intro n i hi _
      rw [S_IsFramework_l2]
      simp (disch := omega) only [Int.toNat_natCast, tk0, List.length_cons, List.length_nil, grd_pos, grd_T, grd_R, cnd_dt, cnd_df, cnd_true, cnd_false, Option.bind_some, l1In_s, cnd_or, succ_cast]
      refine cnd_congr' ?_ _ _
      simp [gridAt, onGrid]
     ·intro n _
      rw [S_IsFramework_l2]
      simp (disch := omega) only [Int.toNat_natCast, tk0, List.length_cons, List.length_nil, grd_pos, grd_T, grd_R, cnd_dt, cnd_df, cnd_true, cnd_false, Option.bind_some]
      refine (srch (len := f.g.bars.length) (ok := frAt f) (bad := some false) (fin := some true) (by omega) ?_ ?_).trans (by rw [cnd_some, cnd_bool])
      ·intro n i hi _
       have hb := bar_bdd hg hi
       rw [S_IsFramework_l1]
       by_cases h0 : i = 0
       ·subst h0
        simp (disch := omega) only [Int.toNat_natCast, tk0, List.length_cons, List.length_nil, grd_pos, grd_T, grd_R, cnd_dt, cnd_df, cnd_true, cnd_false, Option.bind_some, pair_eq, cnd_or, succ_cast]
        refine cnd_congr' ?_ _ _
        simp [frAt, doubleAt]
       ·simp (disch := omega) only [Int.toNat_natCast, tk0, List.length_cons, List.length_nil, grd_pos, grd_T, grd_R, cnd_dt, cnd_df, cnd_true, cnd_false, Option.bind_some, pair_eq, cnd_or, succ_cast, show ((i : Int) - 1).toNat = i - 1 from by omega]
        refine cnd_congr' ?_ _ _
        unfold frAt doubleAt
        rw [decide_eq_true (show 0 < i by omega)]
        cases (pl0 f.places (f.g.bars.getD i (0, 0)).1 == pl0 f.places (f.g.bars.getD i (0, 0)).2) <;> simp
      ·intro n _
       rw [S_IsFramework_l1]
       simp (disch := omega) only [Int.toNat_natCast, tk0, List.length_cons, List.length_nil, grd_pos, grd_T, grd_R, cnd_dt, cnd_df, cnd_true, cnd_false, Option.bind_some]
     ·rw [cnd_some]; cases (List.range f.places.length).all (gridAt f.places) <;> rfl
    ·rw [cnd_df (by omega), cnd_nef h2, cnd_dt (by omega), decide_eq_false h3]; simp
   ·rw [cnd_df (by omega), cnd_net h2, decide_eq_false h2]; simp
  ·rw [cnd_dt (by omega), decide_eq_false h1]; rfl
theorem isFrI_s (hN : 4000000 ≤ N) {f : Frm} (hp : f.places.length ≤ 3000000) : I_IsFramework N f = some (isFr f) := by
 unfold I_IsFramework isFr
 rw [isGraphI_s N hN, Option.bind_some, cnd_not]
 cases hg : isGraph f.g with
 | false => rfl
 | true =>
  have hn := isGraph_nn hg
  rw [cnd_true]
  by_cases h1 : f.g.n ≤ 6
  ·by_cases h2 : (f.places.length : Int) = f.g.n
   ·by_cases h3 : f.g.bars.length ≤ 15
    ·rw [cnd_df (by omega), cnd_df (by omega), cnd_nef h2, decide_eq_true h1, decide_eq_true h2, decide_eq_true h3]
     refine (srch (len := f.places.length) (ok := gridAt f.places) (bad := some false) (fin := some ((List.range f.g.bars.length).all (frAt f))) (by omega) ?_ ?_).trans ?_
     ·intro n i hi _
      rw [I_IsFramework_l2]
      simp (disch := omega) only [Int.toNat_natCast, tk0, List.length_cons, List.length_nil, grd_pos, grd_T, grd_R, cnd_dt, cnd_df, cnd_true, cnd_false, Option.bind_some, isPlace_s, cnd_not, succ_cast]
      rfl
     ·intro n _
      rw [I_IsFramework_l2]
      simp (disch := omega) only [Int.toNat_natCast, tk0, List.length_cons, List.length_nil, grd_pos, grd_T, grd_R, cnd_dt, cnd_df, cnd_true, cnd_false, Option.bind_some]
      refine (srch (len := f.g.bars.length) (ok := frAt f) (bad := some false) (fin := some true) (by omega) ?_ ?_).trans (by rw [cnd_some, cnd_bool])
      ·intro n i hi _
       have hb := bar_bdd hg hi
       rw [I_IsFramework_l1]
       by_cases h0 : i = 0
       ·subst h0
        simp (disch := omega) only [Int.toNat_natCast, tk0, List.length_cons, List.length_nil, grd_pos, grd_T, grd_R, cnd_dt, cnd_df, cnd_true, cnd_false, Option.bind_some, pair_eq, cnd_or, succ_cast]
        refine cnd_congr' ?_ _ _
        simp [frAt, doubleAt]
       ·simp (disch := omega) only [Int.toNat_natCast, tk0, List.length_cons, List.length_nil, grd_pos, grd_T, grd_R, cnd_dt, cnd_df, cnd_true, cnd_false, Option.bind_some, pair_eq, cnd_or, succ_cast, show ((i : Int) - 1).toNat = i - 1 from by omega]
        refine cnd_congr' ?_ _ _
        unfold frAt doubleAt
        rw [decide_eq_true (show 0 < i by omega)]
        cases (pl0 f.places (f.g.bars.getD i (0, 0)).1 == pl0 f.places (f.g.bars.getD i (0, 0)).2) <;> simp
      ·intro n _
       rw [I_IsFramework_l1]
       simp (disch := omega) only [Int.toNat_natCast, tk0, List.length_cons, List.length_nil, grd_pos, grd_T, grd_R, cnd_dt, cnd_df, cnd_true, cnd_false, Option.bind_some]
     ·rw [cnd_some]; cases (List.range f.places.length).all (gridAt f.places) <;> rfl
    ·rw [cnd_df (by omega), cnd_dt (by omega), decide_eq_false h3]; simp
   ·by_cases h3 : f.g.bars.length ≤ 15
    ·rw [cnd_df (by omega), cnd_df (by omega), cnd_net h2, decide_eq_false h2]; simp
    ·rw [cnd_df (by omega), cnd_dt (by omega), decide_eq_false h2]; simp
  ·rw [cnd_dt (by omega), decide_eq_false h1]; rfl
theorem isFr_parts {f : Frm} (h : isFr f = true) : isGraph f.g = true ∧ f.g.n ≤ 6 ∧ (f.places.length : Int) = f.g.n ∧ f.g.bars.length ≤ 15 ∧ (∀ i, i < f.places.length → gridAt f.places i = true) ∧ ∀ i, i < f.g.bars.length → frAt f i = true := by
 simp only [isFr, Bool.and_eq_true, decide_eq_true_eq, List.all_eq_true, List.mem_range] at h
 exact ⟨h.1, h.2.1, h.2.2.1, h.2.2.2.1, h.2.2.2.2.1, h.2.2.2.2.2⟩
def isLk (l : Lnk) : Bool := isFr l.f && (decide (0 < l.ground.length) && (decide (l.f.g.n - (l.ground.length : Int) ≤ 2) && asc l.f.g.n l.ground))
theorem isLkS_s (hN : 4000000 ≤ N) {l : Lnk} (hp : l.f.places.length ≤ 3000000) (hg : l.ground.length ≤ 3000000) : S_IsLinkage N l = some (isLk l) := by
 unfold S_IsLinkage isLk
 simp (disch := omega) only [Int.toNat_natCast, tk0, List.length_cons, List.length_nil, grd_pos, grd_T, grd_R, cnd_dt, cnd_df, cnd_true, cnd_false, Option.bind_some]
 refine (srch (len := l.ground.length) (ok := ascAt (l.f.places.length : Int) l.ground) (bad := some false) (fin := some (isFr l.f && (inB ((l.f.places.length : Int) - (l.ground.length : Int)) 0 2 && decide (0 < l.ground.length)))) (by omega) ?_ ?_).trans ?_
 ·intro n i hi _
  rw [S_IsLinkage_l1]
  by_cases h0 : i = 0
  ·subst h0
   simp (disch := omega) only [Int.toNat_natCast, tk0, List.length_cons, List.length_nil, grd_pos, grd_T, grd_R, cnd_dt, cnd_df, cnd_true, cnd_false, Option.bind_some, cnd_or, succ_cast]
   refine cnd_congr' ?_ _ _
   simp only [ascAt, inB]
   rw [Bool.eq_iff_iff]; simp; omega
  ·simp (disch := omega) only [Int.toNat_natCast, tk0, List.length_cons, List.length_nil, grd_pos, grd_T, grd_R, cnd_dt, cnd_df, cnd_true, cnd_false, Option.bind_some, succ_cast, cnd_or, show ((i : Int) - 1).toNat = i - 1 from by omega]
   refine cnd_congr' ?_ _ _
   simp only [ascAt, inB, decide_eq_false h0, Bool.false_or]
   rw [Bool.eq_iff_iff]; simp; omega
 ·intro n _
  rw [S_IsLinkage_l1]
  simp (disch := omega) only [Int.toNat_natCast, tk0, List.length_cons, List.length_nil, grd_pos, grd_T, grd_R, cnd_dt, cnd_df, cnd_true, cnd_false, Option.bind_some, isFrS_s N hN hp, l1In_s]
  simp only [cnd_some]
  rw [show decide ((l.ground.length : Int) > 0) = decide (0 < l.ground.length) from by rw [Bool.eq_iff_iff]; simp]
  cases isFr l.f <;> cases inB ((l.f.places.length : Int) - (l.ground.length : Int)) 0 2 <;> rfl
 ·rw [show (List.range l.ground.length).all (ascAt (l.f.places.length : Int) l.ground) = asc (l.f.places.length : Int) l.ground from rfl, cnd_some]
  congr 1
  cases hf : isFr l.f with
  | false => simp [cnd_same]
  | true =>
   obtain ⟨h1, h2, h3, h4, h5⟩ := isFr_parts hf
   rw [h3]
   cases ha : asc l.f.g.n l.ground with
   | false => simp
   | true =>
    have := asc_len ha (by omega)
    rw [cnd_true, Bool.eq_iff_iff]
    simp [inB]; omega
theorem isLkI_s (hN : 4000000 ≤ N) {l : Lnk} (hp : l.f.places.length ≤ 3000000) (hg : l.ground.length ≤ 3000000) : I_IsLinkage N l = some (isLk l) := by
 unfold I_IsLinkage isLk
 rw [isFrI_s N hN hp, Option.bind_some, cnd_not]
 cases hf : isFr l.f with
 | false => rfl
 | true =>
  obtain ⟨h1, h2, h3, h4, h5⟩ := isFr_parts hf
  have hn := isGraph_nn h1
  rw [cnd_true]
  by_cases hl : 0 < l.ground.length
  ·by_cases hd : l.f.g.n - (l.ground.length : Int) ≤ 2
   ·rw [cnd_eqf (by omega), decide_eq_true hl, decide_eq_true hd]
    simp (disch := omega) only [Int.toNat_natCast, tk0, List.length_cons, List.length_nil, grd_pos, grd_T, grd_R, cnd_dt, cnd_df, cnd_true, cnd_false, Option.bind_some]
    refine (srch (len := l.ground.length) (ok := ascAt l.f.g.n l.ground) (bad := some false) (fin := some true) (by omega) ?_ ?_).trans (by rw [cnd_some, cnd_bool, show (List.range l.ground.length).all (ascAt l.f.g.n l.ground) = asc l.f.g.n l.ground from rfl, Bool.true_and, Bool.true_and, Bool.true_and])
    ·intro n i hi _
     rw [I_IsLinkage_l1]
     by_cases h0 : i = 0
     ·subst h0
      simp (disch := omega) only [Int.toNat_natCast, tk0, List.length_cons, List.length_nil, grd_pos, grd_T, grd_R, cnd_dt, cnd_df, cnd_true, cnd_false, Option.bind_some, ghas_s N (by omega : 0 ≤ l.f.g.n) (by omega), cnd_not, succ_cast]
      refine cnd_congr ?_ _ _
      simp [ascAt]
     ·simp (disch := omega) only [Int.toNat_natCast, tk0, List.length_cons, List.length_nil, grd_pos, grd_T, grd_R, cnd_dt, cnd_df, cnd_true, cnd_false, Option.bind_some, ghas_s N (by omega : 0 ≤ l.f.g.n) (by omega), succ_cast, cnd_or, show ((i : Int) - 1).toNat = i - 1 from by omega]
      refine cnd_congr' ?_ _ _
      simp only [ascAt, decide_eq_false h0, Bool.false_or]
      cases inB (l.ground.getD i 0) 0 (l.f.g.n - 1) <;> (rw [Bool.eq_iff_iff]; simp)
    ·intro n _
     rw [I_IsLinkage_l1]
     simp (disch := omega) only [Int.toNat_natCast, tk0, List.length_cons, List.length_nil, grd_pos, grd_T, grd_R, cnd_dt, cnd_df, cnd_true, cnd_false, Option.bind_some]
   ·rw [cnd_eqf (by omega), decide_eq_false hd]
    simp (disch := omega) only [Int.toNat_natCast, tk0, List.length_cons, List.length_nil, grd_pos, grd_T, grd_R, cnd_dt, cnd_df, cnd_true, cnd_false, Option.bind_some]
    simp
  ·rw [cnd_eqt (by omega), decide_eq_false hl]; rfl
theorem isLk_parts {l : Lnk} (h : isLk l = true) : isFr l.f = true ∧ 0 < l.ground.length ∧ l.f.g.n - (l.ground.length : Int) ≤ 2 ∧ asc l.f.g.n l.ground = true := by
 simp only [isLk, Bool.and_eq_true, decide_eq_true_eq] at h
 exact ⟨h.1, h.2.1, h.2.2.1, h.2.2.2⟩
theorem sq_bd {d : Int} (h1 : -4 ≤ d) (h2 : d ≤ 4) : 0 ≤ d * d ∧ d * d ≤ 16 := by
 have : d = -4 ∨ d = -3 ∨ d = -2 ∨ d = -1 ∨ d = 0 ∨ d = 1 ∨ d = 2 ∨ d = 3 ∨ d = 4 := by omega
 rcases this with rfl | rfl | rfl | rfl | rfl | rfl | rfl | rfl | rfl <;> decide
theorem sq_zero {d : Int} (h1 : -4 ≤ d) (h2 : d ≤ 4) (h : d * d = 0) : d = 0 := by
 have : d = -4 ∨ d = -3 ∨ d = -2 ∨ d = -1 ∨ d = 0 ∨ d = 1 ∨ d = 2 ∨ d = 3 ∨ d = 4 := by omega
 rcases this with rfl | rfl | rfl | rfl | rfl | rfl | rfl | rfl | rfl <;> first | rfl | (exact absurd h (by decide))
def dsq (p q : Int × Int) : Int := (p.1 - q.1) * (p.1 - q.1) + (p.2 - q.2) * (p.2 - q.2)
theorem dsq_zero {p q : Int × Int} (hp : onGrid p = true) (hq : onGrid q = true) (h : dsq p q = 0) : p = q := by
 have h1 := onGrid_bd hp
 have h2 := onGrid_bd hq
 have h3 := sq_bd (d := p.1 - q.1) (by omega) (by omega)
 have h4 := sq_bd (d := p.2 - q.2) (by omega) (by omega)
 unfold dsq at h
 have h5 := sq_zero (d := p.1 - q.1) (by omega) (by omega) (by omega)
 have h6 := sq_zero (d := p.2 - q.2) (by omega) (by omega) (by omega)
 obtain ⟨a, b⟩ := p; obtain ⟨c, d⟩ := q
 simp only [Prod.mk.injEq]
 simp only at h5 h6
 omega
theorem dsq_self (p : Int × Int) : dsq p p = 0 := by simp [dsq]
theorem square_s {f : Frm} {a b : Int} (ha : 0 ≤ a ∧ a < (f.places.length : Int)) (hb : 0 ≤ b ∧ b < (f.places.length : Int)) (h1 : onGrid (pl0 f.places a) = true) (h2 : onGrid (pl0 f.places b) = true) : M_Framework_square N f a b = some (dsq (pl0 f.places a) (pl0 f.places b)) := by
 have k1 := onGrid_bd h1
 have k2 := onGrid_bd h2
 have k3 := sq_bd (d := (pl0 f.places a).1 - (pl0 f.places b).1) (by omega) (by omega)
 have k4 := sq_bd (d := (pl0 f.places a).2 - (pl0 f.places b).2) (by omega) (by omega)
 unfold M_Framework_square
 unfold pl0 at k1 k2 k3 k4
 simp (disch := omega) only [Int.toNat_natCast, tk0, List.length_cons, List.length_nil, grd_pos, grd_T, grd_R, cnd_dt, cnd_df, cnd_true, cnd_false, Option.bind_some]
 rfl
def barSq (pl : List (Int × Int)) (b : Int × Int) : Int := dsq (pl0 pl b.1) (pl0 pl b.2)
theorem grid_pl {pl : List (Int × Int)} (h : ∀ i, i < pl.length → gridAt pl i = true) {x : Int} (h0 : 0 ≤ x) (h1 : x < (pl.length : Int)) : onGrid (pl0 pl x) = true := h x.toNat (by omega)
theorem sqLen_s (hN : 4000000 ≤ N) {f : Frm} (hf : isFr f = true) : S_SquareLengths N f = some (f.g.bars.map (barSq f.places)) := by
 obtain ⟨h1, h2, h3, h4, h5, h6⟩ := isFr_parts hf
 unfold S_SquareLengths
 refine (fold (len := f.g.bars.length) (st := fun i => (f.g.bars.take i).map (barSq f.places)) (fin := some (f.g.bars.map (barSq f.places))) (by omega) ?_ ?_)
 ·intro n i hi
  have hb := bar_bdd h1 hi
  have g1 := onGrid_bd (grid_pl h5 (x := (f.g.bars.getD i (0, 0)).1) (by omega) (by omega))
  have g2 := onGrid_bd (grid_pl h5 (x := (f.g.bars.getD i (0, 0)).2) (by omega) (by omega))
  have k3 := sq_bd (d := (pl0 f.places (f.g.bars.getD i (0, 0)).1).1 - (pl0 f.places (f.g.bars.getD i (0, 0)).2).1) (by omega) (by omega)
  have k4 := sq_bd (d := (pl0 f.places (f.g.bars.getD i (0, 0)).1).2 - (pl0 f.places (f.g.bars.getD i (0, 0)).2).2) (by omega) (by omega)
  have hl : ((f.g.bars.take i).map (barSq f.places)).length ≤ i := by rw [List.length_map, List.length_take]; omega
  unfold pl0 at g1 g2 k3 k4
  rw [S_SquareLengths_l1]
  simp (disch := omega) only [Int.toNat_natCast, tk0, List.length_cons, List.length_nil, grd_pos, grd_T, grd_R, cnd_dt, cnd_df, cnd_true, cnd_false, Option.bind_some, isFrS_s N hN (show f.places.length ≤ 3000000 by omega), hf, succ_cast]
  rw [List.take_succ_eq_append_getElem hi, List.map_append]
  have e : f.g.bars[i] = f.g.bars.getD i (0, 0) := by simp [List.getD_eq_getElem?_getD, hi]
  rw [e]
  rfl
 ·intro n
  rw [S_SquareLengths_l1]
  simp (disch := omega) only [Int.toNat_natCast, tk0, List.length_cons, List.length_nil, grd_pos, grd_T, grd_R, cnd_dt, cnd_df, cnd_true, cnd_false, Option.bind_some, List.take_length]
theorem range_all_eq (a b : List Int) (h : a.length = b.length) : ((List.range a.length).all fun i => (a.getD i 0 == b.getD i 0)) = decide (a = b) := by
 rw [Bool.eq_iff_iff, List.all_eq_true, decide_eq_true_eq]
 constructor
 ·intro hh
  apply List.ext_getElem h
  intro i h1 h2
  have := hh i (by simpa using h1)
  simpa [List.getD_eq_getElem?_getD, h1, h2] using this
 ·rintro rfl i hi; simp
theorem l6Same_s (hN : 4000000 ≤ N) {a b : List Int} (ha : a.length ≤ 3000000) : S_l6Same N a b = some (decide (a = b)) := by
 unfold S_l6Same
 by_cases h : a.length = b.length
 ·rw [cnd_nef (by omega)]
  refine (srch (len := a.length) (ok := fun i => (a.getD i 0 == b.getD i 0)) (bad := some false) (fin := some true) (by omega) ?_ ?_).trans ?_
  ·intro n i hi _
   rw [S_l6Same_l1]
   simp (disch := omega) only [Int.toNat_natCast, tk0, List.length_cons, List.length_nil, grd_pos, grd_T, grd_R, cnd_dt, cnd_df, cnd_true, cnd_false, Option.bind_some, succ_cast]
   refine cnd_congr' ?_ _ _
   rw [bne]
  ·intro n _
   rw [S_l6Same_l1]
   simp (disch := omega) only [Int.toNat_natCast, tk0, List.length_cons, List.length_nil, grd_pos, grd_T, grd_R, cnd_dt, cnd_df, cnd_true, cnd_false, Option.bind_some]
  ·rw [cnd_some, cnd_bool, range_all_eq a b h]
 ·rw [cnd_net (by omega), decide_eq_false (fun e => h (by rw [e]))]
theorem eqGraphs_s (hN : 4000000 ≤ N) {g : Grf} (hb : g.bars.length ≤ 3000000) : S_EqualGraphs N g g = some true := by
 unfold S_EqualGraphs
 rw [cnd_nef rfl, cnd_nef rfl]
 refine (srch (len := g.bars.length) (ok := fun i => true) (bad := some false) (fin := some true) (by omega) ?_ ?_).trans ?_
 ·intro n i hi _
  rw [S_EqualGraphs_l1]
  simp (disch := omega) only [Int.toNat_natCast, tk0, List.length_cons, List.length_nil, grd_pos, grd_T, grd_R, cnd_dt, cnd_df, cnd_true, cnd_false, Option.bind_some, succ_cast, beq_self_eq_true, Bool.and_self, Bool.not_true]
 ·intro n _
  rw [S_EqualGraphs_l1]
  simp (disch := omega) only [Int.toNat_natCast, tk0, List.length_cons, List.length_nil, grd_pos, grd_T, grd_R, cnd_dt, cnd_df, cnd_true, cnd_false, Option.bind_some]
 ·rw [show ((List.range g.bars.length).all fun _ => true) = true by rw [List.all_eq_true]; intro _ _; rfl]; rfl
def poseAt (l : Lnk) (p : List (Int × Int)) (v : Nat) : Bool := onGrid (p.getD v (0, 0)) && (!l.ground.contains (v : Int) || p.getD v (0, 0) == l.f.places.getD v (0, 0))
def barAtP (l : Lnk) (p : List (Int × Int)) (i : Nat) : Bool := barSq l.f.places (l.f.g.bars.getD i (0, 0)) == barSq p (l.f.g.bars.getD i (0, 0))
def isPs (l : Lnk) (p : List (Int × Int)) : Bool := isLk l && (decide (p.length = l.f.places.length) && ((List.range p.length).all (poseAt l p) && (List.range l.f.g.bars.length).all (barAtP l p)))
theorem isPoseI_s (hN : 4000000 ≤ N) {l : Lnk} (hp : l.f.places.length ≤ 3000000) (hg : l.ground.length ≤ 3000000) {p : List (Int × Int)} : I_IsPose N l p = some (isPs l p) := by
 unfold I_IsPose isPs
 rw [isLkI_s N hN hp hg, Option.bind_some, cnd_not]
 cases hl : isLk l with
 | false => rfl
 | true =>
  obtain ⟨k1, k2, k3, k4⟩ := isLk_parts hl
  obtain ⟨h1, h2, h3, h4, h5, h6⟩ := isFr_parts k1
  rw [cnd_true]
  by_cases he : p.length = l.f.places.length
  ·rw [cnd_nef (by omega), decide_eq_true he]
   refine (srch (len := p.length) (ok := poseAt l p) (bad := some false) (fin := cnd ((List.range p.length).all (poseAt l p)) (some ((List.range l.f.g.bars.length).all (barAtP l p))) (some false)) (by omega) ?_ ?_).trans ?_
   ·intro n i hi _
    rw [I_IsPose_l2]
    simp (disch := omega) only [Int.toNat_natCast, tk0, List.length_cons, List.length_nil, grd_pos, grd_T, grd_R, cnd_dt, cnd_df, cnd_true, cnd_false, Option.bind_some, isPlace_s, contains_s N hN hg, pair_eq, cnd_and, cnd_or, succ_cast]
    refine cnd_congr' ?_ _ _
    unfold poseAt
    cases onGrid (p.getD i (0, 0)) <;> cases l.ground.contains (i : Int) <;> simp
   ·intro n hall
    have hal : (List.range p.length).all (poseAt l p) = true := by rw [List.all_eq_true]; intro j hj; exact hall j (by simpa using hj)
    rw [I_IsPose_l2, hal, cnd_true]
    simp (disch := omega) only [Int.toNat_natCast, tk0, List.length_cons, List.length_nil, grd_pos, grd_T, grd_R, cnd_dt, cnd_df, cnd_true, cnd_false, Option.bind_some]
    have hgr : ∀ i, i < p.length → gridAt p i = true := fun i hi => by
     have := hall i hi
     rw [poseAt, Bool.and_eq_true] at this
     exact this.1
    refine (srch (len := l.f.g.bars.length) (ok := barAtP l p) (bad := some false) (fin := some true) (by omega) ?_ ?_).trans (by rw [cnd_some, cnd_bool])
    ·intro n i hi _
     have hb := bar_bdd h1 hi
     rw [I_IsPose_l1]
     have q1 := square_s N (f := l.f) (a := (l.f.g.bars.getD i (0, 0)).1) (b := (l.f.g.bars.getD i (0, 0)).2) (by omega) (by omega) (grid_pl h5 (by omega) (by omega)) (grid_pl h5 (by omega) (by omega))
     have q2 := square_s N (f := ⟨⟨0, []⟩, p⟩) (a := (l.f.g.bars.getD i (0, 0)).1) (b := (l.f.g.bars.getD i (0, 0)).2) (by show 0 ≤ _ ∧ _ < (p.length : Int); omega) (by show 0 ≤ _ ∧ _ < (p.length : Int); omega) (grid_pl (pl := p) hgr (by omega) (by omega)) (grid_pl (pl := p) hgr (by omega) (by omega))
     simp (disch := omega) only [Int.toNat_natCast, tk0, List.length_cons, List.length_nil, grd_pos, grd_T, grd_R, cnd_dt, cnd_df, cnd_true, cnd_false, Option.bind_some, q1, q2, succ_cast]
     refine cnd_congr' ?_ _ _
     rw [bne]; rfl
    ·intro n _
     rw [I_IsPose_l1]
     simp (disch := omega) only [Int.toNat_natCast, tk0, List.length_cons, List.length_nil, grd_pos, grd_T, grd_R, cnd_dt, cnd_df, cnd_true, cnd_false, Option.bind_some]
   ·cases hal : (List.range p.length).all (poseAt l p) <;> rfl
  ·rw [cnd_net (by omega), decide_eq_false he]; rfl
theorem isFr_moved {l : Lnk} {p : List (Int × Int)} (hf : isFr l.f = true) (he : p.length = l.f.places.length) (hgr : ∀ i, i < p.length → gridAt p i = true) (hb : ∀ i, i < l.f.g.bars.length → barAtP l p i = true) : isFr ⟨l.f.g, p⟩ = true := by
 obtain ⟨h1, h2, h3, h4, h5, h6⟩ := isFr_parts hf
 simp only [isFr, Bool.and_eq_true, decide_eq_true_eq, List.all_eq_true, List.mem_range]
 refine ⟨h1, h2, by omega, h4, hgr, fun i hi => ?_⟩
 have h7 := h6 i hi
 have h8 := hb i hi
 have hbar := bar_bdd h1 hi
 unfold frAt at h7 ⊢
 rw [Bool.and_eq_true] at h7 ⊢
 refine ⟨?_, h7.2⟩
 simp only [Bool.not_eq_true', beq_eq_false_iff_ne] at h7 ⊢
 intro e
 unfold barAtP barSq at h8
 simp only [beq_iff_eq] at h8
 rw [show pl0 p (l.f.g.bars.getD i (0, 0)).1 = pl0 p (l.f.g.bars.getD i (0, 0)).2 from e, dsq_self] at h8
 exact h7.1 (dsq_zero (grid_pl h5 (by omega) (by omega)) (grid_pl h5 (by omega) (by omega)) h8)
def grdAt (l : Lnk) (p : List (Int × Int)) (i : Nat) : Bool := pl0 p (l.ground.getD i 0) == pl0 l.f.places (l.ground.getD i 0)
theorem isPoseS_s (hN : 4000000 ≤ N) {l : Lnk} (hp : l.f.places.length ≤ 3000000) (hg : l.ground.length ≤ 3000000) {p : List (Int × Int)} : S_IsPose N l p = some (isPs l p) := by
 unfold S_IsPose isPs
 rw [isLkS_s N hN hp hg, Option.bind_some, cnd_not]
 cases hl : isLk l with
 | false => rfl
 | true =>
  obtain ⟨k1, k2, k3, k4⟩ := isLk_parts hl
  obtain ⟨h1, h2, h3, h4, h5, h6⟩ := isFr_parts k1
  rw [cnd_true]
  by_cases he : p.length = l.f.places.length
  ·rw [cnd_nef (by omega), decide_eq_true he]
   have same : S_AreSameLengths N l.f ⟨⟨l.f.g.n, l.f.g.bars⟩, p⟩ = some (isFr ⟨l.f.g, p⟩ && decide (l.f.g.bars.map (barSq l.f.places) = l.f.g.bars.map (barSq p))) := by
    unfold S_AreSameLengths
    rw [isFrS_s N hN hp, isFrS_s N hN (f := ⟨⟨l.f.g.n, l.f.g.bars⟩, p⟩) (by show p.length ≤ _; omega), Option.bind_some, k1, cnd_true, Option.bind_some]
    cases hf2 : isFr ⟨l.f.g, p⟩ with
    | false => rfl
    | true =>
     rw [cnd_true, eqGraphs_s N hN (g := l.f.g) (by omega), Option.bind_some, cnd_true, sqLen_s N hN k1, sqLen_s N hN (f := ⟨⟨l.f.g.n, l.f.g.bars⟩, p⟩) hf2, Option.bind_some, Option.bind_some, l6Same_s N hN (by rw [List.length_map]; omega)]
     rfl
   refine (srch (len := l.ground.length) (ok := grdAt l p) (bad := some false) (fin := some (isFr ⟨l.f.g, p⟩ && decide (l.f.g.bars.map (barSq l.f.places) = l.f.g.bars.map (barSq p)))) (by omega) ?_ ?_).trans ?_
   ·intro n i hi _
    have hx := asc_in k4 (List.getElem_mem hi)
    have e : l.ground.getD i 0 = l.ground[i] := by simp [List.getD_eq_getElem?_getD, hi]
    rw [← e] at hx
    rw [S_IsPose_l1]
    simp (disch := omega) only [Int.toNat_natCast, tk0, List.length_cons, List.length_nil, grd_pos, grd_T, grd_R, cnd_dt, cnd_df, cnd_true, cnd_false, Option.bind_some, pair_eq, cnd_not, succ_cast]
    rfl
   ·intro n _
    rw [S_IsPose_l1]
    simp (disch := omega) only [Int.toNat_natCast, tk0, List.length_cons, List.length_nil, grd_pos, grd_T, grd_R, cnd_dt, cnd_df, cnd_true, cnd_false, Option.bind_some]
    rw [same]; rfl
   ·rw [cnd_some]
    congr 1
    rw [Bool.eq_iff_iff]
    have hc : ∀ b : Bool, cnd ((List.range l.ground.length).all (grdAt l p)) b false = ((List.range l.ground.length).all (grdAt l p) && b) := fun b => by cases (List.range l.ground.length).all (grdAt l p) <;> rfl
    rw [hc]
    simp only [Bool.and_eq_true, decide_eq_true_eq, List.all_eq_true, List.mem_range, Bool.true_and]
    constructor
    ·rintro ⟨a1, a2, a3⟩
     obtain ⟨g1, g2, g3, g4, g5, g6⟩ := isFr_parts a2
     refine ⟨fun v hv => ?_, fun i hi => ?_⟩
     ·rw [poseAt, Bool.and_eq_true]
      refine ⟨g5 v hv, ?_⟩
      cases hcn : l.ground.contains (v : Int) with
      | false => rfl
      | true =>
       simp only [List.contains_eq_mem, decide_eq_true_eq] at hcn
       obtain ⟨i, hi, hiv⟩ := List.getElem_of_mem hcn
       have := a1 i hi
       have e : l.ground.getD i 0 = (v : Int) := by simp [List.getD_eq_getElem?_getD, hi, hiv]
       rw [grdAt, e] at this
       simpa [pl0] using this
     ·have := congrArg (fun x => x.getD i 0) a3
      simp only [List.getD_eq_getElem?_getD, List.getElem?_map, List.getElem?_eq_getElem hi, Option.map_some, Option.getD_some] at this
      rw [barAtP]
      simpa [List.getD_eq_getElem?_getD, hi] using this
    ·rintro ⟨a1, a2⟩
     have hgr : ∀ i, i < p.length → gridAt p i = true := fun i hi => by
      have := a1 i hi
      rw [poseAt, Bool.and_eq_true] at this
      exact this.1
     refine ⟨fun i hi => ?_, isFr_moved k1 he hgr a2, ?_⟩
     ·have hx := asc_in k4 (List.getElem_mem hi)
      have e : l.ground.getD i 0 = l.ground[i] := by simp [List.getD_eq_getElem?_getD, hi]
      have := a1 l.ground[i].toNat (by omega)
      rw [poseAt, Bool.and_eq_true] at this
      have h8 := this.2
      rw [show ((l.ground[i].toNat : Nat) : Int) = l.ground[i] by omega] at h8
      rw [show l.ground.contains l.ground[i] = true by simp] at h8
      rw [grdAt, e]
      exact h8
     ·apply List.ext_getElem (by simp)
      intro i q1 q2
      rw [List.length_map] at q1
      have := a2 i q1
      rw [barAtP] at this
      simpa [List.getD_eq_getElem?_getD, q1] using this
  ·rw [cnd_net (by omega), decide_eq_false he]; rfl
end Go.Proofs.YtmoamglpocjhgaaGreat
namespace Go.Proofs.YtmoamglpocjhgaaGreat
open Go.RowKit
end Go.Proofs.YtmoamglpocjhgaaGreat
namespace Go.Proofs.YtmoamglpocjhgaaGreat
open Go.RowKit
def S_FreeJoints_l1 (N : Nat) (l_0 : Lnk) (k : (List Int) → Option (List Int)) : Nat → ((List Int) × Int) → Option (List Int)
 | 0, _ => none
 | n + 1, (l17, i18) =>
  cnd (decide (i18 < (l_0.f.places.length : Int))) (
   (S_IsLinkage N l_0).bind fun v21 =>
   cnd v21 (
    (S_l2Has N l_0.ground i18).bind fun v22 =>
    cnd (!v22) (
     grd (l17.length + 1 ≤ 4294967296) <|
     grd (Rg64 (i18 + (1 : Int))) <|
     S_FreeJoints_l1 N l_0 k n ((l17 ++ ([i18] : List Int)), (i18 + (1 : Int)))) (
     grd (Rg64 (i18 + (1 : Int))) <|
     S_FreeJoints_l1 N l_0 k n (l17, (i18 + (1 : Int))))) (
    k l17)) (
   k l17)
def S_FreeJoints (N : Nat) (l_0 : Lnk) : Option (List Int) :=
 S_FreeJoints_l1 N l_0 (fun (l11 : List Int) =>
    some l11) N (([] : List Int), (0 : Int))
set_option maxRecDepth 20000 in
set_option maxHeartbeats 1600000 in
theorem S_FreeJoints_w (N : Nat) (l_0 : Lnk) (r : List Int) (h : S_FreeJoints N l_0 = some r) : PCall Tryz.prog 82 [lD l_0] [(3, .ints r)] (.row 0 0 r.length) := by
 unfold S_FreeJoints at h
 refine pcall_intro (TT := TT) tt Tryz.func82 rfl rfl Tryz.ntmps82 (congrArg Array.toList Tryz.results82) rfl rfl fun w0 => ?_
 refine vSeq ?_
 refine vRegion ?_
 refine oBox rfl rfl rfl rfl rfl rfl rfl rfl rfl ?_
 refine oVal tt rfl rfl rfl rfl rfl trivial ?_
 refine vNil ?_
 change VC _ _ _ _
 refine vSeq ?_
 refine vRegion ?_
 refine oEmpty tt (wNone rfl) rfl rfl rfl rfl ?_
 refine oVal tt rfl rfl rfl rfl rfl trivial ?_
 refine vNil ?_
 change VC _ _ _ _
 iterate 2 refine vSeq ?_
 refine vRegion ?_
 refine oVal tt rfl rfl rfl rfl rfl trivial ?_
 refine vNil ?_
 change VC _ _ _ _
 refine vJoin (F := fun k => S_FreeJoints_l1 N l_0 k) h (α := List Int) (J := fun (l11 : List Int) => (⟨[(3, .row 26 0 l11.length)], [(26, some (3, .ints l11))], []⟩ : PS)) ?_ ?_
 ·rintro l11 h
  show VC _ _ _ (⟨[(3, .row 26 0 l11.length)], [(26, some (3, .ints l11))], []⟩ : PS)
  refine vSeq ?_
  refine vRegion ?_
  iterate 2 refine oVal tt rfl rfl rfl rfl rfl trivial ?_
  refine vNil ?_
  change VC _ _ _ _
  refine vRet ?_
  change ∃ _, _
  cases h
  exact ⟨[26], _, rfl, ⟨rfl, trivial⟩, rfl, (.eq rfl), rfl⟩
 ·intro k h
  refine vBlock ?_
  refine vNilT 3 26 3 (.ints []) rfl rfl rfl rfl ?_
  refine vLoopS (α := (List Int) × Int) (fun | (l17, i18) => (⟨[(1, .ptr 1 0), (3, .row 26 0 l17.length), (4, .int i18)], [(26, some (3, .ints l17))], [(1, some [.int l_0.f.g.n, .ro false (.pairs l_0.f.g.bars), .ro false (.pairs l_0.f.places), .ro false (.ints l_0.ground)])]⟩ : PS)) (S_FreeJoints_l1 N l_0 k) h (En.of ⟨rfl, rfl, rfl, trivial⟩ ⟨rfl, trivial⟩ ⟨rfl, trivial⟩) (fun _ => rfl) ?_
  rintro n ⟨l17, i18⟩ h
  rw [S_FreeJoints_l1] at h
  show VC _ _ _ (⟨[(1, .ptr 1 0), (3, .row 26 0 l17.length), (4, .int i18)], [(26, some (3, .ints l17))], [(1, some [.int l_0.f.g.n, .ro false (.pairs l_0.f.g.bars), .ro false (.pairs l_0.f.places), .ro false (.ints l_0.ground)])]⟩ : PS)
  iterate 2 refine vSeq ?_
  refine vRegion ?_
  iterate 7 refine oVal tt rfl rfl rfl rfl rfl trivial ?_
  refine oSplit rfl rfl rfl (fun hb1 => ?_) (fun hb1 => ?_)
  ·replace h := cnd_t hb1 h
   refine oValG tt rfl rfl rfl rfl rfl hb1 rfl rfl rfl trivial ?_
   obtain ⟨v21, hc2, h⟩ := bind_inv h
   refine oCallG (S_IsLinkage_w N l_0 v21 hc2) rfl rfl rfl rfl hb1 rfl rfl rfl rfl rfl rfl rfl ⟨⟨rfl, rfl, rfl, rfl, trivial⟩, trivial⟩ ?_
   refine oPick rfl rfl rfl rfl rfl hb1 rfl ?_
   refine vNil ?_
   change VC _ _ _ _
   refine vCond rfl (fun hb3 => ?_) (fun hb3 => ?_)
   ·replace h := cnd_t hb3 h
    refine vSkip ?_
    change VC _ _ _ _
    refine vSeq ?_
    refine vBlock ?_
    refine vSeq ?_
    refine vRegion ?_
    iterate 3 refine oVal tt rfl rfl rfl rfl rfl trivial ?_
    obtain ⟨v22, hc4, h⟩ := bind_inv h
    refine oCall (S_l2Has_w N l_0.ground i18 v22 hc4) rfl rfl rfl rfl rfl rfl rfl rfl ⟨rfl, rfl, trivial⟩ ?_
    refine oVal tt rfl rfl rfl rfl rfl trivial ?_
    refine vNil ?_
    change VC _ _ _ _
    refine vCond rfl (fun hb5 => ?_) (fun hb5 => ?_)
    ·replace h := cnd_t hb5 h
     refine vRegion ?_
     iterate 2 refine oVal tt rfl rfl rfl rfl rfl trivial ?_
     refine oBuild tt rfl rfl rfl rfl rfl rfl rfl rfl rfl rfl rfl ?_
     obtain ⟨hg6, h⟩ := grd_inv h
     refine oAppend tt rfl rfl rfl rfl rfl rfl rfl rfl rfl rfl rfl rfl rfl rfl rfl rfl (Nat.le_of_eq (Nat.zero_add _)) hg6 ?_
     refine oVal tt rfl rfl rfl rfl rfl trivial ?_
     refine vNil ?_
     change VC _ _ _ _
     refine vRegion ?_
     refine oVal tt rfl rfl rfl rfl rfl trivial ?_
     obtain ⟨hg7, h⟩ := grd_inv h
     refine oVal tt rfl rfl rfl rfl rfl hg7 ?_
     refine oVal tt rfl rfl rfl rfl rfl trivial ?_
     refine vNil ?_
     change ∃ _, _
     exact ⟨((l17 ++ ([i18] : List Int)), (i18 + (1 : Int))), (En.of ⟨rfl, rfl, rfl, trivial⟩ ⟨rfl, trivial⟩ ⟨rfl, trivial⟩), h⟩
    ·replace h := cnd_f hb5 h
     refine vSkip ?_
     change VC _ _ _ _
     refine vRegion ?_
     refine oVal tt rfl rfl rfl rfl rfl trivial ?_
     obtain ⟨hg8, h⟩ := grd_inv h
     refine oVal tt rfl rfl rfl rfl rfl hg8 ?_
     refine oVal tt rfl rfl rfl rfl rfl trivial ?_
     refine vNil ?_
     change ∃ _, _
     exact ⟨(l17, (i18 + (1 : Int))), (En.of ⟨rfl, rfl, rfl, trivial⟩ ⟨rfl, trivial⟩ ⟨rfl, trivial⟩), h⟩
   ·replace h := cnd_f hb3 h
    refine vExit ?_
    change ∃ _, _
    exact ⟨l17, (En.of ⟨rfl, trivial⟩ ⟨rfl, trivial⟩ trivial), h⟩
  ·replace h := cnd_f hb1 h
   iterate 2 refine oNoT rfl rfl rfl rfl hb1 rfl rfl ?_
   refine oPickF rfl rfl rfl rfl rfl hb1 rfl ?_
   refine vNil ?_
   change VC _ _ _ _
   refine vCondF rfl rfl ?_
   refine vExit ?_
   change ∃ _, _
   exact ⟨l17, (En.of ⟨rfl, trivial⟩ ⟨rfl, trivial⟩ trivial), h⟩
def I_FreeJoints_l1 (N : Nat) (l_0 : Lnk) (k : (List Int) → Option (List Int)) : Nat → ((List Int) × Int) → Option (List Int)
 | 0, _ => none
 | n + 1, (l12, x13) =>
  cnd (decide (x13 < (l_0.f.places.length : Int))) (
   (G_Contains_int N l_0.ground x13).bind fun v15 =>
   cnd (!v15) (
    grd (l12.length + 1 ≤ 4294967296) <|
    grd (Rg64 (x13 + (1 : Int))) <|
    I_FreeJoints_l1 N l_0 k n ((l12 ++ ([x13] : List Int)), (x13 + (1 : Int)))) (
    grd (Rg64 (x13 + (1 : Int))) <|
    I_FreeJoints_l1 N l_0 k n (l12, (x13 + (1 : Int))))) (
   k l12)
def I_FreeJoints (N : Nat) (l_0 : Lnk) : Option (List Int) :=
 (I_IsLinkage N l_0).bind fun v1 =>
 cnd (!v1) (
  some ([] : List Int)) (
  I_FreeJoints_l1 N l_0 (fun (l8 : List Int) =>
     some l8) N (([] : List Int), (0 : Int)))
set_option maxRecDepth 20000 in
set_option maxHeartbeats 1600000 in
theorem I_FreeJoints_w (N : Nat) (l_0 : Lnk) (r : List Int) (h : I_FreeJoints N l_0 = some r) : PCall Tryz.prog 89 [lD l_0] [(3, .ints r)] (.row 0 0 r.length) := by
 unfold I_FreeJoints at h
 refine pcall_intro (TT := TT) tt Tryz.func89 rfl rfl Tryz.ntmps89 (congrArg Array.toList Tryz.results89) rfl rfl fun w0 => ?_
 refine vSeq ?_
 refine vRegion ?_
 refine oBox rfl rfl rfl rfl rfl rfl rfl rfl rfl ?_
 refine oVal tt rfl rfl rfl rfl rfl trivial ?_
 refine vNil ?_
 change VC _ _ _ _
 refine vSeq ?_
 refine vRegion ?_
 refine oEmpty tt (wNone rfl) rfl rfl rfl rfl ?_
 refine oVal tt rfl rfl rfl rfl rfl trivial ?_
 refine vNil ?_
 change VC _ _ _ _
 iterate 2 refine vSeq ?_
 refine vRegion ?_
 refine oVal tt rfl rfl rfl rfl rfl trivial ?_
 obtain ⟨v1, hc1, h⟩ := bind_inv h
 refine oCall (I_IsLinkage_w N l_0 v1 hc1) rfl rfl rfl rfl rfl rfl rfl rfl ⟨⟨rfl, rfl, rfl, rfl, trivial⟩, trivial⟩ ?_
 refine oVal tt rfl rfl rfl rfl rfl trivial ?_
 refine vNil ?_
 change VC _ _ _ _
 refine vCond rfl (fun hb2 => ?_) (fun hb2 => ?_)
 ·replace h := cnd_t hb2 h
  refine vSeq ?_
  refine vRegion ?_
  iterate 2 refine oVal tt rfl rfl rfl rfl rfl trivial ?_
  refine vNil ?_
  change VC _ _ _ _
  refine vNilT 2 9001 3 (.ints []) rfl rfl rfl rfl ?_
  refine vRet ?_
  change ∃ _, _
  cases h
  exact ⟨[9001], _, rfl, ⟨rfl, trivial⟩, rfl, (.eq rfl), rfl⟩
 ·replace h := cnd_f hb2 h
  refine vSkip ?_
  change VC _ _ _ _
  iterate 2 refine vSeq ?_
  refine vRegion ?_
  iterate 5 refine oVal tt rfl rfl rfl rfl rfl trivial ?_
  refine vNil ?_
  change VC _ _ _ _
  refine vJoin (F := fun k => I_FreeJoints_l1 N l_0 k) h (α := List Int) (J := fun (l8 : List Int) => (⟨[(3, .row 25 0 l8.length)], [(25, some (3, .ints l8))], []⟩ : PS)) ?_ ?_
  ·rintro l8 h
   show VC _ _ _ (⟨[(3, .row 25 0 l8.length)], [(25, some (3, .ints l8))], []⟩ : PS)
   refine vSeq ?_
   refine vRegion ?_
   iterate 2 refine oVal tt rfl rfl rfl rfl rfl trivial ?_
   refine vNil ?_
   change VC _ _ _ _
   refine vRet ?_
   change ∃ _, _
   cases h
   exact ⟨[25], _, rfl, ⟨rfl, trivial⟩, rfl, (.eq rfl), rfl⟩
  ·intro k h
   refine vBlock ?_
   refine vNilT 3 25 3 (.ints []) rfl rfl rfl rfl ?_
   refine vLoopS (α := (List Int) × Int) (fun | (l12, x13) => (⟨[(1, .ptr 1 0), (3, .row 25 0 l12.length), (13, .int (l_0.f.places.length : Int)), (14, .int x13)], [(25, some (3, .ints l12))], [(1, some [.int l_0.f.g.n, .ro false (.pairs l_0.f.g.bars), .ro false (.pairs l_0.f.places), .ro false (.ints l_0.ground)])]⟩ : PS)) (I_FreeJoints_l1 N l_0 k) h (En.of ⟨rfl, rfl, rfl, rfl, trivial⟩ ⟨rfl, trivial⟩ ⟨rfl, trivial⟩) (fun _ => rfl) ?_
   rintro n ⟨l12, x13⟩ h
   rw [I_FreeJoints_l1] at h
   show VC _ _ _ (⟨[(1, .ptr 1 0), (3, .row 25 0 l12.length), (13, .int (l_0.f.places.length : Int)), (14, .int x13)], [(25, some (3, .ints l12))], [(1, some [.int l_0.f.g.n, .ro false (.pairs l_0.f.g.bars), .ro false (.pairs l_0.f.places), .ro false (.ints l_0.ground)])]⟩ : PS)
   refine vSeq ?_
   refine vRegion ?_
   refine oVal tt rfl rfl rfl rfl rfl trivial ?_
   refine vNil ?_
   change VC _ _ _ _
   refine vSeq ?_
   refine vCond rfl (fun hb3 => ?_) (fun hb3 => ?_)
   ·replace h := cnd_t hb3 h
    refine vSkip ?_
    change VC _ _ _ _
    refine vSeq ?_
    refine vBlock ?_
    refine vSeq ?_
    refine vRegion ?_
    iterate 2 refine oVal tt rfl rfl rfl rfl rfl trivial ?_
    refine vNil ?_
    change VC _ _ _ _
    refine vSeq ?_
    refine vRegion ?_
    iterate 3 refine oVal tt rfl rfl rfl rfl rfl trivial ?_
    obtain ⟨v15, hc4, h⟩ := bind_inv h
    refine oCall (G_Contains_int_w N l_0.ground x13 v15 hc4) rfl rfl rfl rfl rfl rfl rfl rfl ⟨rfl, rfl, trivial⟩ ?_
    refine oVal tt rfl rfl rfl rfl rfl trivial ?_
    refine vNil ?_
    change VC _ _ _ _
    refine vCond rfl (fun hb5 => ?_) (fun hb5 => ?_)
    ·replace h := cnd_t hb5 h
     refine vRegion ?_
     iterate 2 refine oVal tt rfl rfl rfl rfl rfl trivial ?_
     refine oBuild tt rfl rfl rfl rfl rfl rfl rfl rfl rfl rfl rfl ?_
     obtain ⟨hg6, h⟩ := grd_inv h
     refine oAppend tt rfl rfl rfl rfl rfl rfl rfl rfl rfl rfl rfl rfl rfl rfl rfl rfl (Nat.le_of_eq (Nat.zero_add _)) hg6 ?_
     refine oVal tt rfl rfl rfl rfl rfl trivial ?_
     refine vNil ?_
     change VC _ _ _ _
     refine vRegion ?_
     obtain ⟨hg7, h⟩ := grd_inv h
     refine oVal tt rfl rfl rfl rfl rfl hg7 ?_
     refine oVal tt rfl rfl rfl rfl rfl trivial ?_
     refine vNil ?_
     change ∃ _, _
     exact ⟨((l12 ++ ([x13] : List Int)), (x13 + (1 : Int))), (En.of ⟨rfl, rfl, rfl, rfl, trivial⟩ ⟨rfl, trivial⟩ ⟨rfl, trivial⟩), h⟩
    ·replace h := cnd_f hb5 h
     refine vSkip ?_
     change VC _ _ _ _
     refine vRegion ?_
     obtain ⟨hg8, h⟩ := grd_inv h
     refine oVal tt rfl rfl rfl rfl rfl hg8 ?_
     refine oVal tt rfl rfl rfl rfl rfl trivial ?_
     refine vNil ?_
     change ∃ _, _
     exact ⟨(l12, (x13 + (1 : Int))), (En.of ⟨rfl, rfl, rfl, rfl, trivial⟩ ⟨rfl, trivial⟩ ⟨rfl, trivial⟩), h⟩
   ·replace h := cnd_f hb3 h
    refine vExit ?_
    change ∃ _, _
    exact ⟨l12, (En.of ⟨rfl, trivial⟩ ⟨rfl, trivial⟩ trivial), h⟩
end Go.Proofs.YtmoamglpocjhgaaGreat
namespace Go.Proofs.YtmoamglpocjhgaaGreat
variable (N : Nat)
def freeJ (l : Lnk) : List Int := cnd (isLk l) (outside l.ground l.f.places.length) []
theorem freeI_s (hN : 4000000 ≤ N) {l : Lnk} (hp : l.f.places.length ≤ 3000000) (hg : l.ground.length ≤ 3000000) : I_FreeJoints N l = some (freeJ l) := by
 unfold I_FreeJoints freeJ
 rw [isLkI_s N hN hp hg, Option.bind_some, cnd_not]
 cases h : isLk l with
 | false => rfl
 | true =>
  rw [cnd_true, cnd_true]
  refine (fold (len := l.f.places.length) (st := outside l.ground) (fin := some (outside l.ground l.f.places.length)) (by omega) ?_ ?_)
  ·intro n i hi
   have hl := outside_len l.ground i
   rw [I_FreeJoints_l1]
   simp (disch := omega) only [Int.toNat_natCast, tk0, List.length_cons, List.length_nil, grd_pos, grd_T, grd_R, cnd_dt, cnd_df, cnd_true, cnd_false, Option.bind_some, contains_s N hN hg, cnd_not, succ_cast, outside_succ]
   cases l.ground.contains (i : Int) <;> rfl
  ·intro n
   rw [I_FreeJoints_l1]
   simp (disch := omega) only [Int.toNat_natCast, tk0, List.length_cons, List.length_nil, grd_pos, grd_T, grd_R, cnd_dt, cnd_df, cnd_true, cnd_false, Option.bind_some]
theorem freeS_s (hN : 4000000 ≤ N) {l : Lnk} (hp : l.f.places.length ≤ 3000000) (hg : l.ground.length ≤ 3000000) : S_FreeJoints N l = some (freeJ l) := by
 unfold S_FreeJoints freeJ
 cases h : isLk l with
 | false =>
  obtain ⟨M, rfl⟩ : ∃ M, N = M + 1 := ⟨N - 1, by omega⟩
  rw [S_FreeJoints_l1, isLkS_s _ hN hp hg, Option.bind_some, h]
  cases decide ((0 : Int) < (l.f.places.length : Int)) <;> rfl
 | true =>
  rw [cnd_true]
  refine (fold (len := l.f.places.length) (st := outside l.ground) (fin := some (outside l.ground l.f.places.length)) (by omega) ?_ ?_)
  ·intro n i hi
   have hl := outside_len l.ground i
   rw [S_FreeJoints_l1]
   simp (disch := omega) only [Int.toNat_natCast, tk0, List.length_cons, List.length_nil, grd_pos, grd_T, grd_R, cnd_dt, cnd_df, cnd_true, cnd_false, Option.bind_some, isLkS_s N hN hp hg, h, l2Has_s N hN hg, cnd_not, succ_cast, outside_succ]
   cases l.ground.contains (i : Int) <;> rfl
  ·intro n
   rw [S_FreeJoints_l1]
   simp (disch := omega) only [Int.toNat_natCast, tk0, List.length_cons, List.length_nil, grd_pos, grd_T, grd_R, cnd_dt, cnd_df, cnd_true, cnd_false, Option.bind_some]
end Go.Proofs.YtmoamglpocjhgaaGreat
namespace Go.Proofs.YtmoamglpocjhgaaGreat
abbrev VS := Int → Bool
def v2 (a b : Int) : VS := fun v => v == a || v == b
end Go.Proofs.YtmoamglpocjhgaaGreat
namespace Go.Proofs.YtmoamglpocjhgaaGreat
def oth (e : Int × Int) (v : Int) : Int := e.1 + e.2 - v
variable {n : Nat} {E : List (Int × Int)} {f T : List Int}
theorem getD_mem {α : Type} {l : List α} {i : Nat} {d : α} (h : i < l.length) : l.getD i d ∈ l := by
 rw [List.getD_eq_getElem?_getD, List.getElem?_eq_getElem h]; exact List.getElem_mem h
end Go.Proofs.YtmoamglpocjhgaaGreat
namespace Go.Proofs.YtmoamglpocjhgaaGreat
variable {n : Nat} {E : List (Int × Int)} {f T : List Int} {a b : Int} {q : List Int} {fr : Int → Int} {k m : Nat}
theorem nodup_le : ∀ {n : Nat} {q : List Int}, q.Nodup → (∀ v ∈ q, 0 ≤ v ∧ v < n) → q.length ≤ n
 | 0, q, _, hr => by
  cases q with
  | nil => simp
  | cons x q => have := hr x (by simp); omega
 | n + 1, q, hn, hr => by
  by_cases hm : (n : Int) ∈ q
  ·have ih := nodup_le (n := n) (hn.erase (n : Int)) fun v hv => by
    have := (hn.mem_erase_iff).1 hv
    have h2 := hr v this.2
    have := this.1
    omega
   rw [List.length_erase_of_mem hm] at ih
   omega
  ·have ih := nodup_le (n := n) hn fun v hv => by
    have h2 := hr v hv
    have : v ≠ (n : Int) := fun e => hm (e ▸ hv)
    omega
   omega
end Go.Proofs.YtmoamglpocjhgaaGreat
namespace Go.Proofs.YtmoamglpocjhgaaGreat
open Go.RowKit Go.Deep
section
variable {C : Cx} {ops : Array Oper} {K : PS → Prop} {l : List Oper} {s s' : PS} {TT : List (Nat × Ty)} {tm : List (Nat × D)} {rw' : List (Nat × Option (TypeId × Sq))} {bx : List (Nat × Option (List D))}
theorem vEnO (hl : En C s s') (h : VO C ops K l s') : VO C ops K l s := ⟨fun M a w Q hr hk => by
 obtain ⟨M', h'⟩ := hl.out M a w hr
 exact h.out M' a w Q h' hk⟩
theorem oRowT (t r : Nat) {n n' : Nat} (hn : n = n') (ht : (PS.t ⟨tm, rw', bx⟩ t) = .row r 0 n) (h : VO C ops K l ⟨(t, .row r 0 n') :: tm, rw', bx⟩) : VO C ops K l ⟨tm, rw', bx⟩ := by
 subst hn
 refine vEnO (s' := ⟨(t, .row r 0 n) :: tm, rw', bx⟩) ⟨fun M a w hr => ⟨M, hr.sameT (fun x => ?_) rfl rfl⟩⟩ h
 by_cases hx : t = x
 ·subst hx
  rw [ht]; simp [PS.t, look_cons_self]
 ·simp [PS.t, look_cons_ne hx]
theorem oRowB (b i r : Nat) {n n' : Nat} {cs cs' : List D} (hb : (PS.b ⟨tm, rw', bx⟩ b) = some cs) (hi : cs[i]? = some (.row r 0 n)) (hn : n = n') (hcs : fcL (cs.set i (.row r 0 n')) some = some cs')
  (h : VO C ops K l ⟨tm, rw', (b, some cs') :: bx⟩) : VO C ops K l ⟨tm, rw', bx⟩ := by
 subst hn
 rw [fcL_eq] at hcs
 cases hcs
 have e : cs.set i (.row r 0 n) = cs := by
  apply List.ext_getElem?
  intro j
  rw [List.getElem?_set]
  by_cases hj : i = j
  ·subst hj
   have hlt := (List.getElem?_eq_some_iff.1 hi).1
   rw [if_pos rfl, if_pos hlt, hi]
  ·rw [if_neg hj]
 rw [e] at h
 refine vEnO ⟨fun M a w hr => ⟨M, ?_⟩⟩ h
 have hbb : ∀ x, (PS.b ⟨tm, rw', (b, some cs) :: bx⟩ x) = (PS.b ⟨tm, rw', bx⟩ x) := fun x => by
  by_cases hx : b = x
  ·subst hx
   rw [hb]; simp [PS.b, look_cons_self]
  ·simp [PS.b, look_cons_ne hx]
 exact ⟨hr.fr, hr.dfr, hr.sz, hr.tmp, fun x cs hx => hr.box x cs (by rwa [hbb] at hx), fun x hx => hr.boxn x (by rwa [hbb] at hx), hr.row, hr.rown, hr.low, hr.inj1, hr.inj2, hr.inj3, hr.nle, hr.fxb, hr.fxr⟩
end
section
end
section
variable {C : Cx} {ops : Array Oper} {K : PS → Prop} {l : List Oper} {s s' : PS} {TT : List (Nat × Ty)} {tm : List (Nat × D)} {rw' : List (Nat × Option (TypeId × Sq))} {bx : List (Nat × Option (List D))}
variable {o : Oper} {rest : List Oper} {rk rids bk bids pids : List Nat}
theorem oMCloX {f : FuncId} {x : Operand} {args : Array Operand} {ts : Array TypeId} {bs : List Nat} {r0 r1 : List (TypeId × Sq)} {b0 b1 : List (List D)} {d : D} (cs : List Nat) (ds : List D) (hp : MCall C.P f (ds ++ cs.map fun b => .ptr b 0) rk bk r0 r1 b0 b1 d) (rids bids pids : List Nat) (hg : o.guard = none) (hop : o.op = .call { callee := .value x, args := args, argTypes := ts })
  (hx : (PS.ev ⟨tm, rw', bx⟩ x) = .clo f bs) (hcs : cs.map (sgm bk bids) = bs) (hin : cs.all (isInL bk) = true) (hn : dstOk C.n o.dst = true)
  (hchk : mchk rk rids bk bids pids = true) (hf : frB ⟨tm, rw', bx⟩ noB (newP rids pids) = true)
  (hnf : nf ((PS.after ⟨tm, rw', bx⟩ rids pids r1 bids (b1.map fun cs => cs.map (renS (sgm bk bids) (sgm rk pids)))).put o.dst (ren (sgm bk bids) (sgm rk pids) d)) = some s')
  (hr : pairOk (PS.r ⟨tm, rw', bx⟩) rids r0) (hb : pairOk (PS.b ⟨tm, rw', bx⟩) bids (b0.map fun cs => cs.map (renS (sgm bk bids) (sgm rk rids)))) (hfit : fitsM rk rids bk bids ⟨tm, rw', bx⟩ args.toList ds) (h : VO C ops K rest s') (hrf : rfB ⟨tm, rw', bx⟩ rids = true := by rfl) : VO C ops K (o :: rest) ⟨tm, rw', bx⟩ :=
 vOp hg (sMClo hop hx hp hcs hin hn hchk hrf (frB_ok hf) hr hb hfit (vNf hnf h))
end
section
end
section
variable {C : Cx} {ops : Array Oper} {K : PS → Prop} {o : Oper} {rest : List Oper} {s s' : PS} {TT : List (Nat × Ty)} {tm : List (Nat × D)} {rw' : List (Nat × Option (TypeId × Sq))} {bx : List (Nat × Option (List D))} {cr B : List Nat} {j : Nat}
end
end Go.Proofs.YtmoamglpocjhgaaGreat
namespace Go.Proofs.YtmoamglpocjhgaaGreat
open Go.RowKit Go.Deep
def klXS (r : Nat) : D → D
 | .row x o n => match (Nat.beq x r || !notF x) with | true => .dead | false => .row x o n
 | .eptr x i o => match (Nat.beq x r || !notF x) with | true => .dead | false => .eptr x i o
 | .agg _ | .tup _ | .irow _ _ _ | .iptr _ _ _ _ => .dead
 | d => d
def klXA (r : Nat) : D → D
 | .agg l => .agg (l.map (klXS r))
 | d => klXS r d
def klX (r : Nat) : D → D
 | .tup l => .tup (l.map (klXA r))
 | d => klXA r d
def PS.killX (s : PS) (r : Nat) : PS := ⟨s.tmp.map fun p => (p.1, klX r p.2), s.row, s.box.map fun p => (p.1, p.2.map fun cs => cs.map (klXS r))⟩
section
variable {M M' : Mp} {A A' : Bool → Nat → Prop} {w w' : World} {r : Nat} {s : PS}
theorem VR.klXS (hA : ∀ f b, b < w.heap.size → A f b → A' f b ∧ b < w'.heap.size ∧ w'.heap[b]? = w.heap[b]?) (hγ : ∀ x y, x ≠ r → notF x = true → M'.γ x = some y → M.γ x = some y) (hβ : ∀ b k, M'.β b = some k → M.β b = some k)
  {d : D} {v : Value} (h : VR M A w d v) : VR M' A' w' (klXS r d) v := by
 cases h with
 | dead v => exact .dead v
 | int n => exact .int n
 | bool b => exact .bool b
 | val v h => exact .val v h
 | nil ao => exact .nil ao
 | ro f q ao cap b o u hn hc hao hu hv => exact VR.ro_any (.ro f q ao cap b o u hn hc hao hu hv) hA
 | row x off n v h1 h =>
  simp only [YtmoamglpocjhgaaGreat.klXS]
  split
  ·exact .dead _
  ·rename_i hx
   rw [Bool.or_eq_false_iff] at hx
   exact .row _ off n v h1 fun y hy => h y (hγ _ y (fun e => by subst e; rw [Nat.beq_refl] at hx; cases hx.1) (by simpa using hx.2) hy)
 | ptr b off v h1 h => exact .ptr _ off v h1 fun k hk => h k (hβ b k hk)
 | eptr x i off v h =>
  simp only [YtmoamglpocjhgaaGreat.klXS]
  split
  ·exact .dead _
  ·rename_i hx
   rw [Bool.or_eq_false_iff] at hx
   exact .eptr _ i off v fun g c z hg => h g c z (hγ _ _ (fun e => by subst e; rw [Nat.beq_refl] at hx; cases hx.1) (by simpa using hx.2) hg)
 | rptr f q i off b o u hb hA' hu hv => exact VR.rptr_any (.rptr f q i off b o u hb hA' hu hv) hA
 | agg l us hl h => exact .dead _
 | tup l us hl h => exact .dead _
 | clo f bs v h1 h => exact .clo f bs v h1 fun ks hk => h ks (capsOf_mono' (fun b _ => hβ b) hk)
 | map k l es clock h hl hk => obtain ⟨a1, a2, a3⟩ := hA _ k (heap_lt h) hk; exact .map k l es clock (a3.trans h) hl a1
 | any v h1 => exact .any v h1
 | irow F k n v h1 h => exact .dead _
 | iptr F k i off v h => exact .dead _
 | fam te q v => exact .fam te q v
theorem VR.klXA (hA : ∀ f b, b < w.heap.size → A f b → A' f b ∧ b < w'.heap.size ∧ w'.heap[b]? = w.heap[b]?) (hγ : ∀ x y, x ≠ r → notF x = true → M'.γ x = some y → M.γ x = some y) (hβ : ∀ b k, M'.β b = some k → M.β b = some k)
  {d : D} {v : Value} (h : VR M A w d v) : VR M' A' w' (klXA r d) v := by
 cases d with
 | agg l =>
  cases h with | agg _ us hl h =>
  refine .agg _ us (by simpa using hl) fun i d hd => ?_
  rw [List.getElem?_map] at hd
  obtain ⟨d0, h0, rfl⟩ := Option.map_eq_some_iff.1 hd
  exact (h i d0 h0).klXS hA hγ hβ
 | _ => exact VR.klXS hA hγ hβ h
theorem VR.klX (hA : ∀ f b, b < w.heap.size → A f b → A' f b ∧ b < w'.heap.size ∧ w'.heap[b]? = w.heap[b]?) (hγ : ∀ x y, x ≠ r → notF x = true → M'.γ x = some y → M.γ x = some y) (hβ : ∀ b k, M'.β b = some k → M.β b = some k)
  {d : D} {v : Value} (h : VR M A w d v) : VR M' A' w' (klX r d) v := by
 cases d with
 | tup l =>
  cases h with | tup _ us hl h =>
  refine .tup _ us (by simpa using hl) fun i d hd => ?_
  rw [List.getElem?_map] at hd
  obtain ⟨d0, h0, rfl⟩ := Option.map_eq_some_iff.1 hd
  exact (h i d0 h0).klXA hA hγ hβ
 | _ => exact VR.klXA hA hγ hβ h
theorem PS.t_killX (s : PS) (r t : Nat) : (s.killX r).t t = klX r (s.t t) := by
 unfold PS.t PS.killX
 simp only [look_map (klX r)]
 cases look s.tmp t <;> rfl
theorem PS.b_killX (s : PS) (r b : Nat) : (s.killX r).b b = (s.b b).map fun cs => cs.map (klXS r) := by
 unfold PS.b PS.killX
 simp only [look_map (fun (x : Option (List D)) => x.map fun cs => cs.map (YtmoamglpocjhgaaGreat.klXS r))]
 cases look s.box b <;> rfl
end
def lone (s : PS) (R F : Nat) : Bool := s.row.all fun p => Nat.beq p.1 R || (match s.r p.1 with | some (_, q) => (match q.refF with | some G => !Nat.beq G F && Nat.blt G 4294967296 | none => true) | none => true)
theorem lone_ok {s : PS} {R F : Nat} (hl : lone s R F = true) {x : Nat} {e : TypeId} {q : Sq} {G : Nat} (hx : s.r x = some (e, q)) (hG : q.refF = some G) : x = R ∨ (G ≠ F ∧ G < 4294967296) := by
 cases hb : Nat.ble BIG x with
 | true =>
  rw [PS.r_hi _ hb] at hx
  have := famr_flat hx
  cases q <;> simp [Sq.refF, Sq.isRefs] at hG this
 | false =>
  have hx' := hx
  rw [PS.r_lo _ hb] at hx'
  split at hx'
  ·rename_i y hy
   have := (List.all_eq_true.1 hl) _ (look_mem hy)
   simp only [hx, hG, Bool.or_eq_true, Bool.and_eq_true, Bool.not_eq_true', Nat.blt_eq] at this
   rcases this with h1 | ⟨h1, h2⟩
   ·exact .inl (Nat.eq_of_beq_eq_true h1)
   ·exact .inr ⟨fun e => (by rw [e, Nat.beq_refl] at h1; cases h1), h2⟩
  ·cases hx'
section
variable {w0 : World} {O0 : Hd} {n : Nat} {M : Mp} {s : PS} {a : Act} {w : World}
theorem Rel.remap (h : Rel w0 O0 n M s a w) {M' : Mp} {s' : PS} (r F : Nat) (hF : F < 4294967296) (hβ : ∀ b, M'.β b = M.β b) (hsub : ∀ x k c z, M'.γ x = some (some (k, c, z)) → ∃ y, M.γ y = some (some (k, c, z)))
  (hinj : ∀ x y k c z c' z', M'.γ x = some (some (k, c, z)) → M'.γ y = some (some (k, c', z')) → x = y)
  (hγ' : ∀ x y, x ≠ r → notF x = true → M'.γ x = some y → M.γ x = some y) (hγk : ∀ x y, x ≠ FK + F → notF x = false → Nat.ble BIG x = false → M'.γ x = some y → M.γ x = some y) (hrr : r < 1000000 ∨ M'.γ r = none) (hfk : ∀ u u', O0.fr (FK + F) = some u → M'.γ (FK + F) = some u' → u' = u)
  (hbg : ∀ G k y, G < 4294967296 → G ≠ F → M'.γ (inn G k) = some y → M.γ (inn G k) = some y)
  (ht : ∀ t, VR M' (Ow (Fs w0 O0) M') w (s'.t t) (a.tmps.getD t undef)) (hb : ∀ b, s'.b b = (s.b b).map fun cs => cs.map (klXS r))
  (hrow : ∀ x e q, s'.r x = some (e, q) → (s.r x = some (e, q) ∧ M'.γ x = M.γ x ∧ ∀ G, q.refF = some G → G ≠ F ∧ G < 4294967296) ∨ RowAt (Fs w0 O0) M' w x e q) (hrown : ∀ x, s'.r x = none → M'.γ x = none) : Rel w0 O0 n M' s' a w := by
 have hown : ∀ k, M'.owned k → M.owned k := by
  rintro k (⟨b, hb⟩ | ⟨y, c, z, hy⟩)
  ·exact .inl ⟨b, by rw [← hβ]; exact hb⟩
  ·obtain ⟨x, hx⟩ := hsub _ _ _ _ hy; exact .inr ⟨x, c, z, hx⟩
 have hA : ∀ f b, b < w.heap.size → Ow (Fs w0 O0) M f b → Ow (Fs w0 O0) M' f b ∧ b < w.heap.size ∧ w.heap[b]? = w.heap[b]? := fun f b h1 h2 => ⟨⟨fun h3 => h2.1 (hown b h3), h2.2⟩, h1, rfl⟩
 refine ⟨h.fr, h.dfr, h.sz, ht, fun b cs hx => ?_, fun b hx => ?_, fun x e q hx => ?_, hrown, fun k hk => h.low k (hown k hk), fun b b' k h1 h2 => h.inj1 b b' k (by rw [← hβ]; exact h1) (by rw [← hβ]; exact h2), hinj, fun b x k c z h1 h2 => ?_, h.nle, fun b k k' h1 h2 => h.fxb b k k' h1 (by rw [← hβ]; exact h2), fun x u u' h1 h2 => ?_⟩
 ·rw [hb] at hx
  obtain ⟨cs0, h0, rfl⟩ := Option.map_eq_some_iff.1 hx
  obtain ⟨k, cur, e2, a1, a2, a3, a4⟩ := h.box b cs0 h0
  refine ⟨k, cur, e2, by rw [hβ]; exact a1, a2, by simpa using a3, fun j d hd => ?_⟩
  rw [List.getElem?_map] at hd
  obtain ⟨d0, h1, rfl⟩ := Option.map_eq_some_iff.1 hd
  exact VR.klXS hA hγ' (fun b k hk => by rw [← hβ]; exact hk) (a4 j d0 h1)
 ·rw [hb] at hx
  rw [hβ]; exact h.boxn b (by simpa using hx)
 ·rcases hrow x e q hx with ⟨h1, h2, h3⟩ | h1
  ·rcases h.row x e q h1 with ⟨g1, g2⟩ | ⟨g, cap, cur, g1, g2, g3, g4, g5, g6⟩
   ·exact .inl ⟨h2.trans g1, g2⟩
   ·refine .inr ⟨g, cap, cur, h2.trans g1, g2, g3, g4, g5, fun i j d hi hd => (g6 i j d hi hd).relem_any2 hd hA fun G hG k y hy => ?_⟩
    exact hbg G k y (h3 G hG).2 (h3 G hG).1 hy
  ·exact h1
 ·obtain ⟨y, hy⟩ := hsub _ _ _ _ h2
  exact h.inj3 _ _ _ _ _ (by rw [← hβ]; exact h1) hy
 ·obtain ⟨h3, h4⟩ := O0.lor x u h1
  have hb1 : Nat.ble BIG x = false := by
   cases hb : Nat.ble BIG x with
   | false => rfl
   | true => have := Nat.le_of_ble_eq_true hb; omega
  by_cases hxr : x = r
  ·subst hxr
   rcases hrr with h5 | h5
   ·omega
   ·rw [h5] at h2; cases h2
  ·cases hn : notF x with
   | true => exact h.fxr x u u' h1 (hγ' x u' hxr hn h2)
   | false =>
    by_cases hxf : x = FK + F
    ·rw [hxf] at h1 h2; exact hfk u u' h1 h2
    ·exact h.fxr x u u' h1 (hγk x u' hxf hn hb1 h2)
end
end Go.Proofs.YtmoamglpocjhgaaGreat
namespace Go.Proofs.YtmoamglpocjhgaaGreat
open Go.RowKit Go.Deep
def Fq.len : Fq → Nat
 | .ints L => L.length | .pairs L => L.length | .bools L => L.length
def Fq.push : Fq → Sq → Option Fq
 | .ints L, .ints c => some (.ints (L ++ [some c])) | .pairs L, .pairs c => some (.pairs (L ++ [some c])) | .bools L, .bools c => some (.bools (L ++ [some c]))
 | _, _ => none
def Fq.hole : Fq → Nat → Fq
 | .ints L, k => .ints (L.set k none) | .pairs L, k => .pairs (L.set k none) | .bools L, k => .bools (L.set k none)
theorem getD_snoc {α : Type} (L : List (Option α)) (c : α) (k : Nat) : (L ++ [some c]).getD k none = if k = L.length then some c else L.getD k none := by
 by_cases h : k = L.length
 ·subst h; simp
 ·rw [if_neg h]
  by_cases h2 : k < L.length
  ·simp [List.getElem?_append_left h2]
  ·have h3 : L.length < k := by omega
   simp [List.getElem?_append_right (show L.length ≤ k by omega), List.getElem?_eq_none (show L.length ≤ k by omega), List.getElem?_eq_none (show [some c].length ≤ k - L.length by simp; omega)]
theorem Fq.get_push {fq fq' : Fq} {c : Sq} (h : fq.push c = some fq') (k : Nat) : fq'.get k = if k = fq.len then some c else fq.get k := by
 cases fq <;> cases c <;> simp only [Fq.push, reduceCtorEq, Option.some.injEq] at h <;> subst h <;> simp only [Fq.get, Fq.len, getD_snoc] <;> (rename_i L l; by_cases hk : k = L.length <;> simp [hk])
theorem getD_hole {α : Type} (L : List (Option α)) (k j : Nat) : (L.set k none).getD j none = if j = k then none else L.getD j none := by
 by_cases h : j = k
 ·subst h
  simp only [if_true, List.getD_eq_getElem?_getD, List.getElem?_set]
  split <;> simp
 ·simp [h, List.getD_eq_getElem?_getD, List.getElem?_set, Ne.symm h]
theorem Fq.get_hole (fq : Fq) (k j : Nat) : (fq.hole k).get j = if j = k then none else fq.get j := by
 cases fq <;> simp only [Fq.hole, Fq.get, getD_hole] <;> split <;> split <;> simp_all
theorem Fq.get_flat {fq : Fq} {k : Nat} {c : Sq} (h : fq.get k = some c) : c.isRefs = false := by
 cases fq <;> simp only [Fq.get] at h <;> split at h <;> first | (cases h; done) | (cases h; rfl)
theorem inn_of {x : Nat} (h : Nat.ble BIG x = true) : inn (unF x) (unK x) = x := by
 have h1 := Nat.le_of_ble_eq_true h
 have e : ∀ y : Nat, y / 4294967296 * 4294967296 + y % 4294967296 % 4294967296 = y := fun y => by omega
 have := e (x - BIG)
 unfold inn unF unK
 rw [this]
 omega
theorem fam_r {s : PS} {F : Nat} (hF : F < 4294967296) {te : TypeId} {fq : Fq} (hf : s.r (FK + F) = some (te, .fam fq)) (i : Nat) : s.r (inn F i) = match fq.get i with | some c => some (te, c) | none => none := by
 rw [PS.r_hi _ (inn_hi F i), PS.inn_r, fk_unF hF, hf, unK_inn]
 rfl
def famM (M : Mp) (r F : Nat) (fq : Fq) (g : Nat → Nat) : Mp := ⟨M.β, fun x => match Nat.ble BIG x with
 | true => if unF x = F then (match fq.get (unK x) with | some _ => M.γ (g (unK x)) | none => none) else M.γ x
 | false => if x = r then none else M.γ x⟩
theorem famM_hi (M : Mp) (r F : Nat) (fq : Fq) (g : Nat → Nat) {x : Nat} (hb : Nat.ble BIG x = true) (hu : unF x = F) : (famM M r F fq g).γ x = match fq.get (unK x) with | some _ => M.γ (g (unK x)) | none => none := by
 simp only [famM]
 rw [hb]
 simp [hu]
theorem famM_hi2 (M : Mp) (r F : Nat) (fq : Fq) (g : Nat → Nat) {x : Nat} (hb : Nat.ble BIG x = true) (hu : unF x ≠ F) : (famM M r F fq g).γ x = M.γ x := by
 simp only [famM]
 rw [hb]
 simp [hu]
theorem famM_inn (M : Mp) (r F : Nat) (fq : Fq) (g : Nat → Nat) (hF : F < 4294967296) (k : Nat) : (famM M r F fq g).γ (inn F k) = match fq.get k with | some _ => M.γ (g k) | none => none := by
 have := famM_hi M r F fq g (inn_hi F k) (by rw [unF_inn, Nat.mod_eq_of_lt hF])
 rw [unK_inn] at this
 exact this
theorem famM_inn2 (M : Mp) (r F : Nat) (fq : Fq) (g : Nat → Nat) {G : Nat} (hG : G < 4294967296) (hne : G ≠ F) (k : Nat) : (famM M r F fq g).γ (inn G k) = M.γ (inn G k) :=
 famM_hi2 M r F fq g (inn_hi G k) (by rw [unF_inn, Nat.mod_eq_of_lt hG]; exact hne)
theorem famM_lo (M : Mp) (r F : Nat) (fq : Fq) (g : Nat → Nat) {x : Nat} (hb : Nat.ble BIG x = false) (hx : x ≠ r) : (famM M r F fq g).γ x = M.γ x := by
 simp only [famM]
 rw [hb]
 simp [hx]
theorem famM_r (M : Mp) (r F : Nat) (fq : Fq) (g : Nat → Nat) (hb : Nat.ble BIG r = false) : (famM M r F fq g).γ r = none := by
 simp only [famM]
 rw [hb]
 simp
theorem VR.irow_mv {M M' : Mp} {A A' : Bool → Nat → Prop} {w w' : World} {F F' k k' n : Nat} {v : Value} (hv : VR M A w (.irow F k n) v) (h : ∀ x, M'.γ (inn F' k') = some x → M.γ (inn F k) = some x) : VR M' A' w' (.irow F' k' n) v := by
 cases hv with | irow _ _ _ _ h1 h2 => exact .irow _ _ _ _ h1 fun x hx => h2 x (h x hx)
theorem VR.irow_of {M M' : Mp} {A A' : Bool → Nat → Prop} {w w' : World} {F' r k' n : Nat} {v : Value} (hv : VR M A w (.row r 0 n) v) (h : ∀ x, M'.γ (inn F' k') = some x → M.γ r = some x) : VR M' A' w' (.irow F' k' n) v := by
 cases hv with | row _ _ _ _ h1 h2 => exact .irow _ _ _ _ h1 fun x hx => h2 x (h x hx)
theorem RowAt.mv {F : Bool → Nat → Prop} {M M' : Mp} {w : World} {x y : Nat} {e : TypeId} {q : Sq} (h : RowAt F M w x e q) (hq : q.isRefs = false) (hγ : M'.γ y = M.γ x) (hA : ∀ f b, b < w.heap.size → Ow F M f b → Ow F M' f b ∧ b < w.heap.size ∧ w.heap[b]? = w.heap[b]?) : RowAt F M' w y e q := by
 rcases h with ⟨g1, g2⟩ | ⟨g, cap, cur, g1, g2, g3, g4, g5, g6⟩
 ·exact .inl ⟨hγ.trans g1, g2⟩
 ·refine .inr ⟨g, cap, cur, hγ.trans g1, g2, g3, g4, g5, fun i j d hi hd => ?_⟩
  have hd' := hd
  rw [Sq.relem_eq hq] at hd'
  exact (g6 i j d hi hd).elem_any hd' hA
section
variable {w0 : World} {O0 : Hd} {n : Nat} {M : Mp} {s : PS} {a : Act} {w : World}
theorem Rel.refam (h : Rel w0 O0 n M s a w) {s' : PS} (r R F : Nat) (hF : F < 4294967296) {te : TypeId} {fq fq' : Fq} (g : Nat → Nat) {yR : Option (TypeId × Sq)}
  (hr : r < 1000000) (hR : notF R = true) (hrR : r ≠ R) (hf : s.r (FK + F) = some (te, .fam fq)) (hl : lone s R F = true)
  (hg : ∀ k c, fq'.get k = some c → s.r (g k) = some (te, c)) (hinj : ∀ k k' c c', fq'.get k = some c → fq'.get k' = some c' → g k = g k' → k = k') (hsrc : ∀ k c, fq'.get k = some c → g k = r ∨ ∃ j, g k = inn F j)
  (hs : ∀ x, s'.r x = match Nat.ble BIG x with | true => (if unF x = F then famr (some (some (te, .fam fq'))) (unK x) else s.r x) | false => if x = r then none else if x = FK + F then some (te, .fam fq') else if x = R then yR else s.r x)
  (hyR : ∀ e q, yR = some (e, q) → RowAt (Fs w0 O0) (famM M r F fq' g) w R e q) (hyn : yR = none → M.γ R = none)
  (ht : ∀ t, VR (famM M r F fq' g) (Ow (Fs w0 O0) (famM M r F fq' g)) w (s'.t t) (a.tmps.getD t undef)) (hb : ∀ b, s'.b b = (s.b b).map fun cs => cs.map (klXS r)) : Rel w0 O0 n (famM M r F fq' g) s' a w := by
 have hrb : Nat.ble BIG r = false := notF_big (notF_lo hr)
 have hRb : Nat.ble BIG R = false := notF_big hR
 have hfr : FK + F ≠ r := fun e => by have := notF_lo hr; rw [← e] at this; have h2 := notF_fk (inn F 0); rw [fk_unF hF] at h2; rw [h2] at this; cases this
 have hfR : FK + F ≠ R := fun e => by rw [← e] at hR; have h2 := notF_fk (inn F 0); rw [fk_unF hF] at h2; rw [h2] at hR; cases hR
 have cases3 : ∀ x y, (famM M r F fq' g).γ x = some y → (∃ k c, x = inn F k ∧ fq'.get k = some c ∧ M.γ (g k) = some y) ∨ (M.γ x = some y ∧ x ≠ r ∧ ∀ j, x ≠ inn F j) := fun x y hx => by
  cases hbx : Nat.ble BIG x with
  | true =>
   by_cases hu : unF x = F
   ·have hxe : x = inn F (unK x) := by rw [← hu]; exact (inn_of hbx).symm
    rw [hxe, famM_inn _ _ _ _ _ hF] at hx
    split at hx
    ·rename_i c hc; exact .inl ⟨_, c, hxe, hc, hx⟩
    ·cases hx
   ·simp only [famM, hbx, hu, if_false] at hx
    refine .inr ⟨hx, fun e => (by rw [e, hrb] at hbx; cases hbx), fun j e => hu (by rw [e, unF_inn, Nat.mod_eq_of_lt hF])⟩
  | false =>
   simp only [famM, hbx] at hx
   split at hx
   ·cases hx
   ·rename_i hxr
    exact .inr ⟨hx, hxr, fun j e => by rw [e, inn_hi] at hbx; cases hbx⟩
 have hsub : ∀ x k c z, (famM M r F fq' g).γ x = some (some (k, c, z)) → ∃ y, M.γ y = some (some (k, c, z)) := fun x k c z hx => by
  rcases cases3 x _ hx with ⟨_, _, _, _, h1⟩ | ⟨h1, _⟩
  ·exact ⟨_, h1⟩
  ·exact ⟨_, h1⟩
 have hown : ∀ k, (famM M r F fq' g).owned k → M.owned k := by
  rintro k (⟨b, hb⟩ | ⟨y, c, z, hy⟩)
  ·exact .inl ⟨b, hb⟩
  ·obtain ⟨x, hx⟩ := hsub _ _ _ _ hy; exact .inr ⟨x, c, z, hx⟩
 have hA : ∀ f b, b < w.heap.size → Ow (Fs w0 O0) M f b → Ow (Fs w0 O0) (famM M r F fq' g) f b ∧ b < w.heap.size ∧ w.heap[b]? = w.heap[b]? := fun f b h1 h2 => ⟨⟨fun h3 => h2.1 (hown b h3), h2.2⟩, h1, rfl⟩
 refine h.remap (s' := s') r F hF (fun _ => rfl) hsub (fun x y k c z c' z' h1 h2 => ?_) (fun x y h1 h2 h3 => ?_) (fun x y h1 h2 h3 h4 => ?_) (.inl hr) (fun u u' h1 h2 => ?_) (fun G k y h1 h2 h3 => ?_) ht hb (fun x e q hx => ?_) fun x hx => ?_
 ·rcases cases3 x _ h1 with ⟨k1, c1, rfl, g1, g2⟩ | ⟨g1, g2, g3⟩
  ·rcases cases3 y _ h2 with ⟨k2, c2, rfl, g4, g5⟩ | ⟨g4, g5, g6⟩
   ·have := h.inj2 _ _ _ _ _ _ _ g2 g5
    rw [hinj k1 k2 c1 c2 g1 g4 this]
   ·exfalso
    have := h.inj2 _ _ _ _ _ _ _ g2 g4
    rcases hsrc k1 c1 g1 with h5 | ⟨j, h5⟩
    ·exact g5 (by rw [← this, h5])
    ·exact g6 j (by rw [← this, h5])
  ·rcases cases3 y _ h2 with ⟨k2, c2, rfl, g4, g5⟩ | ⟨g4, g5, g6⟩
   ·exfalso
    have := h.inj2 _ _ _ _ _ _ _ g1 g5
    rcases hsrc k2 c2 g4 with h5 | ⟨j, h5⟩
    ·exact g2 (by rw [this, h5])
    ·exact g3 j (by rw [this, h5])
   ·exact h.inj2 _ _ _ _ _ _ _ g1 g4
 ·rw [famM_lo _ _ _ _ _ (notF_big h2) h1] at h3; exact h3
 ·by_cases hxr : x = r
  ·rw [hxr, famM_r _ _ _ _ _ hrb] at h4; cases h4
  ·rw [famM_lo _ _ _ _ _ h3 hxr] at h4; exact h4
 ·rw [famM_lo _ _ _ _ _ (fk_lo hF) hfr] at h2
  exact h.fxr _ _ _ h1 h2
 ·rw [famM_inn2 _ _ _ _ _ h1 h2] at h3; exact h3
 ·rw [hs] at hx
  cases hbx : Nat.ble BIG x with
  | true =>
   rw [hbx] at hx
   by_cases hu : unF x = F
   ·have hxe : x = inn F (unK x) := by rw [← hu]; exact (inn_of hbx).symm
    simp only [hu, if_true, famr] at hx
    split at hx
    ·rename_i c hc
     cases hx
     right
     have h1 := h.row _ _ _ (hg _ _ hc)
     refine h1.mv (Fq.get_flat hc) ?_ hA
     rw [hxe, famM_inn _ _ _ _ _ hF, unK_inn, hc]
    ·cases hx
   ·simp only [hu, if_false] at hx
    refine .inl ⟨hx, by simp only [famM, hbx, hu, if_false], fun G hG => ?_⟩
    rcases lone_ok hl hx hG with h1 | h1
    ·rw [h1, hRb] at hbx; cases hbx
    ·exact h1
  | false =>
   rw [hbx] at hx
   simp only at hx
   split at hx
   ·cases hx
   rename_i hxr
   split at hx
   ·rename_i hxf
    cases hx
    right
    rcases h.row _ _ _ hf with ⟨g1, g2⟩ | ⟨gg, cap, cur, g1, g2, g3, g4, g5, g6⟩
    ·exact .inl ⟨by rw [hxf, famM_lo _ _ _ _ _ (fk_lo hF) hfr]; exact g1, rfl⟩
    ·exact .inr ⟨gg, cap, cur, by rw [hxf, famM_lo _ _ _ _ _ (fk_lo hF) hfr]; exact g1, g2, Nat.zero_le _, g4, g5, fun i j d hi hd => absurd hi (Nat.not_lt_zero _)⟩
   rename_i hxf
   split at hx
   ·rename_i hxR
    right
    rw [hxR]; exact hyR e q hx
   rename_i hxR
   refine .inl ⟨hx, famM_lo _ _ _ _ _ hbx hxr, fun G hG => ?_⟩
   rcases lone_ok hl hx hG with h1 | h1
   ·exact absurd h1 hxR
   ·exact h1
 ·rw [hs] at hx
  cases hbx : Nat.ble BIG x with
  | true =>
   rw [hbx] at hx
   by_cases hu : unF x = F
   ·have hxe : x = inn F (unK x) := by rw [← hu]; exact (inn_of hbx).symm
    simp only [hu, if_true, famr] at hx
    rw [hxe, famM_inn _ _ _ _ _ hF]
    split at hx
    ·cases hx
    ·rename_i hc; rw [hc]
   ·simp only [hu, if_false] at hx
    simp only [famM, hbx, hu, if_false]
    exact h.rown x hx
  | false =>
   rw [hbx] at hx
   simp only at hx
   split at hx
   ·rename_i hxr; rw [hxr]; exact famM_r _ _ _ _ _ hrb
   rename_i hxr
   split at hx
   ·cases hx
   rename_i hxf
   split at hx
   ·rename_i hxR
    rw [hxR, famM_lo _ _ _ _ _ hRb (Ne.symm hrR)]; exact hyn hx
   rename_i hxR
   rw [famM_lo _ _ _ _ _ hbx hxr]; exact h.rown x hx
end
end Go.Proofs.YtmoamglpocjhgaaGreat
namespace Go.Proofs.YtmoamglpocjhgaaGreat
open Go.RowKit Go.Deep
theorem PS.r_app {s s' : PS} {l : List (Nat × Option (TypeId × Sq))} (h : s'.row = l ++ s.row) (x : Nat) : s'.r x = match Nat.ble BIG x with | true => (match look l (FK + unF x) with | some y => famr (some y) (unK x) | none => s.r x) | false => (match look l x with | some y => y | none => s.r x) := by
 cases hb : Nat.ble BIG x with
 | true =>
  rw [PS.r_hi _ hb, PS.r_hi _ hb]
  unfold PS.inn
  rw [h, look_append]
  cases look l (FK + unF x) <;> rfl
 | false =>
  rw [PS.r_lo _ hb, PS.r_lo _ hb, h, look_append]
  cases look l x <;> rfl
def famOf : Sq → Fq
 | .intss X => .ints (X.map some) | .pairss X => .pairs (X.map some) | .boolss X => .bools (X.map some) | .raises X => .ints (X.map fun x => some x.2) | _ => .ints []
theorem dF_fam (q : Sq) : dF q = .fam (famOf q) := by cases q <;> rfl
theorem famOf_get {q : Sq} (hq : q.deep = true) (i : Nat) : (famOf q).get i = if i < q.len then some (q.nn i) else none := by
 have := famr_dF hq 0 i
 rw [dF_fam] at this
 simp only [famr] at this
 cases h : (famOf q).get i with
 | none => rw [h] at this; split at this <;> simp_all
 | some c => rw [h] at this; split at this <;> simp_all
theorem fk_ne {F r : Nat} (hF : F < 4294967296) (hr : notF r = true) : FK + F ≠ r := fun e => by
 have h2 := notF_fk (inn F 0)
 rw [fk_unF hF, e] at h2
 rw [h2] at hr; cases hr
theorem look_one' {α : Type} (k : Nat) (x : α) (i : Nat) : look [(k, x)] i = if k = i then some x else none := by
 by_cases h : k = i
 ·subst h; rw [look_cons_self, if_pos rfl]
 ·rw [look_cons_ne h, if_neg h]; rfl
theorem look_two' {α : Type} (k l : Nat) (x y : α) (i : Nat) : look [(k, x), (l, y)] i = if k = i then some x else if l = i then some y else none := by
 by_cases h : k = i
 ·subst h; rw [look_cons_self, if_pos rfl]
 ·rw [look_cons_ne h, if_neg h]; exact look_one' l y i
section
variable {C : Cx} {tm : List (Nat × D)} {rw' : List (Nat × Option (TypeId × Sq))} {bx : List (Nat × Option (List D))} {s' : PS}
theorem En.newFam (F : Nat) (te : TypeId) (fq : Fq) (h0 : fq.len = 0) (hl : lone ⟨tm, rw', bx⟩ 999999 F = true) (hl2 : PS.r ⟨tm, rw', bx⟩ 999999 = none) (hN : PS.r ⟨tm, rw', bx⟩ (FK + F) = none) (hO : ∀ u, C.O0.fr (FK + F) ≠ some u)
  (hnf : nf ⟨(PS.killX ⟨tm, rw', bx⟩ 999999).tmp, (FK + F, some (te, .fam fq)) :: rw', (PS.killX ⟨tm, rw', bx⟩ 999999).box⟩ = some s') (hF : Nat.blt F 4294967296 = true := by rfl) : En C ⟨tm, rw', bx⟩ s' := ⟨fun M a w h => by
 rw [nf_ok hnf]
 rw [Nat.blt_eq] at hF
 have hget : ∀ k, fq.get k = none := fun k => by
  cases fq <;> simp only [Fq.len, List.length_eq_zero_iff] at h0 <;> subst h0 <;> rfl
 let M' : Mp := ⟨M.β, fun x => if x = FK + F then some none else M.γ x⟩
 have hMi : ∀ G k, M'.γ (inn G k) = M.γ (inn G k) := fun G k => by
  have : inn G k ≠ FK + F := fun e => by have h1 := inn_hi G k; rw [e, fk_lo hF] at h1; cases h1
  simp [M', this]
 have hsub : ∀ x k c z, M'.γ x = some (some (k, c, z)) → M.γ x = some (some (k, c, z)) := fun x k c z hx => by
  simp only [M'] at hx
  split at hx
  ·cases hx
  ·exact hx
 have hown : ∀ k, M'.owned k → M.owned k := by
  rintro k (⟨b, hb⟩ | ⟨y, c, z, hy⟩)
  ·exact .inl ⟨b, hb⟩
  ·exact .inr ⟨y, c, z, hsub _ _ _ _ hy⟩
 have hA : ∀ f b, b < w.heap.size → Ow (Fs C.w0 C.O0) M f b → Ow (Fs C.w0 C.O0) M' f b ∧ b < w.heap.size ∧ w.heap[b]? = w.heap[b]? := fun f b h1 h2 => ⟨⟨fun h3 => h2.1 (hown b h3), h2.2⟩, h1, rfl⟩
 have hγ' : ∀ x y, x ≠ 999999 → notF x = true → M'.γ x = some y → M.γ x = some y := fun x y _ h2 h3 => by
  simp only [M'] at h3
  rw [if_neg (fun e => fk_ne hF h2 e.symm)] at h3
  exact h3
 refine ⟨M', h.remap 999999 F hF (fun _ => rfl) (fun x k c z hx => ⟨x, hsub _ _ _ _ hx⟩) (fun x y k c z c' z' h1 h2 => h.inj2 _ _ _ _ _ _ _ (hsub _ _ _ _ h1) (hsub _ _ _ _ h2)) hγ' (fun x y h1 h2 h3 h4 => ?_) (.inl (by decide)) (fun u u' h1 _ => absurd h1 (hO u)) (fun G k y _ _ h3 => by rw [← hMi]; exact h3) (fun t => ?_) (fun b => ?_) (fun x e q hx => ?_) fun x hx => ?_⟩
 ·simp only [M'] at h4
  rw [if_neg h1] at h4
  exact h4
 ·have : PS.t ⟨(PS.killX ⟨tm, rw', bx⟩ 999999).tmp, (FK + F, some (te, .fam fq)) :: rw', (PS.killX ⟨tm, rw', bx⟩ 999999).box⟩ t = klX 999999 (PS.t ⟨tm, rw', bx⟩ t) := PS.t_killX ⟨tm, rw', bx⟩ 999999 t
  rw [this]
  exact VR.klX hA hγ' (fun _ _ h => h) (h.tmp t)
 ·exact PS.b_killX ⟨tm, rw', bx⟩ 999999 b
 ·rw [PS.r_app (s := ⟨tm, rw', bx⟩) (l := [(FK + F, some (te, .fam fq))]) rfl, look_one', look_one'] at hx
  cases hbx : Nat.ble BIG x with
  | true =>
   rw [hbx] at hx
   have hxf : x ≠ FK + F := fun e => by rw [e, fk_lo hF] at hbx; cases hbx
   have hMx : M'.γ x = M.γ x := by simp [M', hxf]
   by_cases hu : FK + F = FK + unF x
   ·simp only [hu, if_true, famr, hget] at hx
    cases hx
   ·simp only [hu, if_false] at hx
    refine .inl ⟨hx, hMx, fun G hG => ?_⟩
    rcases lone_ok hl hx hG with h1 | h1
    ·rw [h1, hl2] at hx; cases hx
    ·exact h1
  | false =>
   rw [hbx] at hx
   by_cases hxf : FK + F = x
   ·subst hxf
    simp only [if_true] at hx
    cases hx
    exact .inr (.inl ⟨by simp [M'], rfl⟩)
   ·simp only [hxf, if_false] at hx
    refine .inl ⟨hx, by simp [M', Ne.symm hxf], fun G hG => ?_⟩
    rcases lone_ok hl hx hG with h1 | h1
    ·rw [h1, hl2] at hx; cases hx
    ·exact h1
 ·rw [PS.r_app (s := ⟨tm, rw', bx⟩) (l := [(FK + F, some (te, .fam fq))]) rfl, look_one', look_one'] at hx
  cases hbx : Nat.ble BIG x with
  | true =>
   rw [hbx] at hx
   have hxf : x ≠ FK + F := fun e => by rw [e, fk_lo hF] at hbx; cases hbx
   have hMx : M'.γ x = M.γ x := by simp [M', hxf]
   rw [hMx]
   refine h.rown x ?_
   by_cases hu : FK + F = FK + unF x
   ·rw [PS.r_hi _ hbx, PS.inn_r, ← hu, hN]; rfl
   ·simp only [hu, if_false] at hx; exact hx
  | false =>
   rw [hbx] at hx
   by_cases hxf : FK + F = x
   ·simp only [hxf, if_true] at hx; cases hx
   ·simp only [hxf, if_false] at hx
    simp only [M', Ne.symm hxf, if_false]
    exact h.rown x hx⟩
theorem En.asRefs (R F : Nat) {et : TypeId} {q qR : Sq} (hR : PS.r ⟨tm, rw', bx⟩ R = some (et, q)) (h0 : q.len = 0) (h1 : qR.len = 0) (hz : qR.sz = q.sz) (hFR : notF R = true := by rfl) : En C ⟨tm, rw', bx⟩ ⟨tm, (R, some (et, qR)) :: rw', bx⟩ := ⟨fun M a w h => by
 have hPS : ∀ x, PS.r ⟨tm, (R, some (et, qR)) :: rw', bx⟩ x = if R = x then some (et, qR) else PS.r ⟨tm, rw', bx⟩ x := fun x => PS.r_setR ⟨tm, rw', bx⟩ R (some (et, qR)) x hFR
 refine ⟨M, h.fr, h.dfr, h.sz, h.tmp, h.box, h.boxn, fun x e p hx => ?_, fun x hx => ?_, h.low, h.inj1, h.inj2, h.inj3, h.nle, h.fxb, h.fxr⟩
 ·rw [hPS] at hx
  split at hx
  ·rename_i hxR
   cases hx
   subst hxR
   rcases h.row _ _ _ hR with ⟨g1, g2⟩ | ⟨g, cap, cur, g1, g2, g3, g4, g5, g6⟩
   ·exact .inl ⟨g1, h1⟩
   ·exact .inr ⟨g, cap, cur, by rw [hz]; exact g1, g2, by omega, g4, by rw [hz]; exact g5, fun i j d hi hd => by omega⟩
  ·exact h.row x e p hx
 ·rw [hPS] at hx
  split at hx
  ·cases hx
  ·exact h.rown x hx⟩
theorem En.adopt (t r R F : Nat) {n : Nat} {et te : TypeId} {c q : Sq} {fq fq' : Fq} (ht : PS.t ⟨tm, rw', bx⟩ t = .row r 0 n) (hr : PS.r ⟨tm, rw', bx⟩ r = some (te, c)) (hn : n = c.len) (hf : PS.r ⟨tm, rw', bx⟩ (FK + F) = some (te, .fam fq)) (hR : PS.r ⟨tm, rw', bx⟩ R = some (et, dR F q))
  (hq : q.deep = true) (hlen : q.len = fq.len) (hp : fq.push c = some fq') (hl : lone ⟨tm, rw', bx⟩ R F = true) {d' : D} (hd' : d' = .irow F fq.len n)
  (hnf : nf ⟨(t, d') :: (PS.killX ⟨tm, rw', bx⟩ r).tmp, (r, none) :: (FK + F, some (te, .fam fq')) :: rw', (PS.killX ⟨tm, rw', bx⟩ r).box⟩ = some s') (hF : Nat.blt F 4294967296 = true := by rfl) (hr1 : Nat.blt r 1000000 = true := by rfl) (hFR : notF R = true := by rfl) (hrR : Nat.beq r R = false := by rfl) : En C ⟨tm, rw', bx⟩ s' := ⟨fun M a w h => by
 rw [nf_ok hnf]
 rw [Nat.blt_eq] at hF hr1
 subst hn hd'
 have hne : r ≠ R := fun e => by subst e; rw [Nat.beq_refl] at hrR; cases hrR
 have hget := Fq.get_push hp
 have hrn := notF_lo hr1
 let g : Nat → Nat := fun k => if k = fq.len then r else inn F k
 have hinnr : ∀ k, inn F k ≠ r := fun k e => by have := inn_hi F k; rw [e, notF_big hrn] at this; cases this
 have hown : ∀ k, (famM M r F fq' g).owned k → M.owned k := by
  rintro k (⟨b, hb⟩ | ⟨y, c, z, hy⟩)
  ·exact .inl ⟨b, hb⟩
  ·simp only [famM] at hy
   split at hy
   ·split at hy
    ·split at hy
     ·exact .inr ⟨_, c, z, hy⟩
     ·cases hy
    ·exact .inr ⟨_, c, z, hy⟩
   ·split at hy
    ·cases hy
    ·exact .inr ⟨_, c, z, hy⟩
 have hA : ∀ f b, b < w.heap.size → Ow (Fs C.w0 C.O0) M f b → Ow (Fs C.w0 C.O0) (famM M r F fq' g) f b ∧ b < w.heap.size ∧ w.heap[b]? = w.heap[b]? := fun f b h1 h2 => ⟨⟨fun h3 => h2.1 (hown b h3), h2.2⟩, h1, rfl⟩
 have hγ' : ∀ x y, x ≠ r → notF x = true → (famM M r F fq' g).γ x = some y → M.γ x = some y := fun x y h1 h2 h3 => by rw [famM_lo _ _ _ _ _ (notF_big h2) h1] at h3; exact h3
 have hgM : ∀ k, k ≠ fq.len → ∀ y, (famM M r F fq' g).γ (inn F k) = some y → M.γ (inn F k) = some y := fun k hk y hy => by
  rw [famM_inn _ _ _ _ _ hF] at hy
  split at hy
  ·simpa [g, hk] using hy
  ·cases hy
 refine ⟨_, h.refam r R F hF (fq' := fq') g (yR := some (et, dR F q)) hr1 hFR hne hf hl (fun k c' hc => ?_) (fun k k' c1 c2 h1 h2 h3 => ?_) (fun k c' hc => ?_) (fun x => ?_) (fun e p hx => ?_) (fun hx => by cases hx) (fun t' => ?_) fun b => ?_⟩
 ·rw [hget] at hc
  by_cases hk : k = fq.len
  ·rw [if_pos hk] at hc
   cases hc
   simp [g, hk, hr]
  ·rw [if_neg hk] at hc
   simp only [g, hk, if_false]
   rw [fam_r hF hf, hc]
 ·simp only [g] at h3
  split at h3 <;> split at h3
  ·omega
  ·exact absurd h3.symm (hinnr _)
  ·exact absurd h3 (hinnr _)
  ·exact (inn_inj h3).2
 ·by_cases hk : k = fq.len
  ·exact .inl (by simp [g, hk])
  ·exact .inr ⟨k, by simp [g, hk]⟩
 ·rw [PS.r_app (s := ⟨tm, rw', bx⟩) (l := [(r, none), (FK + F, some (te, .fam fq'))]) rfl, look_two', look_two']
  cases hbx : Nat.ble BIG x with
  | true =>
   have h1 : r ≠ FK + unF x := fun e => by have := notF_fk x; rw [← e, hrn] at this; cases this
   simp only [h1, if_false]
   by_cases hu : unF x = F
   ·simp [hu]
   ·simp [hu, Ne.symm hu]
  | false =>
   simp only
   by_cases hxr : r = x
   ·simp [hxr]
   ·simp only [hxr, if_false, Ne.symm hxr]
    by_cases hxf : FK + F = x
    ·simp [hxf]
    ·simp only [hxf, if_false, Ne.symm hxf]
     by_cases hxR : x = R
     ·simp [hxR, hR]
     ·simp [hxR]
 ·cases hx
  rcases h.row _ _ _ hR with ⟨g1, g2⟩ | ⟨gg, cap, cur, g1, g2, g3, g4, g5, g6⟩
  ·exact .inl ⟨by rw [famM_lo _ _ _ _ _ (notF_big hFR) (Ne.symm hne)]; exact g1, g2⟩
  ·refine .inr ⟨gg, cap, cur, by rw [famM_lo _ _ _ _ _ (notF_big hFR) (Ne.symm hne)]; exact g1, g2, g3, g4, g5, fun i j d hi hd => ?_⟩
   have hv := g6 i j d hi hd
   rw [dR_len] at hi
   rcases dR_relem hq hi hd with ⟨rfl, _⟩ | ⟨x, rfl, _⟩
   ·exact hv.irow_mv (hgM i (by omega))
   ·rw [hv.int_inv]; exact .int _
 ·have hk := PS.t_killX ⟨tm, rw', bx⟩ r t'
  by_cases htt : t = t'
  ·subst htt
   have : PS.t ⟨(t, .irow F fq.len c.len) :: (PS.killX ⟨tm, rw', bx⟩ r).tmp, (r, none) :: (FK + F, some (te, .fam fq')) :: rw', (PS.killX ⟨tm, rw', bx⟩ r).box⟩ t = .irow F fq.len c.len := by simp [PS.t, look_cons_self]
   rw [this]
   have hv := h.tmp t
   rw [ht] at hv
   refine hv.irow_of fun x hx => ?_
   rw [famM_inn _ _ _ _ _ hF] at hx
   split at hx
   ·simpa [g] using hx
   ·cases hx
  ·have : PS.t ⟨(t, .irow F fq.len c.len) :: (PS.killX ⟨tm, rw', bx⟩ r).tmp, (r, none) :: (FK + F, some (te, .fam fq')) :: rw', (PS.killX ⟨tm, rw', bx⟩ r).box⟩ t' = PS.t (PS.killX ⟨tm, rw', bx⟩ r) t' := by simp [PS.t, look_cons_ne htt]
   rw [this, hk]
   exact VR.klX hA hγ' (fun _ _ h => h) (h.tmp t')
 ·exact PS.b_killX ⟨tm, rw', bx⟩ r b⟩
end
end Go.Proofs.YtmoamglpocjhgaaGreat
namespace Go.Proofs.YtmoamglpocjhgaaGreat
open Go.RowKit Go.Deep
section
variable {C : Cx} {tm : List (Nat × D)} {rw' : List (Nat × Option (TypeId × Sq))} {bx : List (Nat × Option (List D))} {s' : PS}
theorem En.pull (t r F k : Nat) {n : Nat} {te : TypeId} {c : Sq} {fq : Fq} (ht : PS.t ⟨tm, rw', bx⟩ t = .irow F k n) (hn : n = c.len) (hc : fq.get k = some c) (hf : PS.r ⟨tm, rw', bx⟩ (FK + F) = some (te, .fam fq)) (hfr : frB ⟨tm, rw', bx⟩ noB (isR r) = true) (hrn : PS.r ⟨tm, rw', bx⟩ r = none)
  (hnf : nf ⟨(t, .row r 0 n) :: (PS.killX ⟨tm, rw', bx⟩ r).tmp, (r, some (te, c)) :: (FK + F, some (te, .fam (fq.hole k))) :: rw', (PS.killX ⟨tm, rw', bx⟩ r).box⟩ = some s') (hF : Nat.blt F 4294967296 = true := by rfl) (hr1 : Nat.blt r 1000000 = true := by rfl) : En C ⟨tm, rw', bx⟩ s' := ⟨fun M a w h => by
 rw [nf_ok hnf]
 rw [Nat.blt_eq] at hF hr1
 subst hn
 have hrn' := notF_lo hr1
 have hrb := notF_big hrn'
 have hget := Fq.get_hole fq k
 have hfr' : FK + F ≠ r := fk_ne hF hrn'
 have hir : ∀ G l, inn G l ≠ r := fun G l e => by have := inn_hi G l; rw [e, hrb] at this; cases this
 have hinn := fam_r hF hf k
 rw [hc] at hinn
 let M' : Mp := ⟨M.β, fun x => if x = r then M.γ (inn F k) else if x = inn F k then none else M.γ x⟩
 have m1 : M'.γ r = M.γ (inn F k) := by simp [M']
 have m2 : ∀ x, x ≠ r → x ≠ inn F k → M'.γ x = M.γ x := fun x h1 h2 => by simp [M', h1, h2]
 have m3 : M'.γ (inn F k) = none := by simp [M', hir]
 have m4 : ∀ x y, x ≠ r → M'.γ x = some y → M.γ x = some y := fun x y h1 h2 => by
  by_cases hx : x = inn F k
  ·rw [hx, m3] at h2; cases h2
  ·rw [m2 x h1 hx] at h2; exact h2
 have hsub : ∀ x k c z, M'.γ x = some (some (k, c, z)) → ∃ y, M.γ y = some (some (k, c, z)) := fun x k' c z hx => by
  by_cases h1 : x = r
  ·rw [h1, m1] at hx; exact ⟨_, hx⟩
  ·exact ⟨x, m4 x _ h1 hx⟩
 have hown : ∀ k, M'.owned k → M.owned k := by
  rintro k' (⟨b, hb⟩ | ⟨y, c, z, hy⟩)
  ·exact .inl ⟨b, hb⟩
  ·obtain ⟨x, hx⟩ := hsub _ _ _ _ hy; exact .inr ⟨x, c, z, hx⟩
 have hA : ∀ f b, b < w.heap.size → Ow (Fs C.w0 C.O0) M f b → Ow (Fs C.w0 C.O0) M' f b ∧ b < w.heap.size ∧ w.heap[b]? = w.heap[b]? := fun f b h1 h2 => ⟨⟨fun h3 => h2.1 (hown b h3), h2.2⟩, h1, rfl⟩
 have hγ' : ∀ x y, x ≠ r → notF x = true → M'.γ x = some y → M.γ x = some y := fun x y h1 _ h3 => m4 x y h1 h3
 have hrow0 : ∀ x e q, s'.r x = some (e, q) → True := fun _ _ _ _ => trivial
 have mvrow : ∀ x e q, PS.r ⟨tm, rw', bx⟩ x = some (e, q) → x ≠ r → x ≠ inn F k → RowAt (Fs C.w0 C.O0) M' w x e q := fun x e q hx h1 h2 => by
  rcases h.row x e q hx with ⟨g1, g2⟩ | ⟨g, cap, cur, g1, g2, g3, g4, g5, g6⟩
  ·exact .inl ⟨(m2 x h1 h2).trans g1, g2⟩
  ·exact .inr ⟨g, cap, cur, (m2 x h1 h2).trans g1, g2, g3, g4, g5, fun i j d hi hd => (g6 i j d hi hd).relem_any2 hd hA fun G _ l y hy => m4 _ y (hir G l) hy⟩
 refine ⟨M', h.remap r F hF (fun _ => rfl) hsub (fun x y k' c z c' z' h1 h2 => ?_) hγ' (fun x y h1 h2 h3 h4 => ?_) (.inl hr1) (fun u u' h1 h2 => ?_) (fun G l y _ _ h3 => m4 _ y (hir G l) h3) (fun t' => ?_) (fun b => ?_) (fun x e q hx => .inr ?_) fun x hx => ?_⟩
 ·by_cases hx : x = r
  ·by_cases hy : y = r
   ·rw [hx, hy]
   ·rw [hx, m1] at h1
    by_cases hyk : y = inn F k
    ·rw [hyk, m3] at h2; cases h2
    ·rw [m2 y hy hyk] at h2
     exact absurd (h.inj2 _ _ _ _ _ _ _ h1 h2).symm hyk
  ·by_cases hy : y = r
   ·rw [hy, m1] at h2
    by_cases hxk : x = inn F k
    ·rw [hxk, m3] at h1; cases h1
    ·rw [m2 x hx hxk] at h1
     exact absurd (h.inj2 _ _ _ _ _ _ _ h1 h2) hxk
   ·exact h.inj2 _ _ _ _ _ _ _ (m4 _ _ hx h1) (m4 _ _ hy h2)
 ·by_cases hx : x = r
  ·rw [hx, hrn'] at h2; cases h2
  ·exact m4 x y hx h4
 ·exact h.fxr _ _ _ h1 (m4 _ _ hfr' h2)
 ·have hk := PS.t_killX ⟨tm, rw', bx⟩ r t'
  by_cases htt : t = t'
  ·subst htt
   have : PS.t ⟨(t, .row r 0 c.len) :: (PS.killX ⟨tm, rw', bx⟩ r).tmp, (r, some (te, c)) :: (FK + F, some (te, .fam (fq.hole k))) :: rw', (PS.killX ⟨tm, rw', bx⟩ r).box⟩ t = .row r 0 c.len := by simp [PS.t, look_cons_self]
   rw [this]
   have hv := h.tmp t
   rw [ht] at hv
   generalize a.tmps.getD t undef = v at hv
   cases hv with
   | irow _ _ _ _ g1 g2 => exact .row _ _ _ _ g1 fun x hx => g2 x (by rw [← m1]; exact hx)
  ·have : PS.t ⟨(t, .row r 0 c.len) :: (PS.killX ⟨tm, rw', bx⟩ r).tmp, (r, some (te, c)) :: (FK + F, some (te, .fam (fq.hole k))) :: rw', (PS.killX ⟨tm, rw', bx⟩ r).box⟩ t' = PS.t (PS.killX ⟨tm, rw', bx⟩ r) t' := by simp [PS.t, look_cons_ne htt]
   rw [this, hk]
   exact VR.klX hA hγ' (fun _ _ h => h) (h.tmp t')
 ·exact PS.b_killX ⟨tm, rw', bx⟩ r b
 ·rw [PS.r_app (s := ⟨tm, rw', bx⟩) (l := [(r, some (te, c)), (FK + F, some (te, .fam (fq.hole k)))]) rfl, look_two', look_two'] at hx
  cases hbx : Nat.ble BIG x with
  | true =>
   rw [hbx] at hx
   have h1 : r ≠ FK + unF x := fun e => by have := notF_fk x; rw [← e, hrn'] at this; cases this
   have hxr : x ≠ r := fun e => by rw [e, hrb] at hbx; cases hbx
   simp only [h1, if_false] at hx
   by_cases hu : unF x = F
   ·have hxe : x = inn F (unK x) := by rw [← hu]; exact (inn_of hbx).symm
    simp only [hu, if_true, famr, hget] at hx
    by_cases hk : unK x = k
    ·simp only [hk, if_true] at hx; cases hx
    ·simp only [hk, if_false] at hx
     split at hx
     ·rename_i c' hc'
      cases hx
      refine mvrow x _ _ ?_ hxr (fun e => hk (by rw [e, unK_inn]))
      rw [hxe, fam_r hF hf, hc']
     ·cases hx
   ·simp only [Ne.symm hu, Nat.add_left_cancel_iff, if_false] at hx
    exact mvrow x e q hx hxr (fun e' => hu (by rw [e', unF_inn, Nat.mod_eq_of_lt hF]))
  | false =>
   rw [hbx] at hx
   have hxk : x ≠ inn F k := fun e => by rw [e, inn_hi] at hbx; cases hbx
   by_cases hxr : r = x
   ·subst hxr
    simp only [if_true] at hx
    cases hx
    exact (h.row _ _ _ hinn).mv (Fq.get_flat hc) m1 hA
   ·simp only [hxr, if_false] at hx
    by_cases hxf : FK + F = x
    ·subst hxf
     simp only [if_true] at hx
     cases hx
     rcases h.row _ _ _ hf with ⟨g1, g2⟩ | ⟨gg, cap, cur, g1, g2, g3, g4, g5, g6⟩
     ·exact .inl ⟨(m2 _ hfr' hxk).trans g1, rfl⟩
     ·exact .inr ⟨gg, cap, cur, (m2 _ hfr' hxk).trans g1, g2, Nat.zero_le _, g4, g5, fun i j d hi hd => absurd hi (Nat.not_lt_zero _)⟩
    ·simp only [hxf, if_false] at hx
     exact mvrow x e q hx (Ne.symm hxr) hxk
 ·rw [PS.r_app (s := ⟨tm, rw', bx⟩) (l := [(r, some (te, c)), (FK + F, some (te, .fam (fq.hole k)))]) rfl, look_two', look_two'] at hx
  cases hbx : Nat.ble BIG x with
  | true =>
   rw [hbx] at hx
   have h1 : r ≠ FK + unF x := fun e => by have := notF_fk x; rw [← e, hrn'] at this; cases this
   have hxr : x ≠ r := fun e => by rw [e, hrb] at hbx; cases hbx
   simp only [h1, if_false] at hx
   by_cases hxk : x = inn F k
   ·rw [hxk]; exact m3
   rw [m2 x hxr hxk]
   refine h.rown x ?_
   by_cases hu : unF x = F
   ·have hxe : x = inn F (unK x) := by rw [← hu]; exact (inn_of hbx).symm
    simp only [hu, if_true, famr, hget] at hx
    have hk : unK x ≠ k := fun e => hxk (by rw [hxe, e])
    simp only [hk, if_false] at hx
    rw [hxe, fam_r hF hf]
    split at hx
    ·cases hx
    ·rename_i hc'; rw [hc']
   ·simp only [Ne.symm hu, Nat.add_left_cancel_iff, if_false] at hx
    exact hx
  | false =>
   rw [hbx] at hx
   have hxk : x ≠ inn F k := fun e => by rw [e, inn_hi] at hbx; cases hbx
   by_cases hxr : r = x
   ·simp only [hxr, if_true] at hx; cases hx
   ·simp only [hxr, if_false] at hx
    by_cases hxf : FK + F = x
    ·simp only [hxf, if_true] at hx; cases hx
    ·simp only [hxf, if_false] at hx
     rw [m2 x (Ne.symm hxr) hxk]; exact h.rown x hx⟩
end
end Go.Proofs.YtmoamglpocjhgaaGreat
namespace Go.Proofs.YtmoamglpocjhgaaGreat
open Go.RowKit Go.Deep
section
variable {w0 : World} {O0 : Hd} {n : Nat} {M : Mp} {s : PS} {a : Act} {w : World}
theorem Rel.newRowR (h : Rel w0 O0 n M s a w) {r m : Nat} {e : TypeId} {q : Sq} {cur : Array Value} (hq : q.len = m) (hm : m ≤ maxLen) (hc : cur.size = m * q.sz)
  (hv : ∀ i j d, i < m → (q.relem i)[j]? = some d → VR M (Ow (Fs w0 O0) M) w d (cur.getD (i * q.sz + j) undef)) (hf : Fresh s noB (isR r)) (hlo : r < 1000000) :
  ∃ M', Rel w0 O0 n M' (s.setR r (some (e, q))) a (w.alloc (.cells cur e)) ∧ VR M' (Ow (Fs w0 O0) M') (w.alloc (.cells cur e)) (.row r 0 m) (.slice (some ⟨w.heap.size, 0, none⟩) m m) := by
 have hF := notF_lo hlo
 let M' : Mp := ⟨M.β, fun x => if x = r then some (some (w.heap.size, m, q.sz)) else M.γ x⟩
 have m1 : M'.γ r = some (some (w.heap.size, m, q.sz)) := by simp [M']
 have m2 : ∀ x, x ≠ r → M'.γ x = M.γ x := fun x hx => by simp [M', hx]
 have hown : ∀ k, M'.owned k → M.owned k ∨ k = w.heap.size := by
  rintro k (⟨x, hx⟩ | ⟨y, c, z, hy⟩)
  ·exact .inl (.inl ⟨x, hx⟩)
  ·by_cases hyr : y = r
   ·rw [hyr, m1] at hy; cases hy; exact .inr rfl
   ·rw [m2 y hyr] at hy; exact .inl (.inr ⟨y, c, z, hy⟩)
 have hA : ∀ f k, k < w.heap.size → Ow (Fs w0 O0) M f k → Ow (Fs w0 O0) M' f k ∧ k < (w.alloc (.cells cur e)).heap.size ∧ (w.alloc (.cells cur e)).heap[k]? = w.heap[k]? := fun f k h1 h2 =>
  ⟨⟨fun h3 => by rcases hown k h3 with h4 | h4; exact h2.1 h4; omega, h2.2⟩, by simp; omega, Below.heap_alloc w _ k h1⟩
 have hγ : ∀ x y, isR r x = false → M'.γ x = some y → M.γ x = some y := fun x y h1 h2 => by
  rw [m2 x (fun e => by subst e; simp [isR, Nat.beq_refl] at h1)] at h2; exact h2
 have hrb := notF_big hF
 have hbig : ∀ x y, BIG ≤ x → M'.γ x = some y → M.γ x = some y := fun x y hx h2 => by
  rw [m2 x (fun e => by rw [← e, Nat.ble_eq_true_of_le hx] at hrb; cases hrb)] at h2; exact h2
 have hno : ∀ y c z, M.γ y ≠ some (some (w.heap.size, c, z)) := fun y c z hy => by have := h.lt _ (.inr ⟨y, c, z, hy⟩); omega
 refine ⟨M', ⟨?_, h.dfr, h.sz, fun t => ?_, fun x ds hx => ?_, fun x hx => h.boxn x hx, fun x e' p hx => ?_, fun x hx => ?_, fun k hk => ?_, h.inj1, fun x y k c z c' z' h1 h2 => ?_, fun x y k c z h1 h2 => ?_, h.nle, h.fxb, fun x u u' h1 h2 => ?_⟩, ?_⟩
 ·exact h.fr.step rfl rfl rfl (by simp) fun k h1 _ => Below.heap_alloc w _ k (Nat.lt_of_lt_of_le h1 h.fr.size)
 ·exact VR.new (b := noB) (r := isR r) hA hγ (fun _ _ _ h => h) (hf.t t) (h.tmp t) (hi := fun _ => hbig)
 ·obtain ⟨k, cur', e', h1, h2, h3, h4⟩ := h.box x ds hx
  have hlt := (Array.getElem?_eq_some_iff.1 h2).1
  exact ⟨k, cur', e', h1, (Below.heap_alloc w _ k hlt).trans h2, h3, fun j d hd => VR.newS (b := noB) (r := isR r) hA hγ (fun _ _ _ h => h) (hf.b _ _ hx d (List.mem_of_getElem? hd)) (h4 j d hd) (hi := fun _ => hbig)⟩
 ·rw [PS.r_setR _ _ _ _ hF] at hx
  by_cases hxr : r = x
  ·subst hxr
   rw [if_pos rfl] at hx
   cases hx
   exact .inr ⟨w.heap.size, m, cur, m1, heap_alloc_new w _, by omega, hm, hc, fun i j d hi hd => (hv i j d (by omega) hd).relem_any hd hA hbig⟩
  ·rw [if_neg hxr] at hx
   rcases h.row x e' p hx with ⟨h1, h2⟩ | ⟨g, cap, cur', h1, h2, h3, h4, h5, h6⟩
   ·exact .inl ⟨(m2 x (Ne.symm hxr)).trans h1, h2⟩
   ·have hlt := (Array.getElem?_eq_some_iff.1 h2).1
    exact .inr ⟨g, cap, cur', (m2 x (Ne.symm hxr)).trans h1, (Below.heap_alloc w _ g hlt).trans h2, h3, h4, h5, fun i j d hi hd => (h6 i j d hi hd).relem_any hd hA hbig⟩
 ·rw [PS.r_setR _ _ _ _ hF] at hx
  by_cases hxr : r = x
  ·rw [if_pos hxr] at hx; cases hx
  ·rw [if_neg hxr] at hx; exact (m2 x (Ne.symm hxr)).trans (h.rown x hx)
 ·rcases hown k hk with h1 | rfl
  ·exact h.low k h1
  ·exact .inl h.fr.size
 ·by_cases hx : x = r
  ·by_cases hy : y = r
   ·rw [hx, hy]
   ·rw [hx, m1] at h1; cases h1; rw [m2 y hy] at h2; exact absurd h2 (hno _ _ _)
  ·by_cases hy : y = r
   ·rw [hy, m1] at h2; cases h2; rw [m2 x hx] at h1; exact absurd h1 (hno _ _ _)
   ·rw [m2 x hx] at h1; rw [m2 y hy] at h2; exact h.inj2 _ _ _ _ _ _ _ h1 h2
 ·by_cases hy : y = r
  ·rw [hy, m1] at h2; cases h2
   have := h.lt _ (.inl ⟨x, h1⟩); omega
  ·rw [m2 y hy] at h2; exact h.inj3 _ _ _ _ _ h1 h2
 ·have h3 := (O0.lor x u h1).1
  rw [m2 x (by omega)] at h2
  exact h.fxr x u u' h1 h2
 ·exact .row _ _ _ _ rfl fun x hx => by rw [m1] at hx; cases hx; exact ⟨by omega, _, by rw [Nat.sub_zero], fun _ => by rw [Nat.zero_mul]⟩
end
def refOf : D → Option Sq
 | .irow F k n => some (.irefs F [(k, n)])
 | .agg [.int p, .irow F k n] => some (.rrefs F [(p, k, n)])
 | _ => none
theorem refOf_ok {d : D} {q : Sq} (h : refOf d = some q) : d.flat = true ∧ d.cells = q.relem 0 ∧ q.len = 1 := by
 unfold refOf at h
 split at h
 ·cases h; exact ⟨rfl, rfl, rfl⟩
 ·cases h; exact ⟨rfl, rfl, rfl⟩
 ·cases h
section
variable {C : Cx} {ops : Array Oper} {K : PS → Prop} {o : Oper} {rest : List Oper} {s : PS} {TT : List (Nat × Ty)} {tm : List (Nat × D)} {rw' : List (Nat × Option (TypeId × Sq))} {bx : List (Nat × Option (List D))}
theorem oBuildI (hT : TTOK C.P TT) (hg : o.guard = none) {t e : TypeId} {k q : Sq} {by' b : Nat} {x : Operand} {d : D} (hop : o.op = .buildSlice t 1 #[(0, x)]) (hd : o.dst = some b) (hy : look TT t = some (.sl e k by')) (hx : (PS.ev ⟨tm, rw', bx⟩ x) = d)
  (hq : refOf d = some q) (hz : Nat.beq k.sz q.sz = true) (hbig : Nat.ble (1 * k.sz) 16777216 = true) (hn : Nat.blt b C.n = true) (hf : frB ⟨tm, rw', bx⟩ noB (isR b) = true) (h : VO C ops K rest ⟨(b, .row b 0 1) :: tm, (b, some (e, q)) :: rw', bx⟩) : VO C ops K (o :: rest) ⟨tm, rw', bx⟩ := by
 refine vOp hg ⟨fun M a w Q K' hrl hk => ?_⟩
 have hev := hrl.ev x
 rw [hx] at hev
 obtain ⟨r1, r2, r3⟩ := refOf_ok hq
 have hz' := Nat.eq_of_beq_eq_true hz
 obtain ⟨c1, c2, _⟩ := hev.cells r1
 rw [r2, Sq.relem_len, ← hz'] at c1
 have hvs : ∀ v ∈ [a.eval x], v.cells.size = k.sz := by intro v hv; simp at hv; subst hv; exact c1.symm
 have hbig' := Nat.le_of_ble_eq_true hbig
 have hfill : ∀ cells : Array Value, cells.size = 1 * k.sz → Instr.fill (fun i => some (i * k.sz, k.sz)) cells (idxL 0 [a.eval x]) = some ([a.eval x].flatMap fun v => v.cells.toList).toArray := fun cells hc => by
  have := fill_all k.sz [a.eval x] 0 cells hvs (by rw [hc]; rfl)
  simpa using this
 have hrun : (execOp a.eval o).run C.P w = .ok (.value (.slice (some ⟨w.heap.size, 0, none⟩) 1 1)) (w.alloc (.cells ([a.eval x].flatMap fun v => v.cells.toList).toArray e)) := by
  have hparts : ((#[(0, x)] : Array (Nat × Operand)).map fun (p : Nat × Operand) => (p.1, a.eval p.2)).toList = idxL 0 [a.eval x] := by simp [idxL]
  have := run_buildSlice (hT t _ hy) w 1 _ ([a.eval x].flatMap fun v => v.cells.toList).toArray (by omega) (fun cells hc => by rw [hparts]; exact hfill cells hc)
  unfold execOp
  rw [hop]
  simp only [Sem.run_bind, this, Result.andThen_ok]
  rfl
 obtain ⟨M', h1, h2⟩ := hrl.newRowR (r := b) (m := 1) (e := e) (q := q) (cur := ([a.eval x].flatMap fun v => v.cells.toList).toArray) r3 (by unfold maxLen; omega)
  (by simp only [List.size_toArray]; rw [flatMap_len _ hvs, ← hz']; rfl) (fun i j d' hi hd' => by
   obtain rfl : i = 0 := by omega
   have := c2 j d' (by rw [r2]; exact hd')
   simpa using this) (frB_ok hf) (by have h1000 := hrl.nle; rw [Nat.blt_eq] at hn; omega)
 unfold Oper.wp
 rw [hrun]
 refine hk M' _ _ _ h ?_
 rw [hd]
 exact h1.put (o := some b) hn h2
end
end Go.Proofs.YtmoamglpocjhgaaGreat
namespace Go.Proofs.YtmoamglpocjhgaaGreat
open Go.RowKit Go.Deep
section
variable {P : Program} {w0 : World} {O0 : Hd} {n : Nat} {M : Mp} {s : PS} {a : Act} {w w' : World}
theorem irow_form (h : Rel w0 O0 n M s a w) {F k m : Nat} {te : TypeId} {c : Sq} {v : Value} (hr : s.r (inn F k) = some (te, c)) (hv : VR M (Ow (Fs w0 O0) M) w (.irow F k m) v) :
  (M.γ (inn F k) = some none ∧ c.len = 0 ∧ m = 0 ∧ ∃ ao, v = .slice ao 0 0) ∨ ∃ g cap cur, M.γ (inn F k) = some (some (g, cap, c.sz)) ∧ v = .slice (some ⟨g, 0, none⟩) m cap ∧ m ≤ cap ∧ w.heap[g]? = some (.cells cur te (0, 0)) ∧ c.len ≤ cap ∧ cap ≤ maxLen ∧ cur.size = cap * c.sz ∧
   ∀ i j d, i < c.len → (c.relem i)[j]? = some d → VR M (Ow (Fs w0 O0) M) w d (cur.getD (i * c.sz + j) undef) := by
 cases hv with
 | irow _ _ _ _ h1 g2 =>
  rcases h.row _ te c hr with ⟨hg, h0⟩ | ⟨g, cap, cur, hg, hh, hl, hmx, hcs, hcc⟩
  ·have := g2 _ hg
   simp only [RowV] at this
   exact .inl ⟨hg, h0, this.2.1, this.1⟩
  ·have := g2 _ hg
   simp only [RowV] at this
   obtain ⟨h1, ao, h2, h3⟩ := this
   have h4 := h3 (.inr trivial)
   rw [Nat.zero_mul] at h4
   subst h4
   exact .inr ⟨g, cap, cur, hg, h2, by omega, hh, hl, hmx, hcs, hcc⟩
end
section
variable {C : Cx} {ops : Array Oper} {K : PS → Prop} {o : Oper} {rest : List Oper} {s : PS} {TT : List (Nat × Ty)} {tm : List (Nat × D)} {rw' : List (Nat × Option (TypeId × Sq))} {bx : List (Nat × Option (List D))} {cr B : List Nat} {j : Nat}
structure PurF (C : Cx) (o : Oper) (s : PS) (d : D) : Prop where
 out : ∀ s1, (∀ x ∈ o.op.operands, s1.ev x = s.ev x) → (∀ r, notF r = false → s1.r r = s.r r) → ∀ M a w, Rel C.w0 C.O0 C.n M s1 a w → ∃ v, (execOp a.eval o).run C.P w = .ok (.value v) w ∧ VR M (Ow (Fs C.w0 C.O0) M) w d v
theorem PurF.step {d : D} (h : PurF C o s d) (ho : dstOk C.n o.dst = true) {s1 : PS} (hs : ∀ x ∈ o.op.operands, s1.ev x = s.ev x) (hfk : ∀ r, notF r = false → s1.r r = s.r r) : Step C o s1 (fun s' => s' = s1.put o.dst d) := sRun (fun M a w hr => h.out s1 hs hfk M a w hr) ho rfl
theorem oPureF (hw : Wanted C ops o ⟨tm, rw', bx⟩) {d : D} (hp : PurF C o ⟨tm, rw', bx⟩ d) {t : Nat} (hd : o.dst = some t) (hn : Nat.blt t C.n = true) (h : VO C ops K rest ⟨(t, d) :: tm, rw', bx⟩) : VO C ops K (o :: rest) ⟨tm, rw', bx⟩ := by
 refine oStepW hw (Step.weak (hp.step (by rw [hd]; exact hn) (fun _ _ => rfl) (fun _ _ => rfl)) fun s' hs' => ?_)
 rw [hs', hd]; exact h
theorem fk_notF {F : Nat} : notF (FK + F) = false := by
 cases hn : notF (FK + F) with
 | false => rfl
 | true => have := notF_lt hn; omega
theorem pIdxI (hT : TTOK C.P TT) {x y : Operand} {t e te : TypeId} {kk q : Sq} {by' F k m : Nat} {i : Int} (hop : o.op = .indexAddr t x y) (hy : look TT t = some (.sl e kk by')) (hx : s.ev x = .irow F k m) (hyy : s.ev y = .int i) (hf : s.r (FK + F) = some (te, dF q)) (hq : q.deep = true) (hk : k < q.len) (hz : Nat.beq kk.sz (q.nn k).sz = true) (hi : 0 ≤ i ∧ i < (m : Int)) (hF : Nat.blt F 4294967296 = true := by rfl) : PurF C o s (.iptr F k i 0) :=
 ⟨fun s1 hs hfk M a w hr => by
  rw [Nat.blt_eq] at hF
  have hev := hr.ev x
  rw [hs x (by rw [hop]; simp [Op.operands]), hx] at hev
  have hev2 := hr.ev y
  rw [hs y (by rw [hop]; simp [Op.operands]), hyy] at hev2
  have hinn := deep_r hF hq (s := s1) (by rw [hfk _ fk_notF]; exact hf) k
  rw [if_pos hk] at hinn
  have hz' := Nat.eq_of_beq_eq_true hz
  have hty := hT t _ hy
  rcases irow_form hr hinn hev with ⟨_, _, rfl, ao, hv⟩ | ⟨g, cap, cur, hg, hv, _⟩
  ·omega
  ·refine ⟨.pointer (some ⟨g, 0 + i.toNat * kk.sz, none⟩), ?_, .iptr _ _ _ _ _ fun g' c' z' hg' => ?_⟩
   ·have hrun : (Instr.indexAt t (a.eval x) (a.eval y)).run C.P w = .ok (.pointer (some ⟨g, 0 + i.toNat * kk.sz, none⟩)) w := by
     rw [hv, hev2.int_inv]
     simp [Instr.indexAt, asIntOf, ty_sl hty, ty_size hty, go_sem, hi.1, hi.2, add_lit]
    unfold execOp
    rw [hop]
    show ((do pure (Next.value (← Instr.indexAt t (a.eval x) (a.eval y))) : Sem Next)).run C.P w = _
    rw [Sem.run_bind, hrun]; rfl
   ·rw [hg] at hg'; cases hg'
    simp [hz']⟩
end
end Go.Proofs.YtmoamglpocjhgaaGreat
namespace Go.Proofs.YtmoamglpocjhgaaGreat
open Go.RowKit Go.Deep
section
variable {C : Cx} {ops : Array Oper} {K : PS → Prop} {o : Oper} {rest : List Oper} {s : PS} {TT : List (Nat × Ty)} {tm : List (Nat × D)} {rw' : List (Nat × Option (TypeId × Sq))} {bx : List (Nat × Option (List D))}
end
end Go.Proofs.YtmoamglpocjhgaaGreat
namespace Go.Proofs.YtmoamglpocjhgaaGreat
open Go.RowKit Go.Deep
structure NewD (N : Mp) (A : Bool → Nat → Prop) (w w' : World) (B F : Nat) (et te : TypeId) (q : Sq) : Prop where
 os : w'.os = w.os
 tape : w'.tape = w.tape
 output : w'.output = w.output
 size : w.heap.size ≤ w'.heap.size
 block : ∀ k, k < w.heap.size → w'.heap[k]? = w.heap[k]?
 noβ : ∀ b, N.β b = none
 outer : (N.γ B = some none ∧ q.len = 0) ∨ ∃ g cap cur, N.γ B = some (some (g, cap, q.sz)) ∧ w'.heap[g]? = some (.cells cur et (0, 0)) ∧ q.len ≤ cap ∧ cap ≤ maxLen ∧ cur.size = cap * q.sz ∧ ∀ i j d, i < q.len → ((dR F q).relem i)[j]? = some d → VR N A w' d (cur.getD (i * q.sz + j) undef)
 inner : ∀ i, i < q.len → (N.γ (inn F i) = some none ∧ (q.nn i).len = 0) ∨ ∃ g cap cur, N.γ (inn F i) = some (some (g, cap, (q.nn i).sz)) ∧ w'.heap[g]? = some (.cells cur te (0, 0)) ∧ (q.nn i).len ≤ cap ∧ cap ≤ maxLen ∧ cur.size = cap * (q.nn i).sz ∧ ∀ i' j d, i' < (q.nn i).len → ((q.nn i).relem i')[j]? = some d → VR N A w' d (cur.getD (i' * (q.nn i).sz + j) undef)
 none : ∀ x, x ≠ B → (∀ i, i < q.len → x ≠ inn F i) → N.γ x = none
 low : ∀ k, N.owned k → w.heap.size ≤ k
 inj : ∀ r r' k c z c' z', N.γ r = some (some (k, c, z)) → N.γ r' = some (some (k, c', z')) → r = r'
structure PCallD (P : Program) (f : FuncId) (ds : List D) (et te : TypeId) (q : Sq) (d : D) : Prop where
 enter : ∀ args w, (callFunc f args).run P w = .ok (.enter f args) w
 deep : q.deep = true
 run : ∀ w args, ArgsOK w ds args → Calls P f args w fun e w' => ∃ v, e = .returned v ∧ ∀ B F, B ≤ 500000 → F < 4294967296 → ∃ N, NewD N (Rs w N) w w' B F et te q ∧ VR N (Rs w N) w' (ren id (fun j => B + j) d) v
section
variable {C : Cx} {ops : Array Oper} {K : PS → Prop} {o : Oper} {rest : List Oper} {s s' : PS} {TT : List (Nat × Ty)} {tm : List (Nat × D)} {rw' : List (Nat × Option (TypeId × Sq))} {bx : List (Nat × Option (List D))}
theorem Rel.newDeep {w0 : World} {O0 : Hd} {n : Nat} {M N : Mp} {A : Bool → Nat → Prop} {a : Act} {w w' : World} {B F : Nat} {et te : TypeId} {q : Sq} (h : Rel w0 O0 n M ⟨tm, rw', bx⟩ a w) (hq : q.deep = true) (hN : NewD N A w w' B F et te q) (hF : F < 4294967296) (hB : B < 1000000)
  (hA : ∀ f k, k < w'.heap.size → A f k → (¬ N.owned k ∧ ¬ M.owned k) ∧ Fs w0 O0 f k) (hf : Fresh ⟨tm, rw', bx⟩ (fun _ => false) (fun r => Nat.beq r B || !notF r)) (hl : lone ⟨tm, rw', bx⟩ 999999 F = true) (h9 : PS.r ⟨tm, rw', bx⟩ 999999 = none) (hfn : PS.r ⟨tm, rw', bx⟩ (FK + F) = none) (hO : ∀ u, O0.fr (FK + F) ≠ some u) :
  ∃ M', Rel w0 O0 n M' ⟨tm, (B, some (et, dR F q)) :: (FK + F, some (te, dF q)) :: rw', bx⟩ a w' ∧ ∀ d v, ment (fun _ => true) (fun r => !Nat.beq r B) d = false → VR N A w' d v → VR M' (Ow (Fs w0 O0) M') w' d v := by
 have hBF := notF_lo hB
 have hBb := notF_big hBF
 have hne : FK + F ≠ B := fk_ne hF hBF
 let M' : Mp := ⟨M.β, fun x => match Nat.ble BIG x with
  | true => if unF x = F then N.γ x else M.γ x
  | false => if x = B then N.γ B else if x = FK + F then some none else M.γ x⟩
 have mB : M'.γ B = N.γ B := by simp [M', hBb]
 have mF : M'.γ (FK + F) = some none := by simp [M', fk_lo hF, hne]
 have mI : ∀ i, M'.γ (inn F i) = N.γ (inn F i) := fun i => by
  have e : ∀ x, Nat.ble BIG x = true → unF x = F → M'.γ x = N.γ x := fun x h1 h2 => by simp [M', h1, h2]
  exact e _ (inn_hi F i) (by rw [unF_inn, Nat.mod_eq_of_lt hF])
 have mG : ∀ x, Nat.ble BIG x = true → unF x ≠ F → M'.γ x = M.γ x := fun x h1 h2 => by simp [M', h1, h2]
 have mL : ∀ x, Nat.ble BIG x = false → x ≠ B → x ≠ FK + F → M'.γ x = M.γ x := fun x h1 h2 h3 => by simp [M', h1, h2, h3]
 have hfi : ∀ k, M.γ (inn F k) = none := fun k => h.rown _ (by rw [PS.r_hi _ (inn_hi F k), PS.inn_r, fk_unF hF, hfn]; rfl)
 have cases4 : ∀ x y, M'.γ x = some y → N.γ x = some y ∨ (M.γ x = some y ∧ x ≠ FK + F) ∨ (x = FK + F ∧ y = none) := fun x y hx => by
  cases hb : Nat.ble BIG x with
  | true =>
   by_cases hu : unF x = F
   ·have : M'.γ x = N.γ x := by simp [M', hb, hu]
    rw [this] at hx; exact .inl hx
   ·rw [mG x hb hu] at hx
    exact .inr (.inl ⟨hx, fun e => by rw [e, fk_lo hF] at hb; cases hb⟩)
  | false =>
   by_cases h1 : x = B
   ·rw [h1, mB] at hx; rw [h1]; exact .inl hx
   ·by_cases h2 : x = FK + F
    ·rw [h2, mF] at hx; cases hx; exact .inr (.inr ⟨h2, rfl⟩)
    ·rw [mL x hb h1 h2] at hx; exact .inr (.inl ⟨hx, h2⟩)
 have hown : ∀ k, M'.owned k → M.owned k ∨ N.owned k := by
  rintro k (⟨x, hx⟩ | ⟨r, c, z, hr⟩)
  ·exact .inl (.inl ⟨x, hx⟩)
  ·rcases cases4 r _ hr with h1 | ⟨h1, _⟩ | ⟨_, h1⟩
   ·exact .inr (.inr ⟨r, c, z, h1⟩)
   ·exact .inl (.inr ⟨r, c, z, h1⟩)
   ·cases h1
 have hA0 : ∀ f k, k < w.heap.size → Ow (Fs w0 O0) M f k → Ow (Fs w0 O0) M' f k ∧ k < w'.heap.size ∧ w'.heap[k]? = w.heap[k]? := fun f k h1 h2 =>
  ⟨⟨fun h3 => by rcases hown k h3 with h4 | h4; exact h2.1 h4; have := hN.low k h4; omega, h2.2⟩, by have := hN.size; omega, hN.block k h1⟩
 have hA1 : ∀ f k, k < w'.heap.size → A f k → Ow (Fs w0 O0) M' f k ∧ k < w'.heap.size ∧ w'.heap[k]? = w'.heap[k]? := fun f k h1 h2 =>
  ⟨⟨fun h3 => by rcases hown k h3 with h4 | h4; exact (hA f k h1 h2).1.2 h4; exact (hA f k h1 h2).1.1 h4, (hA f k h1 h2).2⟩, h1, rfl⟩
 have hγ : ∀ x y, (Nat.beq x B || !notF x) = false → M'.γ x = some y → M.γ x = some y := fun x y h1 h2 => by
  rw [Bool.or_eq_false_iff] at h1
  have hn : notF x = true := by simpa using h1.2
  rw [mL x (notF_big hn) (fun e => by rw [e, Nat.beq_refl] at h1; cases h1.1) (fun e => fk_ne hF hn e.symm)] at h2
  exact h2
 have hbf : (Nat.beq BIG B || !notF BIG) = true := by
  have : notF BIG = false := by decide
  rw [this]; simp
 have oldrow : ∀ x e p, PS.r ⟨tm, rw', bx⟩ x = some (e, p) → M'.γ x = M.γ x → RowAt (Fs w0 O0) M' w' x e p := fun x e p hx hm => by
  rcases h.row x e p hx with ⟨g1, g2⟩ | ⟨g, cap, cur, g1, g2, g3, g4, g5, g6⟩
  ·exact .inl ⟨hm.trans g1, g2⟩
  ·have hlt := (Array.getElem?_eq_some_iff.1 g2).1
   refine .inr ⟨g, cap, cur, hm.trans g1, (hN.block g hlt).trans g2, g3, g4, g5, fun i j d hi hd => (g6 i j d hi hd).relem_any2 hd hA0 fun G hG k y hy => ?_⟩
   rcases lone_ok hl hx hG with h1 | ⟨h1, h2⟩
   ·rw [h1, h9] at hx; cases hx
   ·rw [mG _ (inn_hi G k) (by rw [unF_inn, Nat.mod_eq_of_lt h2]; exact h1)] at hy; exact hy
 have hPS : ∀ x, PS.r ⟨tm, (B, some (et, dR F q)) :: (FK + F, some (te, dF q)) :: rw', bx⟩ x = match Nat.ble BIG x with | true => (if unF x = F then famr (some (some (te, dF q))) (unK x) else PS.r ⟨tm, rw', bx⟩ x) | false => if x = B then some (et, dR F q) else if x = FK + F then some (te, dF q) else PS.r ⟨tm, rw', bx⟩ x := fun x => by
  rw [PS.r_app (s := ⟨tm, rw', bx⟩) (s' := ⟨tm, (B, some (et, dR F q)) :: (FK + F, some (te, dF q)) :: rw', bx⟩) (l := [(B, some (et, dR F q)), (FK + F, some (te, dF q))]) rfl, look_two', look_two']
  cases hbx : Nat.ble BIG x with
  | true =>
   have h1 : B ≠ FK + unF x := fun e => by have := notF_fk x; rw [← e, hBF] at this; cases this
   by_cases hu : unF x = F
   ·simp [hu, Ne.symm hne]
   ·simp [hu, Ne.symm hu, h1]
  | false =>
   by_cases hx : B = x
   ·subst hx; simp
   ·by_cases hxf : FK + F = x
    ·rw [← hxf, if_neg (Ne.symm hne), if_pos rfl, if_neg hne, if_pos rfl]
    ·simp [hx, hxf, Ne.symm hx, Ne.symm hxf]
 refine ⟨M', ⟨?_, h.dfr, h.sz, fun t => ?_, fun x ds hx => ?_, fun x hx => h.boxn x hx, fun x e p hx => ?_, fun x hx => ?_, fun k hk => ?_, h.inj1, fun x y k c z c' z' h1 h2 => ?_, fun x y k c z h1 h2 => ?_, h.nle, h.fxb, fun x u u' h1 h2 => ?_⟩, fun d v hd hv => ?_⟩
 ·exact h.fr.step hN.os hN.tape hN.output hN.size fun k h1 _ => hN.block k (Nat.lt_of_lt_of_le h1 h.fr.size)
 ·exact VR.new (b := fun _ => false) (r := fun r => Nat.beq r B || !notF r) hA0 hγ (fun _ _ _ h => h) (hf.t t) (h.tmp t) (hi := fun h0 => by rw [hbf] at h0; cases h0)
 ·obtain ⟨k, cur', e', h1, h2, h3, h4⟩ := h.box x ds hx
  have hlt := (Array.getElem?_eq_some_iff.1 h2).1
  exact ⟨k, cur', e', h1, (hN.block k hlt).trans h2, h3, fun j d hd => VR.newS (b := fun _ => false) (r := fun r => Nat.beq r B || !notF r) hA0 hγ (fun _ _ _ h => h) (hf.b _ _ hx d (List.mem_of_getElem? hd)) (h4 j d hd) (hi := fun h0 => by rw [hbf] at h0; cases h0)⟩
 ·rw [hPS] at hx
  cases hbx : Nat.ble BIG x with
  | true =>
   rw [hbx] at hx
   by_cases hu : unF x = F
   ·have hxe : x = inn F (unK x) := by rw [← hu]; exact (inn_of hbx).symm
    simp only [hu, if_true] at hx
    rw [famr_dF hq] at hx
    generalize unK x = k0 at hx hxe
    split at hx
    ·rename_i hk
     cases hx
     rw [hxe]
     rcases hN.inner _ hk with ⟨g1, g2⟩ | ⟨g, cap, cur, g1, g2, g3, g4, g5, g6⟩
     ·exact .inl ⟨(mI _).trans g1, g2⟩
     ·refine .inr ⟨g, cap, cur, (mI _).trans g1, g2, g3, g4, g5, fun i j d hi hd => ?_⟩
      have hd2 := hd
      rw [Sq.relem_eq (nn_refs q _)] at hd2
      exact (g6 i j d hi hd).elem_any hd2 hA1
    ·cases hx
   ·simp only [hu, if_false] at hx
    exact oldrow x e p hx (mG x hbx hu)
  | false =>
   rw [hbx] at hx
   simp only at hx
   split at hx
   ·rename_i hxB
    cases hx
    subst hxB
    rcases hN.outer with ⟨g1, g2⟩ | ⟨g, cap, cur, g1, g2, g3, g4, g5, g6⟩
    ·exact .inl ⟨mB.trans g1, by rw [dR_len]; exact g2⟩
    ·refine .inr ⟨g, cap, cur, by rw [mB, dR_sz]; exact g1, g2, by rw [dR_len]; exact g3, g4, by rw [dR_sz]; exact g5, fun i j d hi hd => ?_⟩
     rw [dR_len] at hi
     rw [dR_sz]
     have hv := g6 i j d hi hd
     rcases dR_relem hq hi hd with ⟨rfl, _⟩ | ⟨y, rfl, _⟩
     ·exact hv.irow_mv fun y hy => by rw [mI] at hy; exact hy
     ·rw [hv.int_inv]; exact .int _
   rename_i hxB
   split at hx
   ·rename_i hxf
    cases hx
    rw [hxf]
    exact .inl ⟨mF, dF_len q⟩
   ·rename_i hxf
    exact oldrow x e p hx (mL x hbx hxB hxf)
 ·rw [hPS] at hx
  cases hbx : Nat.ble BIG x with
  | true =>
   rw [hbx] at hx
   by_cases hu : unF x = F
   ·have hxe : x = inn F (unK x) := by rw [← hu]; exact (inn_of hbx).symm
    simp only [hu, if_true] at hx
    rw [famr_dF hq] at hx
    split at hx
    ·cases hx
    ·rename_i hk
     rw [hxe, mI]
     refine hN.none _ (fun e => by have := inn_hi F (unK x); rw [e, hBb] at this; cases this) fun i hi e => hk ?_
     rw [(inn_inj e).2]; exact hi
   ·simp only [hu, if_false] at hx
    rw [mG x hbx hu]; exact h.rown x hx
  | false =>
   rw [hbx] at hx
   simp only at hx
   split at hx
   ·cases hx
   rename_i hxB
   split at hx
   ·cases hx
   rename_i hxf
   rw [mL x hbx hxB hxf]; exact h.rown x hx
 ·rcases hown k hk with h1 | h1
  ·exact h.low k h1
  ·exact .inl (Nat.le_trans h.fr.size (hN.low k h1))
 ·have hx : ∀ r r' k c z c' z', M.γ r = some (some (k, c, z)) → N.γ r' = some (some (k, c', z')) → False := fun r r' k c z c' z' a1 a2 => by
   have := h.lt _ (.inr ⟨r, c, z, a1⟩); have := hN.low _ (.inr ⟨r', c', z', a2⟩); omega
  rcases cases4 x _ h1 with g1 | ⟨g1, _⟩ | ⟨_, g1⟩
  ·rcases cases4 y _ h2 with g2 | ⟨g2, _⟩ | ⟨_, g2⟩
   ·exact hN.inj _ _ _ _ _ _ _ g1 g2
   ·exact (hx _ _ _ _ _ _ _ g2 g1).elim
   ·cases g2
  ·rcases cases4 y _ h2 with g2 | ⟨g2, _⟩ | ⟨_, g2⟩
   ·exact (hx _ _ _ _ _ _ _ g1 g2).elim
   ·exact h.inj2 _ _ _ _ _ _ _ g1 g2
   ·cases g2
  ·cases g1
 ·rcases cases4 y _ h2 with g2 | ⟨g2, _⟩ | ⟨_, g2⟩
  ·have := h.lt _ (.inl ⟨x, h1⟩); have := hN.low _ (.inr ⟨y, c, z, g2⟩); omega
  ·exact h.inj3 _ _ _ _ _ h1 g2
  ·cases g2
 ·obtain ⟨h3, h4⟩ := O0.lor x u h1
  have hb1 : Nat.ble BIG x = false := by
   cases hb : Nat.ble BIG x with
   | false => rfl
   | true => have := Nat.le_of_ble_eq_true hb; omega
  by_cases hxf : x = FK + F
  ·rw [hxf] at h1; exact absurd h1 (hO u)
  ·rw [mL x hb1 (by omega) hxf] at h2; exact h.fxr x u u' h1 h2
 ·refine VR.new (b := fun _ => true) (r := fun r => !Nat.beq r B) hA1 (fun x y h1 h2 => ?_) (fun x k hx => by simp at hx) hd hv (hi := fun h0 => ?_)
  ·have : x = B := Nat.eq_of_beq_eq_true (by simpa using h1)
   rw [this, mB] at h2; rw [this]; exact h2
  ·have : BIG = B := Nat.eq_of_beq_eq_true (by simpa using h0)
   rw [← this] at hBb
   exact absurd hBb (by decide)
theorem oCallD (F : Nat) {f : FuncId} {args : Array Operand} {ts : Array TypeId} {ds : List D} {et te : TypeId} {q : Sq} {d d' : D} (hp : PCallD C.P f ds et te q d) (hg : o.guard = none) (hop : o.op = .call { callee := .value (.func f), args := args, argTypes := ts }) {b : Nat} (hd : o.dst = some b) (hn : Nat.blt b C.n = true) (hno : (ds.all noIds) = true)
  (hm : ment (fun _ => true) (fun r => !Nat.beq r (rowB b)) (ren id (fun j => rowB b + j) d) = false) (hx : (fcD (ren id (fun j => rowB b + j) d) some) = some d') (hf : frB ⟨tm, rw', bx⟩ (fun _ => false) (fun r => Nat.beq r (rowB b) || !notF r) = true) (hl : lone ⟨tm, rw', bx⟩ 999999 F = true) (h9 : PS.r ⟨tm, rw', bx⟩ 999999 = none) (hfn : PS.r ⟨tm, rw', bx⟩ (FK + F) = none) (hO : ∀ u, C.O0.fr (FK + F) ≠ some u) (hfit : fits ⟨tm, rw', bx⟩ args.toList ds)
  (h : VO C ops K rest ⟨(b, d') :: tm, (rowB b, some (et, dR F q)) :: (FK + F, some (te, dF q)) :: rw', bx⟩) (hF : Nat.blt F 4294967296 = true := by rfl) : VO C ops K (o :: rest) ⟨tm, rw', bx⟩ := by
 refine vOp hg ⟨fun M a w Q K' hr hk => ?_⟩
 rw [Nat.blt_eq] at hF
 rw [fcD_eq] at hx
 cases hx
 have hb1000 : b < 1000 := by have := hr.nle; rw [Nat.blt_eq] at hn; omega
 have hrun : (execOp a.eval o).run C.P w = .ok (.enter f (args.map a.eval)) w := by
  have := hp.enter (args.map a.eval) w
  unfold execOp
  rw [hop]
  show ((do let d ← resolve a.eval _ o.type; invoke d.target d.args : Sem Next)).run C.P w = _
  simp only [resolve]
  show ((callFunc f ((#[] ++ args.map a.eval) ++ #[])) : Sem Next).run C.P w = _
  rw [show (#[] ++ args.map a.eval) ++ #[] = args.map a.eval by simp]
  exact this
 unfold Oper.wp
 rw [hrun]
 refine (hp.run w _ (fits_args hr hfit hno)).mono ?_
 rintro e w' ⟨v, rfl, hB⟩
 obtain ⟨N, hN, hv⟩ := hB (rowB b) F (by simp only [rowB]; omega) hF
 obtain ⟨M', h1, h2⟩ := hr.newDeep hp.deep hN hF (by simp only [rowB]; omega) (fun f k hk hA => ⟨⟨hA.2, fun ho => by have := hr.lt k ho; have := hA.1; omega⟩, .inl (Nat.le_trans hr.fr.size hA.1)⟩) (frB_ok hf) hl h9 hfn hO
 refine hk M' _ _ _ h ?_
 rw [hd]
 exact h1.put (o := some b) hn (h2 _ _ hm hv)
end
end Go.Proofs.YtmoamglpocjhgaaGreat
namespace Go.Proofs.YtmoamglpocjhgaaGreat
open Go.RowKit Go.Deep
theorem mentA_ne {b r : Nat → Bool} {d : D} (h : ∀ l, d ≠ .agg l) : mentA b r d = mentS b r d := by cases d <;> first | rfl | exact absurd rfl (h _)
theorem ment_ne {b r : Nat → Bool} {d : D} (h : ∀ l, d ≠ .tup l) : ment b r d = mentA b r d := by cases d <;> first | rfl | exact absurd rfl (h _)
theorem renA_ne {τ σ : Nat → Nat} {d : D} (h : ∀ l, d ≠ .agg l) : renA τ σ d = renS τ σ d := by cases d <;> first | rfl | exact absurd rfl (h _)
theorem ren_ne {τ σ : Nat → Nat} {d : D} (h : ∀ l, d ≠ .tup l) : ren τ σ d = renA τ σ d := by cases d <;> first | rfl | exact absurd rfl (h _)
theorem renS_agg {τ σ : Nat → Nat} (d : D) : ∀ l, renS τ σ d ≠ .agg l := by cases d <;> intro l h <;> cases h
theorem renA_tup {τ σ : Nat → Nat} (d : D) : ∀ l, renA τ σ d ≠ .tup l := by cases d <;> intro l h <;> cases h
theorem ment_one {B : Nat} : ∀ d : D, ment (fun _ => true) (fun j => !Nat.blt j 1) d = false → ment (fun _ => true) (fun r => !Nat.beq r B) (ren id (fun j => B + j) d) = false := by
 have keyS : ∀ d : D, mentS (fun _ => true) (fun j => !Nat.blt j 1) d = false → mentS (fun _ => true) (fun r => !Nat.beq r B) (renS id (fun j => B + j) d) = false := fun d hd => by
  cases d <;> simp only [mentS, renS] at hd ⊢ <;> try (first | exact hd | rfl)
  ·rename_i x _ _
   have h1 : x < 1 := by simpa using hd
   have : x = 0 := by omega
   subst this; simp [Nat.beq_refl]
  ·rename_i x _ _
   have h1 : x < 1 := by simpa using hd
   have : x = 0 := by omega
   subst this; simp [Nat.beq_refl]
  ·rename_i f bs
   simpa using hd
  ·exact absurd hd (by decide)
  ·exact absurd hd (by decide)
 have keyA : ∀ d : D, mentA (fun _ => true) (fun j => !Nat.blt j 1) d = false → mentA (fun _ => true) (fun r => !Nat.beq r B) (renA id (fun j => B + j) d) = false := fun d hd => by
  by_cases ha : ∃ l, d = .agg l
  ·obtain ⟨l, rfl⟩ := ha
   simp only [mentA, renA, List.any_eq_false, List.mem_map] at hd ⊢
   rintro x ⟨y, hy, rfl⟩
   have := keyS y (by simpa using hd y hy)
   simp [this]
  ·have hne : ∀ l, d ≠ .agg l := fun l e => ha ⟨l, e⟩
   rw [mentA_ne hne] at hd
   rw [renA_ne hne, mentA_ne (renS_agg d)]
   exact keyS d hd
 intro d hd
 by_cases ha : ∃ l, d = .tup l
 ·obtain ⟨l, rfl⟩ := ha
  simp only [ment, ren, List.any_eq_false, List.mem_map] at hd ⊢
  rintro x ⟨y, hy, rfl⟩
  have := keyA y (by simpa using hd y hy)
  simp [this]
 ·have hne : ∀ l, d ≠ .tup l := fun l e => ha ⟨l, e⟩
  rw [ment_ne hne] at hd
  rw [ren_ne hne, ment_ne (renA_tup d)]
  exact keyA d hd
def RetPD (TT : List (Nat × Ty)) (res : List ResultVar) (et te : TypeId) (q : Sq) (d : D) : Exit → PS → Prop := fun e s => match e with
 | .normal | .ret => ∃ R F d', Nat.blt F 4294967296 = true ∧ retD TT s res = some d' ∧ s.r R = some (et, dR F q) ∧ s.r (FK + F) = some (te, dF q) ∧ notF R = true ∧ Wk d' (ren id (fun _ => R) d) ∧ okD 1 d = true
 | _ => False
theorem pcallD_intro {P : Program} {f : FuncId} {fn : Func} {c : Code} {TT : List (Nat × Ty)} {ds : List D} {et te : TypeId} {q : Sq} {d : D} {n : Nat} {res : List ResultVar} (hT : TTOK P TT) (hf : P.funcs[f]? = some fn) (hb : fn.body = some c)
  (hname : (fn.name == "runtime.NumGoroutine") = false) (hn : fn.ntmps = n) (hres : fn.results.toList = res) (hds : Nat.ble ds.length n = true) (hno : (ds.all fun d => noIds d && nwD false d) = true) (hq : q.deep = true)
  (h : ∀ w0, VC ⟨P, w0, Hd.no, n⟩ c (RetPD TT res et te q d) ⟨entL 0 ds, [], []⟩) (hn1000 : Nat.ble n 1000 = true := by rfl) : PCallD P f ds et te q d := by
 subst hn hres
 refine ⟨callFunc_of hf hname (by simp [hb]), hq, fun w0 args ⟨hsz, hargs⟩ => ?_⟩
 have hle := Nat.le_of_ble_eq_true hds
 have hent : Rel w0 Hd.no fn.ntmps M0 ⟨entL 0 ds, [], []⟩ { tmps := args ++ Array.replicate (fn.ntmps - args.size) undef, defers := [] } w0 := by
  refine ⟨⟨rfl, rfl, rfl, Nat.le_refl _, fun _ _ _ => rfl⟩, rfl, by simp; omega, fun t => ?_, fun b cs hb => by simp [PS.b, look] at hb, fun _ _ => rfl, fun r e q hr => (by rw [r_ent] at hr; cases hr), fun _ _ => rfl, ?_, by simp, by simp, by simp, Nat.le_of_ble_eq_true hn1000, by simp, by simp⟩
  ·simp only [PS.t, look_entL, Nat.zero_le, if_true, Nat.sub_zero]
   cases hd : ds[t]? with
   | none => exact .dead _
   | some d0 =>
    have hlt : t < args.size := by rw [hsz]; exact (List.getElem?_eq_some_iff.1 hd).1
    have h1 := hargs t d0 hd
    have h2 : (args ++ Array.replicate (fn.ntmps - args.size) undef).getD t undef = args.getD t undef := by
     simp [Array.getElem?_append_left hlt]
    rw [h2]
    have h4 := (List.all_eq_true.1 hno) d0 (List.mem_of_getElem? hd)
    simp only [Bool.and_eq_true] at h4
    refine VR.new (b := fun _ => true) (r := fun _ => true) (A := fun f _ => True ∧ f = false) (fun f b hb hf => ⟨⟨?_, .inr hf.2⟩, hb, rfl⟩) (fun x y hx => by simp at hx) (fun x y hx => by simp at hx) ?_ (h1.flag h4.2)
    ·simpa [noIds] using h4.1
    ·rintro (⟨x, hx⟩ | ⟨x, c, z, hx⟩) <;> simp at hx
  ·rintro k (⟨x, hx⟩ | ⟨x, c, z, hx⟩) <;> simp at hx
 refine calls_of_wp hf hb (Code.wp_mono ?_ ((h w0).out M0 _ w0 hent))
 rintro e a' w' ⟨s', M', hqq, hr⟩
 have fin : ∀ (hq' : ∃ R F d', Nat.blt F 4294967296 = true ∧ retD TT s' fn.results.toList = some d' ∧ s'.r R = some (et, dR F q) ∧ s'.r (FK + F) = some (te, dF q) ∧ notF R = true ∧ Wk d' (ren id (fun _ => R) d) ∧ okD 1 d = true),
   a'.defers = [] ∧ ∃ v, (results fn a'.tmps).run P w' = .ok v w' ∧ ∃ v', Ending.returned v = .returned v' ∧ ∀ B F, B ≤ 500000 → F < 4294967296 → ∃ N, NewD N (Rs w0 N) w0 w' B F et te q ∧ VR N (Rs w0 N) w' (ren id (fun j => B + j) d) v' := by
  rintro ⟨R, F0, d', hF0, h1, hR, hf0, hFR, h4, h5⟩
  rw [Nat.blt_eq] at hF0
  obtain ⟨v, h6, h7⟩ := ret_ok hT hr h1
  replace h7 := h7.wk h4
  refine ⟨hr.dfr, v, h6, v, rfl, fun B F hB0 hF => ?_⟩
  have hB : B < 1000000 := by omega
  have hBb := notF_big (notF_lo hB)
  simp only [okD, Bool.and_eq_true, Bool.not_eq_true'] at h5
  obtain ⟨⟨k1, k2⟩, k3⟩ := h5
  let M1 : Mp := ⟨fun _ => none, fun j => if j = 0 then M'.γ R else none⟩
  let N : Mp := ⟨fun _ => none, fun y => if y = B then M'.γ R else if Nat.ble BIG y = true ∧ unF y = F ∧ unK y < q.len then M'.γ (inn F0 (unK y)) else none⟩
  have nB : N.γ B = M'.γ R := by simp [N]
  have nI : ∀ i, i < q.len → N.γ (inn F i) = M'.γ (inn F0 i) := fun i hi => by
   have e : ∀ x, x ≠ B → (Nat.ble BIG x = true ∧ unF x = F ∧ unK x < q.len) → N.γ x = M'.γ (inn F0 (unK x)) := fun x h1 h2 => by simp [N, h1, h2]
   have := e (inn F i) (fun e => by have := inn_hi F i; rw [e, hBb] at this; cases this) ⟨inn_hi F i, by rw [unF_inn, Nat.mod_eq_of_lt hF], by rw [unK_inn]; exact hi⟩
   rwa [unK_inn] at this
  have nC : ∀ y z, N.γ y = some z → (y = B ∧ M'.γ R = some z) ∨ ∃ i, i < q.len ∧ y = inn F i ∧ M'.γ (inn F0 i) = some z := fun y z hy => by
   by_cases hyB : y = B
   ·rw [hyB, nB] at hy; exact .inl ⟨hyB, hy⟩
   ·simp only [N, hyB, if_false] at hy
    split at hy
    ·rename_i hc
     exact .inr ⟨_, hc.2.2, by rw [← hc.2.1]; exact (inn_of hc.1).symm, hy⟩
    ·cases hy
  have hNo : ∀ k, N.owned k → M'.owned k := by
   rintro k (⟨b, hb⟩ | ⟨y, c, z, hy⟩)
   ·cases hb
   ·rcases nC y _ hy with ⟨_, h1⟩ | ⟨i, _, _, h1⟩
    ·exact .inr ⟨_, c, z, h1⟩
    ·exact .inr ⟨_, c, z, h1⟩
  have hlow : ∀ k, M'.owned k → w0.heap.size ≤ k := fun k hk => (hr.low k hk).resolve_right (fun h => h)
  have hA : ∀ f b, b < w'.heap.size → (Ow (Fs w0 Hd.no) M' f b ∧ f = true) → Rs w0 N f b ∧ b < w'.heap.size ∧ w'.heap[b]? = w'.heap[b]? := fun f b hb hh =>
   ⟨⟨hh.1.2.resolve_right (fun h => by rw [hh.2] at h; cases h), fun ho => hh.1.1 (hNo b ho)⟩, hb, rfl⟩
  have hdeep := deep_r hF0 hq hf0
  have hRb := notF_big hFR
  refine ⟨N, ⟨hr.fr.os, hr.fr.tape, hr.fr.output, hr.fr.size, fun k hk => hr.fr.block k hk (fun h => h), fun _ => rfl, ?_, fun i hi => ?_, fun x hx hxi => ?_, fun k hk => hlow k (hNo k hk), fun r r' k c z c' z' a1 a2 => ?_⟩, ?_⟩
  ·rcases hr.row _ _ _ hR with ⟨b1, b2⟩ | ⟨g, cap, cur, b1, b2, b3, b4, b5, b6⟩
   ·exact .inl ⟨nB.trans b1, by rw [dR_len] at b2; exact b2⟩
   ·rw [dR_len] at b3 b6
    rw [dR_sz] at b1 b5 b6
    refine .inr ⟨g, cap, cur, nB.trans b1, b2, b3, b4, b5, fun i j d0 hi hd => ?_⟩
    rcases dR_relem hq hi hd with ⟨rfl, hro⟩ | ⟨y, rfl, hro⟩
    ·have : ((dR F0 q).relem i)[j]? = some (.irow F0 i (q.nn i).len) := by
      rcases dR_elem (F := F0) hq hi (hro true) with ⟨_, h2⟩ | ⟨y, h2, _⟩
      ·exact h2
      ·cases h2
     exact (b6 i j _ hi this).irow_mv fun y hy => by rw [nI i hi] at hy; exact hy
    ·have : ((dR F0 q).relem i)[j]? = some (.int y) := by
      rcases dR_elem (F := F0) hq hi (hro true) with ⟨h2, _⟩ | ⟨y', h2, h3⟩
      ·cases h2
      ·cases h2; exact h3
     rw [(b6 i j _ hi this).int_inv]; exact .int _
  ·have hin := hdeep i
   rw [if_pos hi] at hin
   rcases hr.row _ _ _ hin with ⟨b1, b2⟩ | ⟨g, cap, cur, b1, b2, b3, b4, b5, b6⟩
   ·exact .inl ⟨(nI i hi).trans b1, b2⟩
   ·refine .inr ⟨g, cap, cur, (nI i hi).trans b1, b2, b3, b4, b5, fun i' j d0 hi' hd => ?_⟩
    have h8 := b6 i' j d0 hi' hd
    rw [Sq.relem_eq (nn_refs q i)] at hd
    have hfl : nwS true d0 = true ∧ sameD d0 d0 := elem_new true (q.nn i) i' j d0 hd
    exact (h8.flagE (M' := M') hfl.2 hfl.1).elem_any hd hA
  ·cases hx' : N.γ x with
   | none => rfl
   | some z =>
    rcases nC x z hx' with ⟨h1, _⟩ | ⟨i, h1, h2, _⟩
    ·exact absurd h1 hx
    ·exact absurd h2 (hxi i h1)
  ·rcases nC r _ a1 with ⟨e1, b1⟩ | ⟨i, i1, e1, b1⟩
   ·rcases nC r' _ a2 with ⟨e2, b2⟩ | ⟨i', i2, e2, b2⟩
    ·rw [e1, e2]
    ·have := hr.inj2 _ _ _ _ _ _ _ b1 b2
     have h9 := inn_hi F0 i'
     rw [← this, hRb] at h9; cases h9
   ·rcases nC r' _ a2 with ⟨e2, b2⟩ | ⟨i', i2, e2, b2⟩
    ·have := hr.inj2 _ _ _ _ _ _ _ b1 b2
     have h9 := inn_hi F0 i
     rw [this, hRb] at h9; cases h9
    ·have := hr.inj2 _ _ _ _ _ _ _ b1 b2
     rw [e1, e2, (inn_inj this).2]
  ·have h8 : VR M1 (Ow (Fs w0 Hd.no) M') w' d v := VR.unren (M' := M') (A' := Ow (Fs w0 Hd.no) M') (τ := id) (σ := fun _ => R) (fun r x hx => by
    simp only [M1] at hx
    split at hx
    ·exact hx
    ·cases hx) (fun b k hb => by simp [M1] at hb) (fun _ _ _ h => h) k2 h7 (hi := fun r x hr1 hx => by
    simp only [M1] at hx
    split at hx
    ·rename_i h0
     subst h0
     exact absurd hr1 (by decide)
    ·cases hx)
   have hbk : ∀ r x, BIG ≤ r → M1.γ r = some x → False := fun r x hr1 hx => by
    simp only [M1] at hx
    split at hx
    ·rename_i h0; subst h0; exact absurd hr1 (by decide)
    ·cases hx
   have hment : ment (fun _ => true) (fun j => !Nat.blt j 1) d = false := k1
   have h9 : VR N (Rs w0 N) w' (ren id (fun j => B + j) d) v := by
    let N1 : Mp := ⟨fun _ => none, fun y => if y = B then M'.γ R else none⟩
    have h10 : VR N1 (Rs w0 N) w' (ren id (fun j => B + j) d) v := VR.ren (M := M1) hA (fun r x hx => by
     simp only [N1] at hx
     split at hx
     ·rename_i h0
      have : r = 0 := by omega
      simp only [M1, this, if_true]
      exact hx
     ·cases hx) (fun b k hb => by simp [N1] at hb) (h8.flag k3) (hi := fun r x hr1 hx => by
     simp only [N1] at hx
     split at hx
     ·rename_i h0
      rw [← h0, Nat.ble_eq_true_of_le hr1] at hBb; cases hBb
     ·cases hx)
    have hm2 : ment (fun _ => true) (fun r => !Nat.beq r B) (ren id (fun j => B + j) d) = false := ment_one d hment
    refine VR.new (b := fun _ => true) (r := fun r => !Nat.beq r B) (fun f b hb ha => ⟨ha, hb, rfl⟩) (fun x y hx hy => ?_) (fun x k hx => by simp at hx) hm2 h10 (hi := fun h0 => ?_)
    ·have : x = B := Nat.eq_of_beq_eq_true (by simpa using hx)
     rw [this, nB] at hy
     simp only [N1, this, if_true]; exact hy
    ·have : BIG = B := Nat.eq_of_beq_eq_true (by simpa using h0)
     rw [← this] at hBb; exact absurd hBb (by decide)
   exact h9
 cases e with
 | normal => exact fin hqq
 | ret => exact fin hqq
 | _ => exact hqq.elim
end Go.Proofs.YtmoamglpocjhgaaGreat
namespace Go.Proofs.YtmoamglpocjhgaaGreat
open Go.RowKit Go.Deep
theorem idn_snoc {α : Type} (X : List (List α)) (c : List α) : idn (X ++ [c]) = idn X ++ [(X.length, c.length)] := by simp [idn, List.zipIdx_append]
theorem appI (F : Nat) (X : List (List Int)) (c : List Int) : (dR F (.intss X)).app (.irefs F [(X.length, c.length)]) = some (dR F (.intss (X ++ [c]))) := by simp [dR, Sq.app, Nat.beq_refl, idn_snoc]
theorem appP (F : Nat) (X : List (List (Int × Int))) (c : List (Int × Int)) : (dR F (.pairss X)).app (.irefs F [(X.length, c.length)]) = some (dR F (.pairss (X ++ [c]))) := by simp [dR, Sq.app, Nat.beq_refl, idn_snoc]
theorem pushI (X : List (List Int)) (c : List Int) : (Fq.ints (X.map some)).push (.ints c) = some (.ints ((X ++ [c]).map some)) := by simp [Fq.push]
theorem pushP (X : List (List (Int × Int))) (c : List (Int × Int)) : (Fq.pairs (X.map some)).push (.pairs c) = some (.pairs ((X ++ [c]).map some)) := by simp [Fq.push]
section
variable {C : Cx} {ops : Array Oper} {K : PS → Prop} {o : Oper} {rest : List Oper} {s : PS} {TT : List (Nat × Ty)} {tm : List (Nat × D)} {rw' : List (Nat × Option (TypeId × Sq))} {bx : List (Nat × Option (List D))} {cr B : List Nat} {j : Nat}
theorem deep_at {F : Nat} (hF : Nat.blt F 4294967296 = true) {te : TypeId} {q : Sq} (hq : q.deep = true) (hf : s.r (FK + F) = some (te, dF q)) {k : Nat} (hk : k < q.len) : s.r (inn F k) = some (te, q.nn k) := by
 rw [Nat.blt_eq] at hF
 rw [deep_r hF hq hf, if_pos hk]
theorem sLoadD (hT : TTOK C.P TT) {t et : TypeId} {e : TypeId} {kk : Sq} {by' : Nat} {x : Operand} {R F off m : Nat} {i : Int} {q : Sq} (hop : o.op = .load t x) (hy : look TT t = some (.sl e kk by')) (hx : s.ev x = .eptr R i off) (hR : s.r R = some (et, dR F q)) (hq : q.deep = true) (hoff : Nat.beq (off + 1) q.sz = true) (hm : (q.nn i.toNat).len = m) (hi : 0 ≤ i ∧ i < (q.len : Int)) (ho : dstOk C.n o.dst = true)
  (h : K (s.put o.dst (.irow F i.toNat m))) : Step C o s K := by
 have hi' : i.toNat < q.len := by omega
 have hoff' := Nat.eq_of_beq_eq_true hoff
 have hd : ((dR F q).relem i.toNat)[off]? = some (.irow F i.toNat m) := by
  have hlt : off < q.sz := by omega
  obtain ⟨d', hd'⟩ : ∃ d', (q.elem true i.toNat)[off]? = some d' := ⟨_, List.getElem?_eq_getElem (by rw [Sq.elem_len]; exact hlt)⟩
  rcases dR_elem (F := F) hq hi' hd' with ⟨_, h2⟩ | ⟨y, h1, _⟩
  ·rw [hm] at h2; exact h2
  ·exfalso
   subst h1
   cases q <;> first | (cases hq; done) | skip
   case raises X => simp [Sq.sz] at hoff'; subst hoff'; simp [Sq.elem] at hd'
   all_goals (simp [Sq.sz] at hoff'; subst hoff'; simp [Sq.elem] at hd')
 refine sRun (d := .irow F i.toNat m) (fun M a w hr => ?_) ho h
 have hv : evalV TT s (.load t x) = some (0 ≤ i ∧ i < ((dR F q).len : Int), .irow F i.toNat m) := by
  simp only [evalV, hx, ptrCells, hR, hy]
  have : ((dR F q).relem i.toNat).drop off = .irow F i.toNat m :: ((dR F q).relem i.toNat).drop (off + 1) := by
   obtain ⟨h1, h2⟩ := List.getElem?_eq_some_iff.1 hd
   rw [List.drop_eq_getElem_cons h1, h2]
  rw [this]
 obtain ⟨v, h1, h2⟩ := load_ok (P := C.P) hT hr hv (by rw [dR_len]; exact hi)
 refine ⟨v, ?_, h2⟩
 unfold execOp
 rw [hop]
 show ((do pure (Next.value (← Instr.loadAt t (a.eval x))) : Sem Next)).run C.P w = _
 rw [Sem.run_bind, h1]; rfl
theorem oLoadD (hT : TTOK C.P TT) (hw : Wanted C ops o ⟨tm, rw', bx⟩) {t et : TypeId} {e : TypeId} {kk : Sq} {by' : Nat} {x : Operand} {R F off m b : Nat} {i : Int} (q : Sq) (hop : o.op = .load t x) (hy : look TT t = some (.sl e kk by')) (hx : (PS.ev ⟨tm, rw', bx⟩ x) = .eptr R i off) (hR : PS.r ⟨tm, rw', bx⟩ R = some (et, dR F q)) (hq : q.deep = true) (hoff : Nat.beq (off + 1) q.sz = true) (hm : (q.nn i.toNat).len = m) (hd : o.dst = some b) (hn : Nat.blt b C.n = true) (hi : 0 ≤ i ∧ i < (q.len : Int))
  (h : VO C ops K rest ⟨(b, .irow F i.toNat m) :: tm, rw', bx⟩) : VO C ops K (o :: rest) ⟨tm, rw', bx⟩ :=
 oStepW hw (sLoadD hT hop hy hx hR hq hoff hm hi (by rw [hd]; exact hn) (by rw [hd]; exact h))
theorem cLoadD (hT : TTOK C.P TT) (hw : Wanted C ops o ⟨tm, rw', bx⟩) {t et : TypeId} {e : TypeId} {kk : Sq} {by' : Nat} {x : Operand} {R F off m b : Nat} {i : Int} (q : Sq) (hop : o.op = .load t x) (hy : look TT t = some (.sl e kk by')) (hx : (PS.ev ⟨tm, rw', bx⟩ x) = .eptr R i off) (hR : PS.r ⟨tm, rw', bx⟩ R = some (et, dR F q)) (hq : q.deep = true) (hoff : Nat.beq (off + 1) q.sz = true) (hm : (q.nn i.toNat).len = m) (hd : o.dst = some b) (hn : Nat.blt b C.n = true) (hi : 0 ≤ i ∧ i < (q.len : Int))
  (h : QC C ops K rest ⟨(b, .irow F i.toNat m) :: tm, rw', bx⟩) : QC C ops K (o :: rest) ⟨tm, rw', bx⟩ :=
 ⟨.irow F i.toNat m, qStep hw fun s1 hag => sLoadD hT hop hy ((hag.ev x (by rw [hop]; simp [Op.operands])).trans hx) (by rw [hag.r]; exact hR) hq hoff hm hi (by rw [hd]; exact hn) rfl, by rw [hd]; exact h⟩
theorem oAppendD (q' : Sq) (hT : TTOK C.P TT) (hg : o.guard = none) {t e : TypeId} {k q qb : Sq} {by' b R F m m' : Nat} {x y : Operand} {dy : D} {ob : Prop} (hop : o.op = .call { callee := .builtin .append, args := #[x, y], argTypes := #[t, t] }) (hd : o.dst = some b) (hy : look TT t = some (.sl e k by'))
  (hx : (PS.ev ⟨tm, rw', bx⟩ x) = .row R 0 m) (hR : PS.r ⟨tm, rw', bx⟩ R = some (e, dR F q)) (hyy : (PS.ev ⟨tm, rw', bx⟩ y) = dy) (hs : srcSq ⟨tm, rw', bx⟩ dy = some (ob, qb)) (hob : ob) (hk : Nat.beq k.sz q.sz = true) (hbb : Nat.ble by' 32 = true) (hn : Nat.blt b C.n = true) (hlo : Nat.ble R 999999 = true)
  (hm : m = q.len) (hm' : m' = q'.len) {s' : PS} (hnf : nf ⟨(b, .row R 0 m') :: (PS.kill ⟨tm, rw', bx⟩ R).tmp, (R, some (e, dR F q')) :: rw', (PS.kill ⟨tm, rw', bx⟩ R).box⟩ = some s') (happ : (dR F q).app qb = some (dR F q')) (hbd : q.len + qb.len ≤ 4294967296) (h : VO C ops K rest s') : VO C ops K (o :: rest) ⟨tm, rw', bx⟩ := by
 subst hm'
 refine vOp hg (sAppend hT hop hd hy hx hR (by rw [dR_sz]; exact hk) hyy hs happ hbb hn (by rw [dR_len]; exact hm) hob (by rw [dR_len]; exact hbd) hlo ?_)
 rw [dR_len]
 exact vNf hnf h
end
end Go.Proofs.YtmoamglpocjhgaaGreat
namespace Go.Proofs.YtmoamglpocjhgaaGreat
open Go.RowKit Go.Deep
theorem fam_get {q : Sq} (hq : q.deep = true) {k : Nat} (hk : k < q.len) : (famOf q).get k = some (q.nn k) := by rw [famOf_get hq, if_pos hk]
section
variable {C : Cx} {tm : List (Nat × D)} {rw' : List (Nat × Option (TypeId × Sq))} {bx : List (Nat × Option (List D))} {s' : PS}
end
section
variable {C : Cx} {ops : Array Oper} {K : PS → Prop} {o : Oper} {rest : List Oper} {s : PS} {TT : List (Nat × Ty)} {tm : List (Nat × D)} {rw' : List (Nat × Option (TypeId × Sq))} {bx : List (Nat × Option (List D))}
end
end Go.Proofs.YtmoamglpocjhgaaGreat
namespace Go.Proofs.YtmoamglpocjhgaaGreat
open Go.RowKit Go.Deep
section
variable {C : Cx} {ops : Array Oper} {K : PS → Prop} {o : Oper} {rest : List Oper} {TT : List (Nat × Ty)} {tm : List (Nat × D)} {rw' : List (Nat × Option (TypeId × Sq))} {bx : List (Nat × Option (List D))} {cr B : List Nat} {j : Nat}
end
end Go.Proofs.YtmoamglpocjhgaaGreat
namespace Go.Proofs.YtmoamglpocjhgaaGreat
open Go.RowKit
end Go.Proofs.YtmoamglpocjhgaaGreat
namespace Go.Proofs.YtmoamglpocjhgaaGreat
open Go.RowKit Go.Deep
def S_l17Power_l1 (N : Nat) (a_0 : Int) (n_1 : Int) (k : Int → Option (Int)) : Nat → (Int × Int) → Option (Int)
 | 0, _ => none
 | n + 1, (x5, i6) =>
  cnd (decide (i6 < n_1)) (
   grd (Rg64 (x5 * a_0)) <|
   grd (Rg64 (i6 + (1 : Int))) <|
   S_l17Power_l1 N a_0 n_1 k n ((x5 * a_0), (i6 + (1 : Int)))) (
   k x5)
def S_l17Power (N : Nat) (a_0 : Int) (n_1 : Int) : Option (Int) :=
 S_l17Power_l1 N a_0 n_1 (fun (x3 : Int) =>
    some x3) N ((1 : Int), (0 : Int))
set_option maxRecDepth 20000 in
set_option maxHeartbeats 1600000 in
theorem S_l17Power_w (N : Nat) (a_0 : Int) (n_1 : Int) (r : Int) (h : S_l17Power N a_0 n_1 = some r) : PCall Tryz.prog 84 [.int a_0, .int n_1] [] (.int r) := by
 unfold S_l17Power at h
 refine pcall_intro (TT := TT) tt Tryz.func84 rfl rfl Tryz.ntmps84 (congrArg Array.toList Tryz.results84) rfl rfl fun w0 => ?_
 refine vSeq ?_
 refine vRegion ?_
 refine oVal tt rfl rfl rfl rfl rfl trivial ?_
 refine vNil ?_
 change VC _ _ _ _
 refine vSeq ?_
 refine vRegion ?_
 refine oVal tt rfl rfl rfl rfl rfl trivial ?_
 refine vNil ?_
 change VC _ _ _ _
 iterate 2 refine vSeq ?_
 refine vRegion ?_
 refine oVal tt rfl rfl rfl rfl rfl trivial ?_
 refine vNil ?_
 change VC _ _ _ _
 refine vJoin (F := fun k => S_l17Power_l1 N a_0 n_1 k) h (α := Int) (J := fun (x3 : Int) => (⟨[(5, .int x3)], [], []⟩ : PS)) ?_ ?_
 ·rintro x3 h
  show VC _ _ _ (⟨[(5, .int x3)], [], []⟩ : PS)
  refine vSeq ?_
  refine vRegion ?_
  iterate 2 refine oVal tt rfl rfl rfl rfl rfl trivial ?_
  refine vNil ?_
  change VC _ _ _ _
  refine vRet ?_
  change ∃ _, _
  cases h
  exact ⟨[], _, rfl, trivial, rfl, (.eq rfl), rfl⟩
 ·intro k h
  refine vBlock ?_
  refine vLoopS (α := Int × Int) (fun | (x5, i6) => (⟨[(0, .int a_0), (1, .int n_1), (5, .int x5), (6, .int i6)], [], []⟩ : PS)) (S_l17Power_l1 N a_0 n_1 k) h (En.of ⟨rfl, rfl, rfl, rfl, trivial⟩ trivial trivial) (fun _ => rfl) ?_
  rintro n ⟨x5, i6⟩ h
  rw [S_l17Power_l1] at h
  show VC _ _ _ (⟨[(0, .int a_0), (1, .int n_1), (5, .int x5), (6, .int i6)], [], []⟩ : PS)
  iterate 2 refine vSeq ?_
  refine vRegion ?_
  iterate 3 refine oVal tt rfl rfl rfl rfl rfl trivial ?_
  refine vNil ?_
  change VC _ _ _ _
  refine vCond rfl (fun hb1 => ?_) (fun hb1 => ?_)
  ·replace h := cnd_t hb1 h
   refine vSkip ?_
   change VC _ _ _ _
   refine vSeq ?_
   refine vBlock ?_
   refine vRegion ?_
   iterate 2 refine oVal tt rfl rfl rfl rfl rfl trivial ?_
   obtain ⟨hg2, h⟩ := grd_inv h
   refine oVal tt rfl rfl rfl rfl rfl hg2 ?_
   refine oVal tt rfl rfl rfl rfl rfl trivial ?_
   refine vNil ?_
   change VC _ _ _ _
   refine vRegion ?_
   refine oVal tt rfl rfl rfl rfl rfl trivial ?_
   obtain ⟨hg3, h⟩ := grd_inv h
   refine oVal tt rfl rfl rfl rfl rfl hg3 ?_
   refine oVal tt rfl rfl rfl rfl rfl trivial ?_
   refine vNil ?_
   change ∃ _, _
   exact ⟨((x5 * a_0), (i6 + (1 : Int))), (En.of ⟨rfl, rfl, rfl, rfl, trivial⟩ trivial trivial), h⟩
  ·replace h := cnd_f hb1 h
   refine vExit ?_
   change ∃ _, _
   exact ⟨x5, (En.of ⟨rfl, trivial⟩ trivial trivial), h⟩
def S_PosesOf_l2 (N : Nat) (l_0 : Lnk) (v1 : List Int) (k : (List (Int × Int)) → Option ((List (List (Int × Int))) × Bool)) : Nat → ((List (Int × Int)) × Int × Int) → Option ((List (List (Int × Int))) × Bool)
 | 0, _ => none
 | n + 1, (l86, k87, i88) =>
  cnd (decide (i88 ≥ (0 : Int))) (
   grd (0 ≤ i88 ∧ i88 < (v1.length : Int)) <|
   grd ((5 : Int) ≠ 0) <|
   grd ((5 : Int) ≠ 0 ∧ Rg64 (Int.tdiv k87 (5 : Int))) <|
   grd (0 ≤ (v1.getD ((i88).toNat) 0) ∧ (v1.getD ((i88).toNat) 0) < ((([] : List (Int × Int)) ++ l_0.f.places).length : Int)) <|
   grd (0 ≤ (v1.getD ((i88).toNat) 0) ∧ (v1.getD ((i88).toNat) 0) < (l86.length : Int)) <|
   grd ((25 : Int) ≠ 0 ∧ Rg64 (Int.tdiv k87 (25 : Int))) <|
   grd (Rg64 (i88 - (1 : Int))) <|
   S_PosesOf_l2 N l_0 v1 k n (((l86.set (((v1.getD ((i88).toNat) 0)).toNat) ((Int.tmod k87 (5 : Int)), (l86.getD (((v1.getD ((i88).toNat) 0)).toNat) (0, 0)).2)).set (((v1.getD ((i88).toNat) 0)).toNat) (((l86.set (((v1.getD ((i88).toNat) 0)).toNat) ((Int.tmod k87 (5 : Int)), (l86.getD (((v1.getD ((i88).toNat) 0)).toNat) (0, 0)).2)).getD (((v1.getD ((i88).toNat) 0)).toNat) (0, 0)).1, (Int.tmod (Int.tdiv k87 (5 : Int)) (5 : Int)))), (Int.tdiv k87 (25 : Int)), (i88 - (1 : Int)))) (
   k l86)
def S_PosesOf_l1 (N : Nat) (l_0 : Lnk) (v1 : List Int) (k : (List (List (Int × Int))) → Option ((List (List (Int × Int))) × Bool)) : Nat → ((List (List (Int × Int))) × Int) → Option ((List (List (Int × Int))) × Bool)
 | 0, _ => none
 | n + 1, (l67, code68) =>
  (S_l17Power N (25 : Int) (v1.length : Int)).bind fun v79 =>
  cnd (decide (code68 < v79)) (
   grd (l_0.f.places.length ≤ 4294967296) <|
   grd (Rg64 ((v1.length : Int) - (1 : Int))) <|
   S_PosesOf_l2 N l_0 v1 (fun (l83 : List (Int × Int)) =>
      grd ((([] : List (Int × Int)) ++ l_0.f.places).length = l83.length) <|
      (S_IsPose N l_0 l83).bind fun v84 =>
      cnd v84 (
       grd (l67.length + 1 ≤ 4294967296) <|
       grd (Rg64 (code68 + (1 : Int))) <|
       S_PosesOf_l1 N l_0 v1 k n ((l67 ++ ([l83] : List (List (Int × Int)))), (code68 + (1 : Int)))) (
       grd (Rg64 (code68 + (1 : Int))) <|
       S_PosesOf_l1 N l_0 v1 k n (l67, (code68 + (1 : Int))))) N ((([] : List (Int × Int)) ++ l_0.f.places), code68, ((v1.length : Int) - (1 : Int)))) (
   k l67)
def S_PosesOf (N : Nat) (l_0 : Lnk) : Option ((List (List (Int × Int))) × Bool) :=
 (S_FreeJoints N l_0).bind fun v1 =>
 (S_IsLinkage N l_0).bind fun v2 =>
 cnd (!v2) (
  some (([] : List (List (Int × Int))), false)) (
  S_PosesOf_l1 N l_0 v1 (fun (l45 : List (List (Int × Int))) =>
     some (l45, true)) N (([] : List (List (Int × Int))), (0 : Int)))
set_option maxRecDepth 20000 in
set_option maxHeartbeats 1600000 in
theorem S_PosesOf_w (N : Nat) (l_0 : Lnk) (r : (List (List (Int × Int))) × Bool) (h : S_PosesOf N l_0 = some r) : PCall Tryz.prog 50 [lD l_0] [(49, .pairss r.1)] (.tup [.row 0 0 r.1.length, .bool r.2]) := by
 unfold S_PosesOf at h
 refine pcall_intro (TT := TT) tt Tryz.func50 rfl rfl Tryz.ntmps50 (congrArg Array.toList Tryz.results50) rfl rfl fun w0 => ?_
 refine vSeq ?_
 refine vRegion ?_
 refine oBox rfl rfl rfl rfl rfl rfl rfl rfl rfl ?_
 iterate 2 refine oVal tt rfl rfl rfl rfl rfl trivial ?_
 refine vNil ?_
 change VC _ _ _ _
 refine vSeq ?_
 refine vRegion ?_
 refine oEmpty tt (wNone rfl) rfl rfl rfl rfl ?_
 refine oVal tt rfl rfl rfl rfl rfl trivial ?_
 refine vNil ?_
 change VC _ _ _ _
 refine vSeq ?_
 refine vRegion ?_
 refine oVal tt rfl rfl rfl rfl rfl trivial ?_
 obtain ⟨v1, hc1, h⟩ := bind_inv h
 refine oCall (S_FreeJoints_w N l_0 v1 hc1) rfl rfl rfl rfl rfl rfl rfl rfl ⟨⟨rfl, rfl, rfl, rfl, trivial⟩, trivial⟩ ?_
 refine oVal tt rfl rfl rfl rfl rfl trivial ?_
 refine vNil ?_
 change VC _ _ _ _
 iterate 2 refine vSeq ?_
 refine vRegion ?_
 refine oVal tt rfl rfl rfl rfl rfl trivial ?_
 obtain ⟨v2, hc2, h⟩ := bind_inv h
 refine oCall (S_IsLinkage_w N l_0 v2 hc2) rfl rfl rfl rfl rfl rfl rfl rfl ⟨⟨rfl, rfl, rfl, rfl, trivial⟩, trivial⟩ ?_
 refine oVal tt rfl rfl rfl rfl rfl trivial ?_
 refine vNil ?_
 change VC _ _ _ _
 refine vCond rfl (fun hb3 => ?_) (fun hb3 => ?_)
 ·replace h := cnd_t hb3 h
  refine vSeq ?_
  refine vRegion ?_
  iterate 3 refine oVal tt rfl rfl rfl rfl rfl trivial ?_
  refine vNil ?_
  change VC _ _ _ _
  refine vNilT 2 9001 49 (.pairss []) rfl rfl rfl rfl ?_
  refine vRet ?_
  change ∃ _, _
  cases h
  exact ⟨[9001], _, rfl, ⟨rfl, trivial⟩, rfl, (.eq rfl), rfl⟩
 ·replace h := cnd_f hb3 h
  refine vSkip ?_
  change VC _ _ _ _
  iterate 2 refine vSeq ?_
  refine vRegion ?_
  refine oVal tt rfl rfl rfl rfl rfl trivial ?_
  refine vNil ?_
  change VC _ _ _ _
  refine vJoin (F := fun k => S_PosesOf_l1 N l_0 v1 k) h (α := List (List (Int × Int))) (J := fun (l45 : List (List (Int × Int))) => (⟨[(4, .row 57 0 l45.length)], [(57, some (49, .pairss l45))], []⟩ : PS)) ?_ ?_
  ·rintro l45 h
   show VC _ _ _ (⟨[(4, .row 57 0 l45.length)], [(57, some (49, .pairss l45))], []⟩ : PS)
   refine vSeq ?_
   refine vRegion ?_
   iterate 3 refine oVal tt rfl rfl rfl rfl rfl trivial ?_
   refine vNil ?_
   change VC _ _ _ _
   refine vRet ?_
   change ∃ _, _
   cases h
   exact ⟨[57], _, rfl, ⟨rfl, trivial⟩, rfl, (.eq rfl), rfl⟩
  ·intro k h
   refine vBlock ?_
   refine vNilT 4 57 49 (.pairss []) rfl rfl rfl rfl ?_
   refine vLoopS (α := (List (List (Int × Int))) × Int) (fun | (l67, code68) => (⟨[(1, .ptr 1 0), (4, .row 57 0 l67.length), (5, .row 1120 0 v1.length), (6, .int code68)], [(57, some (49, .pairss l67)), (1120, some (3, .ints v1))], [(1, some [.int l_0.f.g.n, .ro false (.pairs l_0.f.g.bars), .ro false (.pairs l_0.f.places), .ro false (.ints l_0.ground)])]⟩ : PS)) (S_PosesOf_l1 N l_0 v1 k) h (En.of ⟨rfl, rfl, rfl, rfl, trivial⟩ ⟨rfl, rfl, trivial⟩ ⟨rfl, trivial⟩) (fun _ => rfl) ?_
   rintro n ⟨l67, code68⟩ h
   rw [S_PosesOf_l1] at h
   show VC _ _ _ (⟨[(1, .ptr 1 0), (4, .row 57 0 l67.length), (5, .row 1120 0 v1.length), (6, .int code68)], [(57, some (49, .pairss l67)), (1120, some (3, .ints v1))], [(1, some [.int l_0.f.g.n, .ro false (.pairs l_0.f.g.bars), .ro false (.pairs l_0.f.places), .ro false (.ints l_0.ground)])]⟩ : PS)
   iterate 2 refine vSeq ?_
   refine vRegion ?_
   iterate 3 refine oVal tt rfl rfl rfl rfl rfl trivial ?_
   obtain ⟨v79, hc4, h⟩ := bind_inv h
   refine oCall (S_l17Power_w N (25 : Int) (v1.length : Int) v79 hc4) rfl rfl rfl rfl rfl rfl rfl rfl ⟨rfl, rfl, trivial⟩ ?_
   refine oVal tt rfl rfl rfl rfl rfl trivial ?_
   refine vNil ?_
   change VC _ _ _ _
   refine vCond rfl (fun hb5 => ?_) (fun hb5 => ?_)
   ·replace h := cnd_t hb5 h
    refine vSkip ?_
    change VC _ _ _ _
    refine vSeq ?_
    refine vBlock ?_
    refine vSeq ?_
    refine vRegion ?_
    refine oEmpty tt (wNone rfl) rfl rfl rfl rfl ?_
    iterate 3 refine oVal tt rfl rfl rfl rfl rfl trivial ?_
    obtain ⟨hg6, h⟩ := grd_inv h
    refine oAppNil tt (wNone rfl) rfl rfl rfl rfl rfl rfl rfl (fun _ => rfl) rfl rfl rfl rfl rfl hg6 ?_
    refine oVal tt rfl rfl rfl rfl rfl trivial ?_
    refine vNil ?_
    change VC _ _ _ _
    refine vSeq ?_
    refine vRegion ?_
    iterate 2 refine oVal tt rfl rfl rfl rfl rfl trivial ?_
    refine vNil ?_
    change VC _ _ _ _
    iterate 2 refine vSeq ?_
    refine vRegion ?_
    iterate 2 refine oVal tt rfl rfl rfl rfl rfl trivial ?_
    obtain ⟨hg7, h⟩ := grd_inv h
    refine oVal tt rfl rfl rfl rfl rfl hg7 ?_
    refine oVal tt rfl rfl rfl rfl rfl trivial ?_
    refine vNil ?_
    change VC _ _ _ _
    refine vJoin (F := fun k => S_PosesOf_l2 N l_0 v1 k) h (α := List (Int × Int)) (J := fun (l83 : List (Int × Int)) => (⟨[(1, .ptr 1 0), (4, .row 57 0 l67.length), (5, .row 1120 0 v1.length), (6, .int code68), (7, .row 28 0 ((([] : List (Int × Int)) ++ l_0.f.places).length))], [(57, some (49, .pairss l67)), (1120, some (3, .ints v1)), (28, some (83, .pairs l83))], [(1, some [.int l_0.f.g.n, .ro false (.pairs l_0.f.g.bars), .ro false (.pairs l_0.f.places), .ro false (.ints l_0.ground)])]⟩ : PS)) ?_ ?_
    ·rintro l83 h
     show VC _ _ _ (⟨[(1, .ptr 1 0), (4, .row 57 0 l67.length), (5, .row 1120 0 v1.length), (6, .int code68), (7, .row 28 0 ((([] : List (Int × Int)) ++ l_0.f.places).length))], [(57, some (49, .pairss l67)), (1120, some (3, .ints v1)), (28, some (83, .pairs l83))], [(1, some [.int l_0.f.g.n, .ro false (.pairs l_0.f.g.bars), .ro false (.pairs l_0.f.places), .ro false (.ints l_0.ground)])]⟩ : PS)
     refine vSeq ?_
     refine vRegion ?_
     iterate 2 refine oVal tt rfl rfl rfl rfl rfl trivial ?_
     obtain ⟨hg8, h⟩ := grd_inv h
     obtain ⟨v84, hc9, h⟩ := bind_inv h
     refine oCall (S_IsPose_w N l_0 l83 v84 hc9) rfl rfl rfl rfl rfl rfl rfl rfl ⟨⟨rfl, rfl, rfl, rfl, trivial⟩, (.inl ⟨hg8, rfl⟩), trivial⟩ ?_
     refine vNil ?_
     change VC _ _ _ _
     refine vCond rfl (fun hb10 => ?_) (fun hb10 => ?_)
     ·replace h := cnd_t hb10 h
      refine vRegion ?_
      iterate 2 refine oVal tt rfl rfl rfl rfl rfl trivial ?_
      refine oFreeze (t := 55) rfl rfl rfl hg8 ?_
      refine oBuild tt rfl rfl rfl rfl rfl rfl rfl rfl rfl rfl rfl ?_
      obtain ⟨hg11, h⟩ := grd_inv h
      refine oAppend tt rfl rfl rfl rfl rfl rfl rfl rfl rfl rfl rfl rfl rfl rfl rfl rfl (Nat.le_of_eq (Nat.zero_add _)) hg11 ?_
      refine oVal tt rfl rfl rfl rfl rfl trivial ?_
      refine vNil ?_
      change VC _ _ _ _
      refine vRegion ?_
      refine oVal tt rfl rfl rfl rfl rfl trivial ?_
      obtain ⟨hg12, h⟩ := grd_inv h
      refine oVal tt rfl rfl rfl rfl rfl hg12 ?_
      refine oVal tt rfl rfl rfl rfl rfl trivial ?_
      refine vNil ?_
      change ∃ _, _
      exact ⟨((l67 ++ ([l83] : List (List (Int × Int)))), (code68 + (1 : Int))), (En.of ⟨rfl, rfl, rfl, rfl, trivial⟩ ⟨rfl, rfl, trivial⟩ ⟨rfl, trivial⟩), h⟩
     ·replace h := cnd_f hb10 h
      refine vSkip ?_
      change VC _ _ _ _
      refine vRegion ?_
      refine oVal tt rfl rfl rfl rfl rfl trivial ?_
      obtain ⟨hg13, h⟩ := grd_inv h
      refine oVal tt rfl rfl rfl rfl rfl hg13 ?_
      refine oVal tt rfl rfl rfl rfl rfl trivial ?_
      refine vNil ?_
      change ∃ _, _
      exact ⟨(l67, (code68 + (1 : Int))), (En.of ⟨rfl, rfl, rfl, rfl, trivial⟩ ⟨rfl, rfl, trivial⟩ ⟨rfl, trivial⟩), h⟩
    ·intro k h
     refine vBlock ?_
     refine vLoopS (α := (List (Int × Int)) × Int × Int) (fun | (l86, k87, i88) => (⟨[(1, .ptr 1 0), (4, .row 57 0 l67.length), (5, .row 1120 0 v1.length), (6, .int code68), (7, .row 28 0 ((([] : List (Int × Int)) ++ l_0.f.places).length)), (8, .int k87), (9, .int i88)], [(57, some (49, .pairss l67)), (1120, some (3, .ints v1)), (28, some (83, .pairs l86))], [(1, some [.int l_0.f.g.n, .ro false (.pairs l_0.f.g.bars), .ro false (.pairs l_0.f.places), .ro false (.ints l_0.ground)])]⟩ : PS)) (S_PosesOf_l2 N l_0 v1 k) h (En.of ⟨rfl, rfl, rfl, rfl, rfl, rfl, rfl, trivial⟩ ⟨rfl, rfl, rfl, trivial⟩ ⟨rfl, trivial⟩) (fun _ => rfl) ?_
     rintro n ⟨l86, k87, i88⟩ h
     rw [S_PosesOf_l2] at h
     show VC _ _ _ (⟨[(1, .ptr 1 0), (4, .row 57 0 l67.length), (5, .row 1120 0 v1.length), (6, .int code68), (7, .row 28 0 ((([] : List (Int × Int)) ++ l_0.f.places).length)), (8, .int k87), (9, .int i88)], [(57, some (49, .pairss l67)), (1120, some (3, .ints v1)), (28, some (83, .pairs l86))], [(1, some [.int l_0.f.g.n, .ro false (.pairs l_0.f.g.bars), .ro false (.pairs l_0.f.places), .ro false (.ints l_0.ground)])]⟩ : PS)
     iterate 2 refine vSeq ?_
     refine vRegion ?_
     iterate 2 refine oVal tt rfl rfl rfl rfl rfl trivial ?_
     refine vNil ?_
     change VC _ _ _ _
     refine vCond rfl (fun hb14 => ?_) (fun hb14 => ?_)
     ·replace h := cnd_t hb14 h
      refine vSkip ?_
      change VC _ _ _ _
      refine vSeq ?_
      refine vBlock ?_
      refine vSeq ?_
      refine vRegion ?_
      iterate 3 refine oVal tt rfl rfl rfl rfl rfl trivial ?_
      obtain ⟨hg15, h⟩ := grd_inv h
      iterate 2 refine oVal tt rfl rfl rfl rfl rfl hg15 ?_
      refine oVal tt rfl rfl rfl rfl rfl trivial ?_
      obtain ⟨hg16, h⟩ := grd_inv h
      refine oVal tt rfl rfl rfl rfl rfl hg16 ?_
      refine oVal tt rfl rfl rfl rfl rfl trivial ?_
      obtain ⟨hg17, h⟩ := grd_inv h
      refine oVal tt rfl rfl rfl rfl rfl hg17 ?_
      refine oVal tt rfl rfl rfl rfl rfl hg16 ?_
      refine oPure (wNone rfl) (pBuild bld_impl_Place rfl rfl) rfl rfl ?_
      obtain ⟨hg18, h⟩ := grd_inv h
      refine oVal tt rfl rfl rfl rfl rfl hg18 ?_
      obtain ⟨hg19, h⟩ := grd_inv h
      refine oStore tt rfl rfl rfl rfl rfl rfl rfl rfl rfl rfl ⟨_, _, rfl, hg19.1, hg19.2⟩ ⟨hg19, (by simpa [Sq.len] using hg19), trivial⟩ ?_
      refine vNil ?_
      change VC _ _ _ _
      refine vRegion ?_
      refine oVal tt rfl rfl rfl rfl rfl trivial ?_
      obtain ⟨hg20, h⟩ := grd_inv h
      refine oVal tt rfl rfl rfl rfl rfl hg20 ?_
      refine oVal tt rfl rfl rfl rfl rfl trivial ?_
      refine vNil ?_
      change VC _ _ _ _
      refine vRegion ?_
      refine oVal tt rfl rfl rfl rfl rfl trivial ?_
      obtain ⟨hg21, h⟩ := grd_inv h
      refine oVal tt rfl rfl rfl rfl rfl hg21 ?_
      refine oVal tt rfl rfl rfl rfl rfl trivial ?_
      refine vNil ?_
      change ∃ _, _
      exact ⟨(((l86.set (((v1.getD ((i88).toNat) 0)).toNat) ((Int.tmod k87 (5 : Int)), (l86.getD (((v1.getD ((i88).toNat) 0)).toNat) (0, 0)).2)).set (((v1.getD ((i88).toNat) 0)).toNat) (((l86.set (((v1.getD ((i88).toNat) 0)).toNat) ((Int.tmod k87 (5 : Int)), (l86.getD (((v1.getD ((i88).toNat) 0)).toNat) (0, 0)).2)).getD (((v1.getD ((i88).toNat) 0)).toNat) (0, 0)).1, (Int.tmod (Int.tdiv k87 (5 : Int)) (5 : Int)))), (Int.tdiv k87 (25 : Int)), (i88 - (1 : Int))), (En.of ⟨rfl, rfl, rfl, rfl, rfl, rfl, rfl, trivial⟩ ⟨rfl, rfl, rfl, trivial⟩ ⟨rfl, trivial⟩), h⟩
     ·replace h := cnd_f hb14 h
      refine vExit ?_
      change ∃ _, _
      exact ⟨l86, (En.of ⟨rfl, rfl, rfl, rfl, rfl, trivial⟩ ⟨rfl, rfl, rfl, trivial⟩ ⟨rfl, trivial⟩), h⟩
   ·replace h := cnd_f hb5 h
    refine vExit ?_
    change ∃ _, _
    exact ⟨l67, (En.of ⟨rfl, trivial⟩ ⟨rfl, trivial⟩ trivial), h⟩
end Go.Proofs.YtmoamglpocjhgaaGreat
namespace Go.Proofs.YtmoamglpocjhgaaGreat
open Go.RowKit Go.Deep
theorem wp_only {P : Program} {o : Oper} {a : Act} {w : World} {K : Act → World → Prop} {Q Q' : Exit → Act → World → Prop} (h : ∀ e a w, e ≠ .normal → Q e a w → Q' e a w) (hh : o.wp P a w K Q) : o.wp P a w K Q' := by
 unfold Oper.wp at *
 generalize (execOp a.eval o).run P w = r at *
 cases r with
 | ok n w' =>
  cases n <;> simp only [Oper.upon] at hh ⊢ <;>
   first
    | exact hh
    | exact Calls.mono hh (fun e w'' he => by
      cases e
      ·exact he
      ·exact h _ _ _ (by simp) he
      ·obtain ⟨a', w3, h3⟩ := he
       exact ⟨a', w3, h _ _ _ (by simp) h3⟩)
 | halt x w' => cases x <;> simp only [Oper.upon] at hh ⊢ <;> first | exact hh | exact h _ _ _ (by simp) hh
structure VX (C : Cx) (ops : Array Oper) (Q : Exit → PS → Prop) (fuel : Nat) (listed : Array Bool) (s : PS) : Prop where
 out : ∀ M a w, Rel C.w0 C.O0 C.n M s a w → wpAny C.P .any ops (fun e a' w' => ∃ s' M', Q e s' ∧ Rel C.w0 C.O0 C.n M' s' a' w') fuel listed a w
section
variable {C : Cx} {ops : Array Oper} {Q : Exit → PS → Prop} {s : PS} {fuel : Nat} {listed : Array Bool}
theorem vRegionX {id : Nat} {l : List Oper} (hm : C.P.follows .mixedOrders = true) (h : VX C l.toArray Q l.length (Array.replicate l.length false) s) : VC C (.region id l.toArray true) Q s :=
 ⟨fun M a w hr => wp_region_any hm (by rw [List.size_toArray]; exact h.out M a _ hr.drew)⟩
def AllX (C : Cx) (ops : Array Oper) (Q : Exit → PS → Prop) (fuel : Nat) (listed : Array Bool) (s : PS) : List Nat → Prop
 | [] => True
 | i :: l => (∃ o, ops.toList[i]? = some o ∧ VO C ops (VX C ops Q fuel (listed.setIfInBounds i true)) [o] s) ∧ AllX C ops Q fuel listed s l
theorem allX_mem : ∀ {l : List Nat} {i : Nat}, AllX C ops Q fuel listed s l → i ∈ l → ∃ o, ops.toList[i]? = some o ∧ VO C ops (VX C ops Q fuel (listed.setIfInBounds i true)) [o] s
 | _ :: l, i, h, hi => by
  rcases List.mem_cons.1 hi with rfl | hi
  ·exact h.1
  ·exact allX_mem h.2 hi
theorem xStep (rs : List Nat) (hr : Region.ready .any ops listed = rs) (hne : rs.isEmpty = false) (h : AllX C ops Q fuel listed s rs) : VX C ops Q (fuel + 1) listed s := ⟨fun M a w hrl => by
 refine ⟨fun h0 => ?_, fun i hi => ?_⟩
 ·rw [hr] at h0; subst h0; cases hne
 ·rw [hr] at hi
  obtain ⟨o, ho, hv⟩ := allX_mem h hi
  have ho' : ops[i]? = some o := by rw [← Array.getElem?_toList]; exact ho
  let Q' : Exit → Act → World → Prop := fun e a' w' => match e with | .normal => wpAny C.P .any ops (fun e a' w' => ∃ s' M', Q e s' ∧ Rel C.w0 C.O0 C.n M' s' a' w') fuel (listed.setIfInBounds i true) a' w' | _ => False
  have hl := hv.out M a w Q' hrl fun M' s' a' w' hk hr' => hk.out M' a' w' hr'
  have hF : ∀ e a w, e ≠ .normal → Q' e a w → ∀ (X : Prop), X := fun e a w he h X => by cases e <;> first | exact absurd rfl he | exact h.elim
  unfold wpOp
  rw [ho']
  simp only [wpList] at hl
  by_cases hw : Region.wanted o (yielded ops a.tmps) = true
  ·rw [if_pos hw] at hl
   simp only [hw, if_true]
   rcases hl with hl | ⟨_, hl⟩
   ·exact .inl (wp_only (Q := Q') (fun e a w he h => hF e a w he h _) hl)
   ·obtain ⟨a', w', h'⟩ := hl; exact h'.elim
  ·rw [if_neg hw] at hl
   simp only [hw]
   exact hl⟩
theorem xDone (hr : Region.ready .any ops listed = []) (h : Q .normal s) : VX C ops Q fuel listed s := ⟨fun M a w hrl => by
 cases fuel with
 | zero => exact ⟨hr, _, _, h, hrl⟩
 | succ fuel => exact ⟨fun _ => ⟨_, _, h, hrl⟩, fun i hi => by rw [hr] at hi; cases hi⟩⟩
theorem xNil {i : Nat} {l : List Nat} {o : Oper} (ho : ops.toList[i]? = some o) (h1 : VO C ops (VX C ops Q fuel (listed.setIfInBounds i true)) [o] s) (h2 : AllX C ops Q fuel listed s l) : AllX C ops Q fuel listed s (i :: l) := ⟨⟨o, ho, h1⟩, h2⟩
theorem xJoin {c : Code} {J : PS} (h : VC C c (fun e s => match e with | .normal => En C s J | _ => False) s) (hJ : Q .normal J) : VC C c Q s := ⟨fun M a w hr => by
 refine Code.wp_mono ?_ (h.out M a w hr)
 rintro e a' w' ⟨s', M', hq, hr'⟩
 cases e with
 | normal =>
  obtain ⟨M'', hr''⟩ := hq.out M' a' w' hr'
  exact ⟨J, M'', hJ, hr''⟩
 | _ => exact hq.elim⟩
end
section
variable {C : Cx} {tm : List (Nat × D)} {rw' : List (Nat × Option (TypeId × Sq))} {bx : List (Nat × Option (List D))} {s' : PS}
end
end Go.Proofs.YtmoamglpocjhgaaGreat
namespace Go.Proofs.YtmoamglpocjhgaaGreat
open Go.RowKit Go.Deep
def I_PosesOf_1_l2 (N : Nat) (i_0 : Int) (l_2 : Lnk) (rec_99 : Int → (List Int) → Lnk → (List (Int × Int)) → (List (List (Int × Int))) → Option ((List Int) × (List (Int × Int)) × (List (List (Int × Int))))) (x87 : Int) (k : ((List Int) × (List (Int × Int)) × (List (List (Int × Int)))) → Option ((List Int) × (List (Int × Int)) × (List (List (Int × Int))))) : Nat → ((List Int) × (List (Int × Int)) × (List (List (Int × Int))) × Int) → Option ((List Int) × (List (Int × Int)) × (List (List (Int × Int))))
 | 0, _ => none
 | n + 1, (l118, l119, l120, x121) =>
  cnd (decide (x121 < (5 : Int))) (
   grd (0 ≤ i_0 ∧ i_0 < (l118.length : Int)) <|
   grd (0 ≤ (l118.getD ((i_0).toNat) 0) ∧ (l118.getD ((i_0).toNat) 0) < (l119.length : Int)) <|
   grd (Rg64 (i_0 + (1 : Int))) <|
   grd (l119.length = ((l119.set (((l118.getD ((i_0).toNat) 0)).toNat) (x121, (l119.getD (((l118.getD ((i_0).toNat) 0)).toNat) (0, 0)).2)).set (((l118.getD ((i_0).toNat) 0)).toNat) (((l119.set (((l118.getD ((i_0).toNat) 0)).toNat) (x121, (l119.getD (((l118.getD ((i_0).toNat) 0)).toNat) (0, 0)).2)).getD (((l118.getD ((i_0).toNat) 0)).toNat) (0, 0)).1, x87)).length) <|
   (rec_99 (i_0 + (1 : Int)) l118 l_2 ((l119.set (((l118.getD ((i_0).toNat) 0)).toNat) (x121, (l119.getD (((l118.getD ((i_0).toNat) 0)).toNat) (0, 0)).2)).set (((l118.getD ((i_0).toNat) 0)).toNat) (((l119.set (((l118.getD ((i_0).toNat) 0)).toNat) (x121, (l119.getD (((l118.getD ((i_0).toNat) 0)).toNat) (0, 0)).2)).getD (((l118.getD ((i_0).toNat) 0)).toNat) (0, 0)).1, x87)) l120).bind fun v123 =>
   grd (Rg64 (x121 + (1 : Int))) <|
   I_PosesOf_1_l2 N i_0 l_2 rec_99 x87 k n (v123.1, v123.2.1, v123.2.2, (x121 + (1 : Int)))) (
   k (l118, l119, l120))
def I_PosesOf_1_l1 (N : Nat) (i_0 : Int) (l_2 : Lnk) (rec_99 : Int → (List Int) → Lnk → (List (Int × Int)) → (List (List (Int × Int))) → Option ((List Int) × (List (Int × Int)) × (List (List (Int × Int))))) (k : ((List Int) × (List (Int × Int)) × (List (List (Int × Int)))) → Option ((List Int) × (List (Int × Int)) × (List (List (Int × Int))))) : Nat → ((List Int) × (List (Int × Int)) × (List (List (Int × Int))) × Int) → Option ((List Int) × (List (Int × Int)) × (List (List (Int × Int))))
 | 0, _ => none
 | n + 1, (l84, l85, l86, x87) =>
  cnd (decide (x87 < (5 : Int))) (
   I_PosesOf_1_l2 N i_0 l_2 rec_99 x87 (fun (x : (List Int) × (List (Int × Int)) × (List (List (Int × Int)))) =>
     match x with
     | (l113, l114, l115) =>
      grd (Rg64 (x87 + (1 : Int))) <|
      I_PosesOf_1_l1 N i_0 l_2 rec_99 k n (l113, l114, l115, (x87 + (1 : Int)))) N (l84, l85, l86, (0 : Int))) (
   k (l84, l85, l86))
def I_PosesOf_1_b (N : Nat) (rec_99 : Int → (List Int) → Lnk → (List (Int × Int)) → (List (List (Int × Int))) → Option ((List Int) × (List (Int × Int)) × (List (List (Int × Int))))) (i_0 : Int) (free_1 : List Int) (l_2 : Lnk) (at_3 : List (Int × Int)) (out_4 : List (List (Int × Int))) : Option ((List Int) × (List (Int × Int)) × (List (List (Int × Int)))) :=
 cnd (i_0 == (free_1.length : Int)) (
  (I_IsPose N l_2 at_3).bind fun v1 =>
  jn (fun (l2 : List (List (Int × Int))) =>
     some (free_1, at_3, l2)) fun k3 =>
   cnd v1 (
    grd (((at_3.take (0 + at_3.length)).drop 0).length ≤ 4294967296) <|
    grd (out_4.length + 1 ≤ 4294967296) <|
    k3 (out_4 ++ [(([] : List (Int × Int)) ++ ((at_3.take (0 + at_3.length)).drop 0))])) (
    k3 out_4)) (
  I_PosesOf_1_l1 N i_0 l_2 rec_99 (fun (x : (List Int) × (List (Int × Int)) × (List (List (Int × Int)))) =>
    match x with
    | (l62, l63, l64) =>
     some (l62, l63, l64)) N (free_1, at_3, out_4, (0 : Int)))
def I_PosesOf_1_r (N : Nat) : Nat → Int → (List Int) → Lnk → (List (Int × Int)) → (List (List (Int × Int))) → Option ((List Int) × (List (Int × Int)) × (List (List (Int × Int))))
 | 0, _, _, _, _, _ => none
 | d + 1, i_0, free_1, l_2, at_3, out_4 => I_PosesOf_1_b N (I_PosesOf_1_r N d) i_0 free_1 l_2 at_3 out_4
def I_PosesOf_1 (N : Nat) (i_0 : Int) (free_1 : List Int) (l_2 : Lnk) (at_3 : List (Int × Int)) (out_4 : List (List (Int × Int))) : Option ((List Int) × (List (Int × Int)) × (List (List (Int × Int)))) := I_PosesOf_1_r N N i_0 free_1 l_2 at_3 out_4
set_option maxRecDepth 20000 in
set_option maxHeartbeats 1600000 in
theorem I_PosesOf_1_bw (N : Nat) (rec_99 : Int → (List Int) → Lnk → (List (Int × Int)) → (List (List (Int × Int))) → Option ((List Int) × (List (Int × Int)) × (List (List (Int × Int))))) (hrec : ∀ (i_0 : Int) (free_1 : List Int) (l_2 : Lnk) (at_3 : List (Int × Int)) (out_4 : List (List (Int × Int))) (r : (List Int) × (List (Int × Int)) × (List (List (Int × Int)))), rec_99 i_0 free_1 l_2 at_3 out_4 = some r → MCall Tryz.prog 90 [.int i_0, .ptr 1000001 0, .ptr 1000002 0, .ptr 1000003 0, .ptr 1000004 0, .ptr 1000005 0] [900010, 900030, 900040, 8589934602] [1000001, 1000002, 1000003, 1000004, 1000005] [(3, .ints free_1), (83, .pairs at_3), (49, dR 10 (.pairss out_4)), (83, dF (.pairss out_4))] [(3, .ints r.1), (83, .pairs r.2.1), (49, dR 10 (.pairss r.2.2)), (83, dF (.pairss r.2.2))] [[.row 900010 0 free_1.length], [.int l_2.f.g.n, .ro false (.pairs l_2.f.g.bars), .ro false (.pairs l_2.f.places), .ro false (.ints l_2.ground)], [.row 900030 0 at_3.length], [.row 900040 0 out_4.length], [.clo 90 [1000001, 1000002, 1000003, 1000004, 1000005]]] [[.row 900010 0 r.1.length], [.int l_2.f.g.n, .ro false (.pairs l_2.f.g.bars), .ro false (.pairs l_2.f.places), .ro false (.ints l_2.ground)], [.row 900030 0 r.2.1.length], [.row 900040 0 r.2.2.length], [.clo 90 [1000001, 1000002, 1000003, 1000004, 1000005]]] (.tup [])) (i_0 : Int) (free_1 : List Int) (l_2 : Lnk) (at_3 : List (Int × Int)) (out_4 : List (List (Int × Int))) (r : (List Int) × (List (Int × Int)) × (List (List (Int × Int)))) (h : I_PosesOf_1_b N rec_99 i_0 free_1 l_2 at_3 out_4 = some r) : MCall Tryz.prog 90 [.int i_0, .ptr 1000001 0, .ptr 1000002 0, .ptr 1000003 0, .ptr 1000004 0, .ptr 1000005 0] [900010, 900030, 900040, 8589934602] [1000001, 1000002, 1000003, 1000004, 1000005] [(3, .ints free_1), (83, .pairs at_3), (49, dR 10 (.pairss out_4)), (83, dF (.pairss out_4))] [(3, .ints r.1), (83, .pairs r.2.1), (49, dR 10 (.pairss r.2.2)), (83, dF (.pairss r.2.2))] [[.row 900010 0 free_1.length], [.int l_2.f.g.n, .ro false (.pairs l_2.f.g.bars), .ro false (.pairs l_2.f.places), .ro false (.ints l_2.ground)], [.row 900030 0 at_3.length], [.row 900040 0 out_4.length], [.clo 90 [1000001, 1000002, 1000003, 1000004, 1000005]]] [[.row 900010 0 r.1.length], [.int l_2.f.g.n, .ro false (.pairs l_2.f.g.bars), .ro false (.pairs l_2.f.places), .ro false (.ints l_2.ground)], [.row 900030 0 r.2.1.length], [.row 900040 0 r.2.2.length], [.clo 90 [1000001, 1000002, 1000003, 1000004, 1000005]]] (.tup []) := by
 unfold I_PosesOf_1_b at h
 refine mcall_intro (TT := TT) tt Tryz.func90 rfl rfl Tryz.ntmps90 (congrArg Array.toList Tryz.results90) rfl rfl rfl rfl rfl fun w0 O0 => ?_
 iterate 2 refine vSeq ?_
 refine vRegion ?_
 iterate 4 refine oVal tt rfl rfl rfl rfl rfl trivial ?_
 refine vNil ?_
 change VC _ _ _ _
 refine vCond rfl (fun hb1 => ?_) (fun hb1 => ?_)
 ·replace h := cnd_t hb1 h
  iterate 2 refine vSeq ?_
  refine vRegion ?_
  iterate 2 refine oVal tt rfl rfl rfl rfl rfl trivial ?_
  obtain ⟨v1, hc2, h⟩ := bind_inv h
  refine oCall (I_IsPose_w N l_2 at_3 v1 hc2) rfl rfl rfl rfl rfl rfl rfl rfl ⟨⟨rfl, rfl, rfl, rfl, trivial⟩, (.inl ⟨rfl, rfl⟩), trivial⟩ ?_
  refine vNil ?_
  change VC _ _ _ _
  refine vJoinN h (α := List (List (Int × Int))) (J := fun (l2 : List (List (Int × Int))) => (⟨[], [(900010, some (3, .ints free_1)), (900030, some (83, .pairs at_3)), (900040, some (49, dR 10 (.pairss l2))), (8589934602, some (83, dF (.pairss l2)))], [(1000001, some [.row 900010 0 free_1.length]), (1000002, some [.int l_2.f.g.n, .ro false (.pairs l_2.f.g.bars), .ro false (.pairs l_2.f.places), .ro false (.ints l_2.ground)]), (1000003, some [.row 900030 0 at_3.length]), (1000004, some [.row 900040 0 l2.length]), (1000005, some [.clo 90 [1000001, 1000002, 1000003, 1000004, 1000005]])]⟩ : PS)) ?_ ?_
  ·rintro l2 h
   show VC _ _ _ (⟨[], [(900010, some (3, .ints free_1)), (900030, some (83, .pairs at_3)), (900040, some (49, dR 10 (.pairss l2))), (8589934602, some (83, dF (.pairss l2)))], [(1000001, some [.row 900010 0 free_1.length]), (1000002, some [.int l_2.f.g.n, .ro false (.pairs l_2.f.g.bars), .ro false (.pairs l_2.f.places), .ro false (.ints l_2.ground)]), (1000003, some [.row 900030 0 at_3.length]), (1000004, some [.row 900040 0 l2.length]), (1000005, some [.clo 90 [1000001, 1000002, 1000003, 1000004, 1000005]])]⟩ : PS)
   refine vRet ?_
   change ∃ _, _
   cases h
   exact ⟨[900010, 900030, 900040, 8589934602], rfl, ⟨rfl, rfl, rfl, rfl, trivial⟩, ⟨rfl, rfl, rfl, rfl, rfl, trivial⟩, rfl⟩
  ·intro k3 h
   refine vCond rfl (fun hb3 => ?_) (fun hb3 => ?_)
   ·replace h := cnd_t hb3 h
    obtain ⟨hg4, h⟩ := grd_inv h
    obtain ⟨hg5, h⟩ := grd_inv h
    refine xJoin (J := (⟨[], [(900010, some (3, .ints free_1)), (900030, some (83, .pairs at_3)), (900040, some (49, dR 10 (.pairss (out_4 ++ [(([] : List (Int × Int)) ++ ((at_3.take (0 + at_3.length)).drop 0))])))), (8589934602, some (83, dF (.pairss (out_4 ++ [(([] : List (Int × Int)) ++ ((at_3.take (0 + at_3.length)).drop 0))]))))], [(1000001, some [.row 900010 0 free_1.length]), (1000002, some [.int l_2.f.g.n, .ro false (.pairs l_2.f.g.bars), .ro false (.pairs l_2.f.places), .ro false (.ints l_2.ground)]), (1000003, some [.row 900030 0 at_3.length]), (1000004, some [.row 900040 0 ((out_4 ++ [(([] : List (Int × Int)) ++ ((at_3.take (0 + at_3.length)).drop 0))]).length)]), (1000005, some [.clo 90 [1000001, 1000002, 1000003, 1000004, 1000005]])]⟩ : PS)) ?_ ?_
    ·refine vRegionX (by kernel_rfl) ?_
     refine xStep [0, 1, 2] (by kernel_rfl) rfl ?_
     refine xNil rfl ?_ ?_
     ·refine oVal tt rfl rfl rfl rfl rfl trivial ?_
      refine vNil ?_
      change VX _ _ _ _ _ _
      refine xStep [1, 2] (by kernel_rfl) rfl ?_
      refine xNil rfl ?_ ?_
      ·refine oEmpty tt (wNone rfl) rfl rfl rfl rfl ?_
       refine vNil ?_
       change VX _ _ _ _ _ _
       refine xStep [2] (by kernel_rfl) rfl ?_
       refine xNil rfl ?_ ?_
       ·refine oVal tt rfl rfl rfl rfl rfl trivial ?_
        refine vNil ?_
        change VX _ _ _ _ _ _
        refine xStep [3] (by kernel_rfl) rfl ?_
        refine xNil rfl ?_ ?_
        ·refine oAppendNil tt rfl rfl rfl rfl rfl rfl rfl rfl rfl rfl rfl rfl rfl rfl rfl (Nat.le_of_eq (Nat.zero_add _)) hg4 ?_
         refine vNil ?_
         change VX _ _ _ _ _ _
         refine xStep [4] (by kernel_rfl) rfl ?_
         refine xNil rfl ?_ ?_
         ·refine vEnO (En.adopt 19 19 900040 10 (q := (.pairss out_4)) rfl rfl rfl rfl rfl rfl (by simp [Sq.len, Fq.len, famOf, Fq.hole]) (pushP _ _) rfl (d' := .irow 10 out_4.length (([] : List (Int × Int)) ++ ((at_3.take (0 + at_3.length)).drop 0)).length) (by simp [Fq.len]) rfl) ?_
          refine oBuildI tt rfl rfl rfl rfl rfl rfl rfl rfl rfl rfl ?_
          refine vNil ?_
          change VX _ _ _ _ _ _
          refine xStep [5] (by kernel_rfl) rfl ?_
          refine xNil rfl ?_ ?_
          ·refine oAppendD (.pairss (out_4 ++ [(([] : List (Int × Int)) ++ ((at_3.take (0 + at_3.length)).drop 0))])) tt (q := (.pairss out_4)) rfl rfl rfl rfl rfl rfl rfl rfl (Nat.le_of_eq (Nat.zero_add _)) rfl rfl rfl rfl rfl rfl rfl (appP 10 out_4 (([] : List (Int × Int)) ++ ((at_3.take (0 + at_3.length)).drop 0))) hg5 ?_
           refine vNil ?_
           change VX _ _ _ _ _ _
           refine xStep [6] (by kernel_rfl) rfl ?_
           refine xNil rfl ?_ ?_
           ·refine oStore tt rfl rfl rfl rfl rfl rfl rfl rfl rfl rfl rfl ⟨trivial, trivial⟩ ?_
            refine vNil ?_
            change VX _ _ _ _ _ _
            refine xDone (by kernel_rfl) ?_
            change En _ _ _
            exact (En.of trivial ⟨rfl, rfl, rfl, rfl, trivial⟩ ⟨rfl, rfl, rfl, rfl, rfl, trivial⟩)
           exact trivial
          exact trivial
         exact trivial
        exact trivial
       exact trivial
      refine xNil rfl ?_ ?_
      ·refine oVal tt rfl rfl rfl rfl rfl trivial ?_
       refine vNil ?_
       change VX _ _ _ _ _ _
       refine xStep [1] (by kernel_rfl) rfl ?_
       refine xNil rfl ?_ ?_
       ·refine oEmpty tt (wNone rfl) rfl rfl rfl rfl ?_
        refine vNil ?_
        change VX _ _ _ _ _ _
        refine xStep [3] (by kernel_rfl) rfl ?_
        refine xNil rfl ?_ ?_
        ·refine oAppendNil tt rfl rfl rfl rfl rfl rfl rfl rfl rfl rfl rfl rfl rfl rfl rfl (Nat.le_of_eq (Nat.zero_add _)) hg4 ?_
         refine vNil ?_
         change VX _ _ _ _ _ _
         refine xStep [4] (by kernel_rfl) rfl ?_
         refine xNil rfl ?_ ?_
         ·refine vEnO (En.adopt 19 19 900040 10 (q := (.pairss out_4)) rfl rfl rfl rfl rfl rfl (by simp [Sq.len, Fq.len, famOf, Fq.hole]) (pushP _ _) rfl (d' := .irow 10 out_4.length (([] : List (Int × Int)) ++ ((at_3.take (0 + at_3.length)).drop 0)).length) (by simp [Fq.len]) rfl) ?_
          refine oBuildI tt rfl rfl rfl rfl rfl rfl rfl rfl rfl rfl ?_
          refine vNil ?_
          change VX _ _ _ _ _ _
          refine xStep [5] (by kernel_rfl) rfl ?_
          refine xNil rfl ?_ ?_
          ·refine oAppendD (.pairss (out_4 ++ [(([] : List (Int × Int)) ++ ((at_3.take (0 + at_3.length)).drop 0))])) tt (q := (.pairss out_4)) rfl rfl rfl rfl rfl rfl rfl rfl (Nat.le_of_eq (Nat.zero_add _)) rfl rfl rfl rfl rfl rfl rfl (appP 10 out_4 (([] : List (Int × Int)) ++ ((at_3.take (0 + at_3.length)).drop 0))) hg5 ?_
           refine vNil ?_
           change VX _ _ _ _ _ _
           refine xStep [6] (by kernel_rfl) rfl ?_
           refine xNil rfl ?_ ?_
           ·refine oStore tt rfl rfl rfl rfl rfl rfl rfl rfl rfl rfl rfl ⟨trivial, trivial⟩ ?_
            refine vNil ?_
            change VX _ _ _ _ _ _
            refine xDone (by kernel_rfl) ?_
            change En _ _ _
            exact (En.of trivial ⟨rfl, rfl, rfl, rfl, trivial⟩ ⟨rfl, rfl, rfl, rfl, rfl, trivial⟩)
           exact trivial
          exact trivial
         exact trivial
        exact trivial
       exact trivial
      exact trivial
     refine xNil rfl ?_ ?_
     ·refine oEmpty tt (wNone rfl) rfl rfl rfl rfl ?_
      refine vNil ?_
      change VX _ _ _ _ _ _
      refine xStep [0, 2] (by kernel_rfl) rfl ?_
      refine xNil rfl ?_ ?_
      ·refine oVal tt rfl rfl rfl rfl rfl trivial ?_
       refine vNil ?_
       change VX _ _ _ _ _ _
       refine xStep [2] (by kernel_rfl) rfl ?_
       refine xNil rfl ?_ ?_
       ·refine oVal tt rfl rfl rfl rfl rfl trivial ?_
        refine vNil ?_
        change VX _ _ _ _ _ _
        refine xStep [3] (by kernel_rfl) rfl ?_
        refine xNil rfl ?_ ?_
        ·refine oAppendNil tt rfl rfl rfl rfl rfl rfl rfl rfl rfl rfl rfl rfl rfl rfl rfl (Nat.le_of_eq (Nat.zero_add _)) hg4 ?_
         refine vNil ?_
         change VX _ _ _ _ _ _
         refine xStep [4] (by kernel_rfl) rfl ?_
         refine xNil rfl ?_ ?_
         ·refine vEnO (En.adopt 19 19 900040 10 (q := (.pairss out_4)) rfl rfl rfl rfl rfl rfl (by simp [Sq.len, Fq.len, famOf, Fq.hole]) (pushP _ _) rfl (d' := .irow 10 out_4.length (([] : List (Int × Int)) ++ ((at_3.take (0 + at_3.length)).drop 0)).length) (by simp [Fq.len]) rfl) ?_
          refine oBuildI tt rfl rfl rfl rfl rfl rfl rfl rfl rfl rfl ?_
          refine vNil ?_
          change VX _ _ _ _ _ _
          refine xStep [5] (by kernel_rfl) rfl ?_
          refine xNil rfl ?_ ?_
          ·refine oAppendD (.pairss (out_4 ++ [(([] : List (Int × Int)) ++ ((at_3.take (0 + at_3.length)).drop 0))])) tt (q := (.pairss out_4)) rfl rfl rfl rfl rfl rfl rfl rfl (Nat.le_of_eq (Nat.zero_add _)) rfl rfl rfl rfl rfl rfl rfl (appP 10 out_4 (([] : List (Int × Int)) ++ ((at_3.take (0 + at_3.length)).drop 0))) hg5 ?_
           refine vNil ?_
           change VX _ _ _ _ _ _
           refine xStep [6] (by kernel_rfl) rfl ?_
           refine xNil rfl ?_ ?_
           ·refine oStore tt rfl rfl rfl rfl rfl rfl rfl rfl rfl rfl rfl ⟨trivial, trivial⟩ ?_
            refine vNil ?_
            change VX _ _ _ _ _ _
            refine xDone (by kernel_rfl) ?_
            change En _ _ _
            exact (En.of trivial ⟨rfl, rfl, rfl, rfl, trivial⟩ ⟨rfl, rfl, rfl, rfl, rfl, trivial⟩)
           exact trivial
          exact trivial
         exact trivial
        exact trivial
       exact trivial
      refine xNil rfl ?_ ?_
      ·refine oVal tt rfl rfl rfl rfl rfl trivial ?_
       refine vNil ?_
       change VX _ _ _ _ _ _
       refine xStep [0, 3] (by kernel_rfl) rfl ?_
       refine xNil rfl ?_ ?_
       ·refine oVal tt rfl rfl rfl rfl rfl trivial ?_
        refine vNil ?_
        change VX _ _ _ _ _ _
        refine xStep [3] (by kernel_rfl) rfl ?_
        refine xNil rfl ?_ ?_
        ·refine oAppendNil tt rfl rfl rfl rfl rfl rfl rfl rfl rfl rfl rfl rfl rfl rfl rfl (Nat.le_of_eq (Nat.zero_add _)) hg4 ?_
         refine vNil ?_
         change VX _ _ _ _ _ _
         refine xStep [4] (by kernel_rfl) rfl ?_
         refine xNil rfl ?_ ?_
         ·refine vEnO (En.adopt 19 19 900040 10 (q := (.pairss out_4)) rfl rfl rfl rfl rfl rfl (by simp [Sq.len, Fq.len, famOf, Fq.hole]) (pushP _ _) rfl (d' := .irow 10 out_4.length (([] : List (Int × Int)) ++ ((at_3.take (0 + at_3.length)).drop 0)).length) (by simp [Fq.len]) rfl) ?_
          refine oBuildI tt rfl rfl rfl rfl rfl rfl rfl rfl rfl rfl ?_
          refine vNil ?_
          change VX _ _ _ _ _ _
          refine xStep [5] (by kernel_rfl) rfl ?_
          refine xNil rfl ?_ ?_
          ·refine oAppendD (.pairss (out_4 ++ [(([] : List (Int × Int)) ++ ((at_3.take (0 + at_3.length)).drop 0))])) tt (q := (.pairss out_4)) rfl rfl rfl rfl rfl rfl rfl rfl (Nat.le_of_eq (Nat.zero_add _)) rfl rfl rfl rfl rfl rfl rfl (appP 10 out_4 (([] : List (Int × Int)) ++ ((at_3.take (0 + at_3.length)).drop 0))) hg5 ?_
           refine vNil ?_
           change VX _ _ _ _ _ _
           refine xStep [6] (by kernel_rfl) rfl ?_
           refine xNil rfl ?_ ?_
           ·refine oStore tt rfl rfl rfl rfl rfl rfl rfl rfl rfl rfl rfl ⟨trivial, trivial⟩ ?_
            refine vNil ?_
            change VX _ _ _ _ _ _
            refine xDone (by kernel_rfl) ?_
            change En _ _ _
            exact (En.of trivial ⟨rfl, rfl, rfl, rfl, trivial⟩ ⟨rfl, rfl, rfl, rfl, rfl, trivial⟩)
           exact trivial
          exact trivial
         exact trivial
        exact trivial
       refine xNil rfl ?_ ?_
       ·refine oAppendNil tt rfl rfl rfl rfl rfl rfl rfl rfl rfl rfl rfl rfl rfl rfl rfl (Nat.le_of_eq (Nat.zero_add _)) hg4 ?_
        refine vNil ?_
        change VX _ _ _ _ _ _
        refine xStep [0, 4] (by kernel_rfl) rfl ?_
        refine xNil rfl ?_ ?_
        ·refine oVal tt rfl rfl rfl rfl rfl trivial ?_
         refine vNil ?_
         change VX _ _ _ _ _ _
         refine xStep [4] (by kernel_rfl) rfl ?_
         refine xNil rfl ?_ ?_
         ·refine vEnO (En.adopt 19 19 900040 10 (q := (.pairss out_4)) rfl rfl rfl rfl rfl rfl (by simp [Sq.len, Fq.len, famOf, Fq.hole]) (pushP _ _) rfl (d' := .irow 10 out_4.length (([] : List (Int × Int)) ++ ((at_3.take (0 + at_3.length)).drop 0)).length) (by simp [Fq.len]) rfl) ?_
          refine oBuildI tt rfl rfl rfl rfl rfl rfl rfl rfl rfl rfl ?_
          refine vNil ?_
          change VX _ _ _ _ _ _
          refine xStep [5] (by kernel_rfl) rfl ?_
          refine xNil rfl ?_ ?_
          ·refine oAppendD (.pairss (out_4 ++ [(([] : List (Int × Int)) ++ ((at_3.take (0 + at_3.length)).drop 0))])) tt (q := (.pairss out_4)) rfl rfl rfl rfl rfl rfl rfl rfl (Nat.le_of_eq (Nat.zero_add _)) rfl rfl rfl rfl rfl rfl rfl (appP 10 out_4 (([] : List (Int × Int)) ++ ((at_3.take (0 + at_3.length)).drop 0))) hg5 ?_
           refine vNil ?_
           change VX _ _ _ _ _ _
           refine xStep [6] (by kernel_rfl) rfl ?_
           refine xNil rfl ?_ ?_
           ·refine oStore tt rfl rfl rfl rfl rfl rfl rfl rfl rfl rfl rfl ⟨trivial, trivial⟩ ?_
            refine vNil ?_
            change VX _ _ _ _ _ _
            refine xDone (by kernel_rfl) ?_
            change En _ _ _
            exact (En.of trivial ⟨rfl, rfl, rfl, rfl, trivial⟩ ⟨rfl, rfl, rfl, rfl, rfl, trivial⟩)
           exact trivial
          exact trivial
         exact trivial
        refine xNil rfl ?_ ?_
        ·refine vEnO (En.adopt 19 19 900040 10 (q := (.pairss out_4)) rfl rfl rfl rfl rfl rfl (by simp [Sq.len, Fq.len, famOf, Fq.hole]) (pushP _ _) rfl (d' := .irow 10 out_4.length (([] : List (Int × Int)) ++ ((at_3.take (0 + at_3.length)).drop 0)).length) (by simp [Fq.len]) rfl) ?_
         refine oBuildI tt rfl rfl rfl rfl rfl rfl rfl rfl rfl rfl ?_
         refine vNil ?_
         change VX _ _ _ _ _ _
         refine xStep [0] (by kernel_rfl) rfl ?_
         refine xNil rfl ?_ ?_
         ·refine oVal tt rfl rfl rfl rfl rfl trivial ?_
          refine vNil ?_
          change VX _ _ _ _ _ _
          refine xStep [5] (by kernel_rfl) rfl ?_
          refine xNil rfl ?_ ?_
          ·refine oAppendD (.pairss (out_4 ++ [(([] : List (Int × Int)) ++ ((at_3.take (0 + at_3.length)).drop 0))])) tt (q := (.pairss out_4)) rfl rfl rfl rfl rfl rfl rfl rfl (Nat.le_of_eq (Nat.zero_add _)) rfl rfl rfl rfl rfl rfl rfl (appP 10 out_4 (([] : List (Int × Int)) ++ ((at_3.take (0 + at_3.length)).drop 0))) hg5 ?_
           refine vNil ?_
           change VX _ _ _ _ _ _
           refine xStep [6] (by kernel_rfl) rfl ?_
           refine xNil rfl ?_ ?_
           ·refine oStore tt rfl rfl rfl rfl rfl rfl rfl rfl rfl rfl rfl ⟨trivial, trivial⟩ ?_
            refine vNil ?_
            change VX _ _ _ _ _ _
            refine xDone (by kernel_rfl) ?_
            change En _ _ _
            exact (En.of trivial ⟨rfl, rfl, rfl, rfl, trivial⟩ ⟨rfl, rfl, rfl, rfl, rfl, trivial⟩)
           exact trivial
          exact trivial
         exact trivial
        exact trivial
       exact trivial
      exact trivial
     refine xNil rfl ?_ ?_
     ·refine oVal tt rfl rfl rfl rfl rfl trivial ?_
      refine vNil ?_
      change VX _ _ _ _ _ _
      refine xStep [0, 1] (by kernel_rfl) rfl ?_
      refine xNil rfl ?_ ?_
      ·refine oVal tt rfl rfl rfl rfl rfl trivial ?_
       refine vNil ?_
       change VX _ _ _ _ _ _
       refine xStep [1] (by kernel_rfl) rfl ?_
       refine xNil rfl ?_ ?_
       ·refine oEmpty tt (wNone rfl) rfl rfl rfl rfl ?_
        refine vNil ?_
        change VX _ _ _ _ _ _
        refine xStep [3] (by kernel_rfl) rfl ?_
        refine xNil rfl ?_ ?_
        ·refine oAppendNil tt rfl rfl rfl rfl rfl rfl rfl rfl rfl rfl rfl rfl rfl rfl rfl (Nat.le_of_eq (Nat.zero_add _)) hg4 ?_
         refine vNil ?_
         change VX _ _ _ _ _ _
         refine xStep [4] (by kernel_rfl) rfl ?_
         refine xNil rfl ?_ ?_
         ·refine vEnO (En.adopt 19 19 900040 10 (q := (.pairss out_4)) rfl rfl rfl rfl rfl rfl (by simp [Sq.len, Fq.len, famOf, Fq.hole]) (pushP _ _) rfl (d' := .irow 10 out_4.length (([] : List (Int × Int)) ++ ((at_3.take (0 + at_3.length)).drop 0)).length) (by simp [Fq.len]) rfl) ?_
          refine oBuildI tt rfl rfl rfl rfl rfl rfl rfl rfl rfl rfl ?_
          refine vNil ?_
          change VX _ _ _ _ _ _
          refine xStep [5] (by kernel_rfl) rfl ?_
          refine xNil rfl ?_ ?_
          ·refine oAppendD (.pairss (out_4 ++ [(([] : List (Int × Int)) ++ ((at_3.take (0 + at_3.length)).drop 0))])) tt (q := (.pairss out_4)) rfl rfl rfl rfl rfl rfl rfl rfl (Nat.le_of_eq (Nat.zero_add _)) rfl rfl rfl rfl rfl rfl rfl (appP 10 out_4 (([] : List (Int × Int)) ++ ((at_3.take (0 + at_3.length)).drop 0))) hg5 ?_
           refine vNil ?_
           change VX _ _ _ _ _ _
           refine xStep [6] (by kernel_rfl) rfl ?_
           refine xNil rfl ?_ ?_
           ·refine oStore tt rfl rfl rfl rfl rfl rfl rfl rfl rfl rfl rfl ⟨trivial, trivial⟩ ?_
            refine vNil ?_
            change VX _ _ _ _ _ _
            refine xDone (by kernel_rfl) ?_
            change En _ _ _
            exact (En.of trivial ⟨rfl, rfl, rfl, rfl, trivial⟩ ⟨rfl, rfl, rfl, rfl, rfl, trivial⟩)
           exact trivial
          exact trivial
         exact trivial
        exact trivial
       exact trivial
      refine xNil rfl ?_ ?_
      ·refine oEmpty tt (wNone rfl) rfl rfl rfl rfl ?_
       refine vNil ?_
       change VX _ _ _ _ _ _
       refine xStep [0, 3] (by kernel_rfl) rfl ?_
       refine xNil rfl ?_ ?_
       ·refine oVal tt rfl rfl rfl rfl rfl trivial ?_
        refine vNil ?_
        change VX _ _ _ _ _ _
        refine xStep [3] (by kernel_rfl) rfl ?_
        refine xNil rfl ?_ ?_
        ·refine oAppendNil tt rfl rfl rfl rfl rfl rfl rfl rfl rfl rfl rfl rfl rfl rfl rfl (Nat.le_of_eq (Nat.zero_add _)) hg4 ?_
         refine vNil ?_
         change VX _ _ _ _ _ _
         refine xStep [4] (by kernel_rfl) rfl ?_
         refine xNil rfl ?_ ?_
         ·refine vEnO (En.adopt 19 19 900040 10 (q := (.pairss out_4)) rfl rfl rfl rfl rfl rfl (by simp [Sq.len, Fq.len, famOf, Fq.hole]) (pushP _ _) rfl (d' := .irow 10 out_4.length (([] : List (Int × Int)) ++ ((at_3.take (0 + at_3.length)).drop 0)).length) (by simp [Fq.len]) rfl) ?_
          refine oBuildI tt rfl rfl rfl rfl rfl rfl rfl rfl rfl rfl ?_
          refine vNil ?_
          change VX _ _ _ _ _ _
          refine xStep [5] (by kernel_rfl) rfl ?_
          refine xNil rfl ?_ ?_
          ·refine oAppendD (.pairss (out_4 ++ [(([] : List (Int × Int)) ++ ((at_3.take (0 + at_3.length)).drop 0))])) tt (q := (.pairss out_4)) rfl rfl rfl rfl rfl rfl rfl rfl (Nat.le_of_eq (Nat.zero_add _)) rfl rfl rfl rfl rfl rfl rfl (appP 10 out_4 (([] : List (Int × Int)) ++ ((at_3.take (0 + at_3.length)).drop 0))) hg5 ?_
           refine vNil ?_
           change VX _ _ _ _ _ _
           refine xStep [6] (by kernel_rfl) rfl ?_
           refine xNil rfl ?_ ?_
           ·refine oStore tt rfl rfl rfl rfl rfl rfl rfl rfl rfl rfl rfl ⟨trivial, trivial⟩ ?_
            refine vNil ?_
            change VX _ _ _ _ _ _
            refine xDone (by kernel_rfl) ?_
            change En _ _ _
            exact (En.of trivial ⟨rfl, rfl, rfl, rfl, trivial⟩ ⟨rfl, rfl, rfl, rfl, rfl, trivial⟩)
           exact trivial
          exact trivial
         exact trivial
        exact trivial
       refine xNil rfl ?_ ?_
       ·refine oAppendNil tt rfl rfl rfl rfl rfl rfl rfl rfl rfl rfl rfl rfl rfl rfl rfl (Nat.le_of_eq (Nat.zero_add _)) hg4 ?_
        refine vNil ?_
        change VX _ _ _ _ _ _
        refine xStep [0, 4] (by kernel_rfl) rfl ?_
        refine xNil rfl ?_ ?_
        ·refine oVal tt rfl rfl rfl rfl rfl trivial ?_
         refine vNil ?_
         change VX _ _ _ _ _ _
         refine xStep [4] (by kernel_rfl) rfl ?_
         refine xNil rfl ?_ ?_
         ·refine vEnO (En.adopt 19 19 900040 10 (q := (.pairss out_4)) rfl rfl rfl rfl rfl rfl (by simp [Sq.len, Fq.len, famOf, Fq.hole]) (pushP _ _) rfl (d' := .irow 10 out_4.length (([] : List (Int × Int)) ++ ((at_3.take (0 + at_3.length)).drop 0)).length) (by simp [Fq.len]) rfl) ?_
          refine oBuildI tt rfl rfl rfl rfl rfl rfl rfl rfl rfl rfl ?_
          refine vNil ?_
          change VX _ _ _ _ _ _
          refine xStep [5] (by kernel_rfl) rfl ?_
          refine xNil rfl ?_ ?_
          ·refine oAppendD (.pairss (out_4 ++ [(([] : List (Int × Int)) ++ ((at_3.take (0 + at_3.length)).drop 0))])) tt (q := (.pairss out_4)) rfl rfl rfl rfl rfl rfl rfl rfl (Nat.le_of_eq (Nat.zero_add _)) rfl rfl rfl rfl rfl rfl rfl (appP 10 out_4 (([] : List (Int × Int)) ++ ((at_3.take (0 + at_3.length)).drop 0))) hg5 ?_
           refine vNil ?_
           change VX _ _ _ _ _ _
           refine xStep [6] (by kernel_rfl) rfl ?_
           refine xNil rfl ?_ ?_
           ·refine oStore tt rfl rfl rfl rfl rfl rfl rfl rfl rfl rfl rfl ⟨trivial, trivial⟩ ?_
            refine vNil ?_
            change VX _ _ _ _ _ _
            refine xDone (by kernel_rfl) ?_
            change En _ _ _
            exact (En.of trivial ⟨rfl, rfl, rfl, rfl, trivial⟩ ⟨rfl, rfl, rfl, rfl, rfl, trivial⟩)
           exact trivial
          exact trivial
         exact trivial
        refine xNil rfl ?_ ?_
        ·refine vEnO (En.adopt 19 19 900040 10 (q := (.pairss out_4)) rfl rfl rfl rfl rfl rfl (by simp [Sq.len, Fq.len, famOf, Fq.hole]) (pushP _ _) rfl (d' := .irow 10 out_4.length (([] : List (Int × Int)) ++ ((at_3.take (0 + at_3.length)).drop 0)).length) (by simp [Fq.len]) rfl) ?_
         refine oBuildI tt rfl rfl rfl rfl rfl rfl rfl rfl rfl rfl ?_
         refine vNil ?_
         change VX _ _ _ _ _ _
         refine xStep [0] (by kernel_rfl) rfl ?_
         refine xNil rfl ?_ ?_
         ·refine oVal tt rfl rfl rfl rfl rfl trivial ?_
          refine vNil ?_
          change VX _ _ _ _ _ _
          refine xStep [5] (by kernel_rfl) rfl ?_
          refine xNil rfl ?_ ?_
          ·refine oAppendD (.pairss (out_4 ++ [(([] : List (Int × Int)) ++ ((at_3.take (0 + at_3.length)).drop 0))])) tt (q := (.pairss out_4)) rfl rfl rfl rfl rfl rfl rfl rfl (Nat.le_of_eq (Nat.zero_add _)) rfl rfl rfl rfl rfl rfl rfl (appP 10 out_4 (([] : List (Int × Int)) ++ ((at_3.take (0 + at_3.length)).drop 0))) hg5 ?_
           refine vNil ?_
           change VX _ _ _ _ _ _
           refine xStep [6] (by kernel_rfl) rfl ?_
           refine xNil rfl ?_ ?_
           ·refine oStore tt rfl rfl rfl rfl rfl rfl rfl rfl rfl rfl rfl ⟨trivial, trivial⟩ ?_
            refine vNil ?_
            change VX _ _ _ _ _ _
            refine xDone (by kernel_rfl) ?_
            change En _ _ _
            exact (En.of trivial ⟨rfl, rfl, rfl, rfl, trivial⟩ ⟨rfl, rfl, rfl, rfl, rfl, trivial⟩)
           exact trivial
          exact trivial
         exact trivial
        exact trivial
       exact trivial
      exact trivial
     exact trivial
    ·change ∃ _, _
     exact ⟨(out_4 ++ [(([] : List (Int × Int)) ++ ((at_3.take (0 + at_3.length)).drop 0))]), (En.of trivial ⟨rfl, rfl, rfl, rfl, trivial⟩ ⟨rfl, rfl, rfl, rfl, rfl, trivial⟩), h⟩
   ·replace h := cnd_f hb3 h
    refine vSkip ?_
    change ∃ _, _
    exact ⟨out_4, (En.of trivial ⟨rfl, rfl, rfl, rfl, trivial⟩ ⟨rfl, rfl, rfl, rfl, rfl, trivial⟩), h⟩
 ·replace h := cnd_f hb1 h
  refine vSkip ?_
  change VC _ _ _ _
  refine vSeq ?_
  refine vRegion ?_
  refine oVal tt rfl rfl rfl rfl rfl trivial ?_
  refine vNil ?_
  change VC _ _ _ _
  refine vJoin (F := fun k => I_PosesOf_1_l1 N i_0 l_2 rec_99 k) h (α := (List Int) × (List (Int × Int)) × (List (List (Int × Int)))) (J := fun | (l62, l63, l64) => (⟨[], [(900010, some (3, .ints l62)), (900030, some (83, .pairs l63)), (900040, some (49, dR 10 (.pairss l64))), (8589934602, some (83, dF (.pairss l64)))], [(1000001, some [.row 900010 0 l62.length]), (1000002, some [.int l_2.f.g.n, .ro false (.pairs l_2.f.g.bars), .ro false (.pairs l_2.f.places), .ro false (.ints l_2.ground)]), (1000003, some [.row 900030 0 l63.length]), (1000004, some [.row 900040 0 l64.length]), (1000005, some [.clo 90 [1000001, 1000002, 1000003, 1000004, 1000005]])]⟩ : PS)) ?_ ?_
  ·rintro ⟨l62, l63, l64⟩ h
   change ∃ _, _
   cases h
   exact ⟨[900010, 900030, 900040, 8589934602], rfl, ⟨rfl, rfl, rfl, rfl, trivial⟩, ⟨rfl, rfl, rfl, rfl, rfl, trivial⟩, rfl⟩
  ·intro k h
   refine vBlock ?_
   refine vLoopS (α := (List Int) × (List (Int × Int)) × (List (List (Int × Int))) × Int) (fun | (l84, l85, l86, x87) => (⟨[(0, .int i_0), (1, .ptr 1000001 0), (3, .ptr 1000003 0), (5, .ptr 1000005 0), (22, .int x87)], [(900010, some (3, .ints l84)), (900030, some (83, .pairs l85)), (900040, some (49, dR 10 (.pairss l86))), (8589934602, some (83, dF (.pairss l86)))], [(1000001, some [.row 900010 0 l84.length]), (1000002, some [.int l_2.f.g.n, .ro false (.pairs l_2.f.g.bars), .ro false (.pairs l_2.f.places), .ro false (.ints l_2.ground)]), (1000003, some [.row 900030 0 l85.length]), (1000004, some [.row 900040 0 l86.length]), (1000005, some [.clo 90 [1000001, 1000002, 1000003, 1000004, 1000005]])]⟩ : PS)) (I_PosesOf_1_l1 N i_0 l_2 rec_99 k) h (En.of ⟨rfl, rfl, rfl, rfl, rfl, trivial⟩ ⟨rfl, rfl, rfl, rfl, trivial⟩ ⟨rfl, rfl, rfl, rfl, rfl, trivial⟩) (fun _ => rfl) ?_
   rintro n ⟨l84, l85, l86, x87⟩ h
   rw [I_PosesOf_1_l1] at h
   show VC _ _ _ (⟨[(0, .int i_0), (1, .ptr 1000001 0), (3, .ptr 1000003 0), (5, .ptr 1000005 0), (22, .int x87)], [(900010, some (3, .ints l84)), (900030, some (83, .pairs l85)), (900040, some (49, dR 10 (.pairss l86))), (8589934602, some (83, dF (.pairss l86)))], [(1000001, some [.row 900010 0 l84.length]), (1000002, some [.int l_2.f.g.n, .ro false (.pairs l_2.f.g.bars), .ro false (.pairs l_2.f.places), .ro false (.ints l_2.ground)]), (1000003, some [.row 900030 0 l85.length]), (1000004, some [.row 900040 0 l86.length]), (1000005, some [.clo 90 [1000001, 1000002, 1000003, 1000004, 1000005]])]⟩ : PS)
   refine vSeq ?_
   refine vRegion ?_
   refine oVal tt rfl rfl rfl rfl rfl trivial ?_
   refine vNil ?_
   change VC _ _ _ _
   refine vSeq ?_
   refine vCond rfl (fun hb6 => ?_) (fun hb6 => ?_)
   ·replace h := cnd_t hb6 h
    refine vSkip ?_
    change VC _ _ _ _
    refine vSeq ?_
    refine vBlock ?_
    refine vSeq ?_
    refine vRegion ?_
    iterate 2 refine oVal tt rfl rfl rfl rfl rfl trivial ?_
    refine vNil ?_
    change VC _ _ _ _
    refine vSeq ?_
    refine vRegion ?_
    refine oVal tt rfl rfl rfl rfl rfl trivial ?_
    refine vNil ?_
    change VC _ _ _ _
    refine vJoin (F := fun k => I_PosesOf_1_l2 N i_0 l_2 rec_99 x87 k) h (α := (List Int) × (List (Int × Int)) × (List (List (Int × Int)))) (J := fun | (l113, l114, l115) => (⟨[(0, .int i_0), (1, .ptr 1000001 0), (3, .ptr 1000003 0), (5, .ptr 1000005 0), (22, .int x87)], [(900010, some (3, .ints l113)), (900030, some (83, .pairs l114)), (900040, some (49, dR 10 (.pairss l115))), (8589934602, some (83, dF (.pairss l115)))], [(1000001, some [.row 900010 0 l113.length]), (1000002, some [.int l_2.f.g.n, .ro false (.pairs l_2.f.g.bars), .ro false (.pairs l_2.f.places), .ro false (.ints l_2.ground)]), (1000003, some [.row 900030 0 l114.length]), (1000004, some [.row 900040 0 l115.length]), (1000005, some [.clo 90 [1000001, 1000002, 1000003, 1000004, 1000005]])]⟩ : PS)) ?_ ?_
    ·rintro ⟨l113, l114, l115⟩ h
     show VC _ _ _ (⟨[(0, .int i_0), (1, .ptr 1000001 0), (3, .ptr 1000003 0), (5, .ptr 1000005 0), (22, .int x87)], [(900010, some (3, .ints l113)), (900030, some (83, .pairs l114)), (900040, some (49, dR 10 (.pairss l115))), (8589934602, some (83, dF (.pairss l115)))], [(1000001, some [.row 900010 0 l113.length]), (1000002, some [.int l_2.f.g.n, .ro false (.pairs l_2.f.g.bars), .ro false (.pairs l_2.f.places), .ro false (.ints l_2.ground)]), (1000003, some [.row 900030 0 l114.length]), (1000004, some [.row 900040 0 l115.length]), (1000005, some [.clo 90 [1000001, 1000002, 1000003, 1000004, 1000005]])]⟩ : PS)
     refine vRegion ?_
     obtain ⟨hg7, h⟩ := grd_inv h
     refine oVal tt rfl rfl rfl rfl rfl hg7 ?_
     refine oVal tt rfl rfl rfl rfl rfl trivial ?_
     refine vNil ?_
     change ∃ _, _
     exact ⟨(l113, l114, l115, (x87 + (1 : Int))), (En.of ⟨rfl, rfl, rfl, rfl, rfl, trivial⟩ ⟨rfl, rfl, rfl, rfl, trivial⟩ ⟨rfl, rfl, rfl, rfl, rfl, trivial⟩), h⟩
    ·intro k h
     refine vBlock ?_
     refine vLoopS (α := (List Int) × (List (Int × Int)) × (List (List (Int × Int))) × Int) (fun | (l118, l119, l120, x121) => (⟨[(0, .int i_0), (1, .ptr 1000001 0), (3, .ptr 1000003 0), (5, .ptr 1000005 0), (7, .int x87), (22, .int x87), (25, .int x121)], [(900010, some (3, .ints l118)), (900030, some (83, .pairs l119)), (900040, some (49, dR 10 (.pairss l120))), (8589934602, some (83, dF (.pairss l120)))], [(1000001, some [.row 900010 0 l118.length]), (1000002, some [.int l_2.f.g.n, .ro false (.pairs l_2.f.g.bars), .ro false (.pairs l_2.f.places), .ro false (.ints l_2.ground)]), (1000003, some [.row 900030 0 l119.length]), (1000004, some [.row 900040 0 l120.length]), (1000005, some [.clo 90 [1000001, 1000002, 1000003, 1000004, 1000005]])]⟩ : PS)) (I_PosesOf_1_l2 N i_0 l_2 rec_99 x87 k) h (En.of ⟨rfl, rfl, rfl, rfl, rfl, rfl, rfl, trivial⟩ ⟨rfl, rfl, rfl, rfl, trivial⟩ ⟨rfl, rfl, rfl, rfl, rfl, trivial⟩) (fun _ => rfl) ?_
     rintro n ⟨l118, l119, l120, x121⟩ h
     rw [I_PosesOf_1_l2] at h
     show VC _ _ _ (⟨[(0, .int i_0), (1, .ptr 1000001 0), (3, .ptr 1000003 0), (5, .ptr 1000005 0), (7, .int x87), (22, .int x87), (25, .int x121)], [(900010, some (3, .ints l118)), (900030, some (83, .pairs l119)), (900040, some (49, dR 10 (.pairss l120))), (8589934602, some (83, dF (.pairss l120)))], [(1000001, some [.row 900010 0 l118.length]), (1000002, some [.int l_2.f.g.n, .ro false (.pairs l_2.f.g.bars), .ro false (.pairs l_2.f.places), .ro false (.ints l_2.ground)]), (1000003, some [.row 900030 0 l119.length]), (1000004, some [.row 900040 0 l120.length]), (1000005, some [.clo 90 [1000001, 1000002, 1000003, 1000004, 1000005]])]⟩ : PS)
     refine vSeq ?_
     refine vRegion ?_
     refine oVal tt rfl rfl rfl rfl rfl trivial ?_
     refine vNil ?_
     change VC _ _ _ _
     refine vSeq ?_
     refine vCond rfl (fun hb8 => ?_) (fun hb8 => ?_)
     ·replace h := cnd_t hb8 h
      refine vSkip ?_
      change VC _ _ _ _
      refine vSeq ?_
      refine vBlock ?_
      refine vSeq ?_
      refine vRegion ?_
      iterate 2 refine oVal tt rfl rfl rfl rfl rfl trivial ?_
      refine vNil ?_
      change VC _ _ _ _
      refine vSeq ?_
      refine vRegionN 8 [] [0, 0, 0, 6, 14, 0, 0, 96, 255, 511] (by kernel_rfl) (by kernel_rfl) (by kernel_rfl) (by kernel_rfl) (by kernel_rfl) rfl (by rfl) ?_
      iterate 3 refine nVal tt rfl (wNone rfl) rfl rfl rfl rfl rfl trivial ?_
      obtain ⟨hg9, h⟩ := grd_inv h
      iterate 2 refine nVal tt rfl (wNone rfl) rfl rfl rfl rfl rfl hg9 ?_
      iterate 2 refine nVal tt rfl (wNone rfl) rfl rfl rfl rfl rfl trivial ?_
      refine nPure (wNone rfl) (pBuild bld_impl_Place rfl rfl) rfl rfl rfl rfl ?_
      refine nNil ?_
      change VO _ _ _ _ _
      obtain ⟨hg10, h⟩ := grd_inv h
      refine oVal tt rfl rfl rfl rfl rfl hg10 ?_
      refine oStore tt rfl rfl rfl rfl rfl rfl rfl rfl rfl rfl ⟨_, _, rfl, hg10.1, hg10.2⟩ ⟨hg10, (by simpa [Sq.len] using hg10), trivial⟩ ?_
      refine vNil ?_
      change VC _ _ _ _
      refine vRegion ?_
      iterate 2 refine oVal tt rfl rfl rfl rfl rfl trivial ?_
      obtain ⟨hg11, h⟩ := grd_inv h
      refine oVal tt rfl rfl rfl rfl rfl hg11 ?_
      obtain ⟨hg12, h⟩ := grd_inv h
      refine oRowB 1000003 0 900030 rfl rfl hg12 rfl ?_
      obtain ⟨v123, hc13, h⟩ := bind_inv h
      refine oMCloX [1000001, 1000002, 1000003, 1000004, 1000005] [.int (i_0 + (1 : Int))] (hrec (i_0 + (1 : Int)) l118 l_2 ((l119.set (((l118.getD ((i_0).toNat) 0)).toNat) (x121, (l119.getD (((l118.getD ((i_0).toNat) 0)).toNat) (0, 0)).2)).set (((l118.getD ((i_0).toNat) 0)).toNat) (((l119.set (((l118.getD ((i_0).toNat) 0)).toNat) (x121, (l119.getD (((l118.getD ((i_0).toNat) 0)).toNat) (0, 0)).2)).getD (((l118.getD ((i_0).toNat) 0)).toNat) (0, 0)).1, x87)) l120 v123 hc13) [900010, 900030, 900040, 8589934602] [1000001, 1000002, 1000003, 1000004, 1000005] [1400, 1401, 1402, 8589934602] rfl rfl rfl rfl rfl rfl rfl rfl rfl  ⟨rfl, rfl, rfl, rfl, trivial⟩ ⟨rfl, rfl, rfl, rfl, rfl, trivial⟩ ⟨⟨rfl, rfl⟩, trivial⟩ ?_
      refine vNil ?_
      change VC _ _ _ _
      refine vRegion ?_
      obtain ⟨hg14, h⟩ := grd_inv h
      refine oVal tt rfl rfl rfl rfl rfl hg14 ?_
      refine oVal tt rfl rfl rfl rfl rfl trivial ?_
      refine vNil ?_
      change ∃ _, _
      exact ⟨(v123.1, v123.2.1, v123.2.2, (x121 + (1 : Int))), (En.ren [900010, 900030, 900040] [1400, 1401, 1402] rfl ⟨.inr rfl, .inr rfl, .inr rfl, .inr rfl, .inr rfl, .inr rfl, .inr rfl, trivial⟩ ⟨.inr rfl, .inr rfl, .inr rfl, .inr rfl, trivial⟩ ⟨.inr ⟨_, _, rfl, rfl, ⟨.inr rfl, trivial⟩⟩, .inr ⟨_, _, rfl, rfl, ⟨.inr rfl, .inr rfl, .inr rfl, .inr rfl, trivial⟩⟩, .inr ⟨_, _, rfl, rfl, ⟨.inr rfl, trivial⟩⟩, .inr ⟨_, _, rfl, rfl, ⟨.inr rfl, trivial⟩⟩, .inr ⟨_, _, rfl, rfl, ⟨.inr rfl, trivial⟩⟩, trivial⟩), h⟩
     ·replace h := cnd_f hb8 h
      refine vExit ?_
      change ∃ _, _
      exact ⟨(l118, l119, l120), (En.of ⟨rfl, rfl, rfl, rfl, rfl, trivial⟩ ⟨rfl, rfl, rfl, rfl, trivial⟩ ⟨rfl, rfl, rfl, rfl, rfl, trivial⟩), h⟩
   ·replace h := cnd_f hb6 h
    refine vExit ?_
    change ∃ _, _
    exact ⟨(l84, l85, l86), (En.of trivial ⟨rfl, rfl, rfl, rfl, trivial⟩ ⟨rfl, rfl, rfl, rfl, rfl, trivial⟩), h⟩
theorem I_PosesOf_1_rw (N : Nat) : ∀ (d : Nat) (i_0 : Int) (free_1 : List Int) (l_2 : Lnk) (at_3 : List (Int × Int)) (out_4 : List (List (Int × Int))) (r : (List Int) × (List (Int × Int)) × (List (List (Int × Int)))), I_PosesOf_1_r N d i_0 free_1 l_2 at_3 out_4 = some r → MCall Tryz.prog 90 [.int i_0, .ptr 1000001 0, .ptr 1000002 0, .ptr 1000003 0, .ptr 1000004 0, .ptr 1000005 0] [900010, 900030, 900040, 8589934602] [1000001, 1000002, 1000003, 1000004, 1000005] [(3, .ints free_1), (83, .pairs at_3), (49, dR 10 (.pairss out_4)), (83, dF (.pairss out_4))] [(3, .ints r.1), (83, .pairs r.2.1), (49, dR 10 (.pairss r.2.2)), (83, dF (.pairss r.2.2))] [[.row 900010 0 free_1.length], [.int l_2.f.g.n, .ro false (.pairs l_2.f.g.bars), .ro false (.pairs l_2.f.places), .ro false (.ints l_2.ground)], [.row 900030 0 at_3.length], [.row 900040 0 out_4.length], [.clo 90 [1000001, 1000002, 1000003, 1000004, 1000005]]] [[.row 900010 0 r.1.length], [.int l_2.f.g.n, .ro false (.pairs l_2.f.g.bars), .ro false (.pairs l_2.f.places), .ro false (.ints l_2.ground)], [.row 900030 0 r.2.1.length], [.row 900040 0 r.2.2.length], [.clo 90 [1000001, 1000002, 1000003, 1000004, 1000005]]] (.tup [])
 | 0, _, _, _, _, _, r, h => by cases h
 | d + 1, i_0, free_1, l_2, at_3, out_4, r, h => I_PosesOf_1_bw N _ (fun i_0 free_1 l_2 at_3 out_4 r h => I_PosesOf_1_rw N d i_0 free_1 l_2 at_3 out_4 r h) i_0 free_1 l_2 at_3 out_4 r h
theorem I_PosesOf_1_w (N : Nat) (i_0 : Int) (free_1 : List Int) (l_2 : Lnk) (at_3 : List (Int × Int)) (out_4 : List (List (Int × Int))) (r : (List Int) × (List (Int × Int)) × (List (List (Int × Int)))) (h : I_PosesOf_1 N i_0 free_1 l_2 at_3 out_4 = some r) : MCall Tryz.prog 90 [.int i_0, .ptr 1000001 0, .ptr 1000002 0, .ptr 1000003 0, .ptr 1000004 0, .ptr 1000005 0] [900010, 900030, 900040, 8589934602] [1000001, 1000002, 1000003, 1000004, 1000005] [(3, .ints free_1), (83, .pairs at_3), (49, dR 10 (.pairss out_4)), (83, dF (.pairss out_4))] [(3, .ints r.1), (83, .pairs r.2.1), (49, dR 10 (.pairss r.2.2)), (83, dF (.pairss r.2.2))] [[.row 900010 0 free_1.length], [.int l_2.f.g.n, .ro false (.pairs l_2.f.g.bars), .ro false (.pairs l_2.f.places), .ro false (.ints l_2.ground)], [.row 900030 0 at_3.length], [.row 900040 0 out_4.length], [.clo 90 [1000001, 1000002, 1000003, 1000004, 1000005]]] [[.row 900010 0 r.1.length], [.int l_2.f.g.n, .ro false (.pairs l_2.f.g.bars), .ro false (.pairs l_2.f.places), .ro false (.ints l_2.ground)], [.row 900030 0 r.2.1.length], [.row 900040 0 r.2.2.length], [.clo 90 [1000001, 1000002, 1000003, 1000004, 1000005]]] (.tup []) := I_PosesOf_1_rw N N i_0 free_1 l_2 at_3 out_4 r h
def I_PosesOf (N : Nat) (l_0 : Lnk) : Option ((List (List (Int × Int))) × Bool) :=
 (I_IsLinkage N l_0).bind fun v1 =>
 cnd (!v1) (
  some (([] : List (List (Int × Int))), false)) (
  (I_FreeJoints N l_0).bind fun v2 =>
  grd (l_0.f.places.length ≤ 4294967296) <|
  (I_PosesOf_1 N (0 : Int) v2 l_0 (([] : List (Int × Int)) ++ l_0.f.places) ([] : List (List (Int × Int)))).bind fun v3 =>
  some (v3.2.2, true))
set_option maxRecDepth 20000 in
set_option maxHeartbeats 1600000 in
theorem I_PosesOf_w (N : Nat) (l_0 : Lnk) (r : (List (List (Int × Int))) × Bool) (h : I_PosesOf N l_0 = some r) : PCallD Tryz.prog 53 [lD l_0] 49 83 (.pairss r.1) (.tup [.row 0 0 r.1.length, .bool r.2]) := by
 unfold I_PosesOf at h
 refine pcallD_intro (TT := TT) tt Tryz.func53 rfl rfl Tryz.ntmps53 (congrArg Array.toList Tryz.results53) rfl rfl rfl fun w0 => ?_
 refine vSeq ?_
 refine vRegion ?_
 refine oBox rfl rfl rfl rfl rfl rfl rfl rfl rfl ?_
 iterate 2 refine oVal tt rfl rfl rfl rfl rfl trivial ?_
 refine vNil ?_
 change VC _ _ _ _
 refine vSeq ?_
 refine vRegion ?_
 refine oEmpty tt (wNone rfl) rfl rfl rfl rfl ?_
 refine oAlloc tt rfl rfl rfl rfl rfl rfl rfl rfl rfl ?_
 refine oStore tt rfl rfl rfl rfl rfl rfl rfl rfl rfl rfl rfl ⟨trivial, trivial⟩ ?_
 refine vNil ?_
 change VC _ _ _ _
 iterate 2 refine vSeq ?_
 refine vRegion ?_
 refine oVal tt rfl rfl rfl rfl rfl trivial ?_
 obtain ⟨v1, hc1, h⟩ := bind_inv h
 refine oCall (I_IsLinkage_w N l_0 v1 hc1) rfl rfl rfl rfl rfl rfl rfl rfl ⟨⟨rfl, rfl, rfl, rfl, trivial⟩, trivial⟩ ?_
 refine oVal tt rfl rfl rfl rfl rfl trivial ?_
 refine vNil ?_
 change VC _ _ _ _
 refine vCond rfl (fun hb2 => ?_) (fun hb2 => ?_)
 ·replace h := cnd_t hb2 h
  refine vSeq ?_
  refine vRegion ?_
  iterate 3 refine oVal tt rfl rfl rfl rfl rfl trivial ?_
  refine vNil ?_
  change VC _ _ _ _
  refine vNilT 2 9001 49 (.pairss []) rfl rfl rfl rfl ?_
  refine vEn (En.newFam 11 83 (.pairs []) rfl rfl rfl rfl (fun _ h => by cases h) rfl) ?_
  refine vEn (En.asRefs 9001 11 (q := .pairss []) (qR := dR 11 (.pairss [])) rfl rfl rfl rfl) ?_
  refine vRet ?_
  change ∃ _, _
  cases h
  exact ⟨9001, 11, _, rfl, rfl, rfl, rfl, rfl, (.eq rfl), rfl⟩
 ·replace h := cnd_f hb2 h
  refine vSkip ?_
  change VC _ _ _ _
  refine vSeq ?_
  refine vRegion ?_
  refine oVal tt rfl rfl rfl rfl rfl trivial ?_
  obtain ⟨v2, hc3, h⟩ := bind_inv h
  refine oCall (I_FreeJoints_w N l_0 v2 hc3) rfl rfl rfl rfl rfl rfl rfl rfl ⟨⟨rfl, rfl, rfl, rfl, trivial⟩, trivial⟩ ?_
  refine oAlloc tt rfl rfl rfl rfl rfl rfl rfl rfl rfl ?_
  refine oStore tt rfl rfl rfl rfl rfl rfl rfl rfl rfl rfl rfl ⟨trivial, trivial⟩ ?_
  refine vNil ?_
  change VC _ _ _ _
  refine vSeq ?_
  refine vRegion ?_
  refine oEmpty tt (wNone rfl) rfl rfl rfl rfl ?_
  iterate 3 refine oVal tt rfl rfl rfl rfl rfl trivial ?_
  obtain ⟨hg4, h⟩ := grd_inv h
  refine oAppNil tt (wNone rfl) rfl rfl rfl rfl rfl rfl rfl (fun _ => rfl) rfl rfl rfl rfl rfl hg4 ?_
  refine oAlloc tt rfl rfl rfl rfl rfl rfl rfl rfl rfl ?_
  refine oStore tt rfl rfl rfl rfl rfl rfl rfl rfl rfl rfl rfl ⟨trivial, trivial⟩ ?_
  refine vNil ?_
  change VC _ _ _ _
  refine vSeq ?_
  refine vRegion ?_
  refine oAlloc tt rfl rfl rfl rfl rfl rfl rfl rfl rfl ?_
  refine vNil ?_
  change VC _ _ _ _
  refine vSeq ?_
  refine vRegion ?_
  refine oMakeFunc rfl [5, 1, 6, 4, 7] rfl rfl rfl rfl ?_
  refine oStore tt rfl rfl rfl rfl rfl rfl rfl rfl rfl rfl rfl ⟨trivial, trivial⟩ ?_
  refine vNil ?_
  change VC _ _ _ _
  refine vSeq ?_
  refine vRegion ?_
  refine oVal tt rfl rfl rfl rfl rfl trivial ?_
  refine vEnO (enNilB 4 0 9502 49 (.pairss []) rfl rfl rfl rfl rfl) ?_
  refine vEnO (En.newFam 10 83 (.pairs []) rfl rfl rfl rfl (fun _ h => by cases h) rfl) ?_
  refine vEnO (En.asRefs 9502 10 (q := .pairss []) (qR := dR 10 (.pairss [])) rfl rfl rfl rfl) ?_
  obtain ⟨v3, hc5, h⟩ := bind_inv h
  refine oMCloX [1000001, 1000002, 1000003, 1000004, 1000005] [.int (0 : Int)] (I_PosesOf_1_w N (0 : Int) v2 l_0 (([] : List (Int × Int)) ++ l_0.f.places) ([] : List (List (Int × Int))) v3 hc5) [1140, 19, 9502, 8589934602] [5, 1, 6, 4, 7] [1220, 1221, 1222, 8589934602] rfl rfl rfl rfl rfl rfl rfl rfl rfl  ⟨rfl, rfl, rfl, rfl, trivial⟩ ⟨rfl, rfl, rfl, rfl, rfl, trivial⟩ ⟨⟨rfl, rfl⟩, trivial⟩ ?_
  refine vNil ?_
  change VC _ _ _ _
  refine vSeq ?_
  refine vRegion ?_
  iterate 3 refine oVal tt rfl rfl rfl rfl rfl trivial ?_
  refine vNil ?_
  change VC _ _ _ _
  refine vRet ?_
  change ∃ _, _
  cases h
  exact ⟨1222, 10, _, rfl, rfl, rfl, rfl, rfl, (.eq rfl), rfl⟩
end Go.Proofs.YtmoamglpocjhgaaGreat
