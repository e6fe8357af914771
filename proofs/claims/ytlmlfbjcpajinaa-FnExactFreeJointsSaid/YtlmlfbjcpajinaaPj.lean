/- Frameworks, linkages and poses: what the plain texts compute. -/
import Derived.Test.YtlmlfbjcpajinaaPf
import Derived.Test.YtlmlfbjcpajinaaG10
import Derived.Test.YtlmlfbjcpajinaaG11
import Derived.Test.YtlmlfbjcpajinaaG19
import Derived.Test.YtlmlfbjcpajinaaG20
namespace Go.Proofs.Ytlmlfbjcpajinaa
set_option linter.unusedVariables false
set_option linter.unusedSimpArgs false
variable (N : Nat)
def onGrid (p : Int × Int) : Bool := inB p.1 0 4 && inB p.2 0 4
theorem onGrid_bd {p : Int × Int} (h : onGrid p = true) : 0 ≤ p.1 ∧ p.1 ≤ 4 ∧ 0 ≤ p.2 ∧ p.2 ≤ 4 := by
  rw [onGrid, Bool.and_eq_true] at h
  have h1 := inB_true.1 h.1
  have h2 := inB_true.1 h.2
  omega
theorem isPlace_s (p : Int × Int) : I_isPlace N p = some (onGrid p) := by
  unfold I_isPlace onGrid
  simp only [within_s, Option.bind_some, cnd_some]
  cases inB p.1 0 4 <;> rfl
abbrev pl0 (l : List (Int × Int)) (x : Int) : Int × Int := l.getD x.toNat (0, 0)
def frAt (f : Frm) (i : Nat) : Bool := !(pl0 f.places (f.g.bars.getD i (0, 0)).1 == pl0 f.places (f.g.bars.getD i (0, 0)).2) && !doubleAt f.g.bars i
def gridAt (l : List (Int × Int)) (i : Nat) : Bool := onGrid (l.getD i (0, 0))
def isFr (f : Frm) : Bool := isGraph f.g && (decide (f.g.n ≤ 6) && (decide ((f.places.length : Int) = f.g.n) && (decide (f.g.bars.length ≤ 15) && ((List.range f.places.length).all (gridAt f.places) && (List.range f.g.bars.length).all (frAt f)))))
theorem isGraph_nn {g : Grf} (h : isGraph g = true) : 1 ≤ g.n ∧ g.n ≤ 8 ∧ g.bars.length ≤ 24 := by
  have := isGraph_parts h; omega
theorem bar_bdd {g : Grf} (hg : isGraph g = true) {i : Nat} (hi : i < g.bars.length) : 0 ≤ (g.bars.getD i (0, 0)).1 ∧ (g.bars.getD i (0, 0)).1 < g.n ∧ 0 ≤ (g.bars.getD i (0, 0)).2 ∧ (g.bars.getD i (0, 0)).2 < g.n ∧ g.n ≤ 8 := by
  have h2 := isGraph_bar hg (List.getElem_mem hi)
  have h3 := isGraph_nn hg
  simp [List.getD_eq_getElem?_getD, hi]
  omega
theorem isFrS_s (hN : 4000000 ≤ N) {f : Frm} (hp : f.places.length ≤ 3000000) : S_IsFramework N f = some (isFr f) := by
  unfold S_IsFramework isFr
  rw [isGraphS_s N hN, Option.bind_some, cnd_not]
  cases hg : isGraph f.g with
  | false => rfl
  | true =>
    have hn := isGraph_nn hg
    rw [cnd_true]
    by_cases h1 : f.g.n ≤ 6
    · by_cases h2 : (f.places.length : Int) = f.g.n
      · by_cases h3 : f.g.bars.length ≤ 15
        · rw [cnd_df (by omega), cnd_nef h2, cnd_df (by omega), decide_eq_true h1, decide_eq_true h2, decide_eq_true h3]
          refine (srch (len := f.places.length) (ok := gridAt f.places) (bad := some false) (fin := some ((List.range f.g.bars.length).all (frAt f))) (by omega) ?_ ?_).trans ?_
          · intro n i hi _
            rw [S_IsFramework_l2]
            simp (disch := omega) only [Int.toNat_natCast, tk0, List.length_cons, List.length_nil, grd_pos, grd_T, grd_R, cnd_dt, cnd_df, cnd_true, cnd_false, Option.bind_some, l1In_s, cnd_or, succ_cast]
            refine cnd_congr' ?_ _ _
            simp [gridAt, onGrid]
          · intro n _
            rw [S_IsFramework_l2]
            simp (disch := omega) only [Int.toNat_natCast, tk0, List.length_cons, List.length_nil, grd_pos, grd_T, grd_R, cnd_dt, cnd_df, cnd_true, cnd_false, Option.bind_some]
            refine (srch (len := f.g.bars.length) (ok := frAt f) (bad := some false) (fin := some true) (by omega) ?_ ?_).trans (by rw [cnd_some, cnd_bool])
            · intro n i hi _
              have hb := bar_bdd hg hi
              rw [S_IsFramework_l1]
              by_cases h0 : i = 0
              · subst h0
                simp (disch := omega) only [Int.toNat_natCast, tk0, List.length_cons, List.length_nil, grd_pos, grd_T, grd_R, cnd_dt, cnd_df, cnd_true, cnd_false, Option.bind_some, pair_eq, cnd_or, succ_cast]
                refine cnd_congr' ?_ _ _
                simp [frAt, doubleAt]
              · simp (disch := omega) only [Int.toNat_natCast, tk0, List.length_cons, List.length_nil, grd_pos, grd_T, grd_R, cnd_dt, cnd_df, cnd_true, cnd_false, Option.bind_some, pair_eq, cnd_or, succ_cast, show ((i : Int) - 1).toNat = i - 1 from by omega]
                refine cnd_congr' ?_ _ _
                unfold frAt doubleAt
                rw [decide_eq_true (show 0 < i by omega)]
                cases (pl0 f.places (f.g.bars.getD i (0, 0)).1 == pl0 f.places (f.g.bars.getD i (0, 0)).2) <;> simp
            · intro n _
              rw [S_IsFramework_l1]
              simp (disch := omega) only [Int.toNat_natCast, tk0, List.length_cons, List.length_nil, grd_pos, grd_T, grd_R, cnd_dt, cnd_df, cnd_true, cnd_false, Option.bind_some]
          · rw [cnd_some]; cases (List.range f.places.length).all (gridAt f.places) <;> rfl
        · rw [cnd_df (by omega), cnd_nef h2, cnd_dt (by omega), decide_eq_false h3]; simp
      · rw [cnd_df (by omega), cnd_net h2, decide_eq_false h2]; simp
    · rw [cnd_dt (by omega), decide_eq_false h1]; rfl
theorem isFrI_s (hN : 4000000 ≤ N) {f : Frm} (hp : f.places.length ≤ 3000000) : I_IsFramework N f = some (isFr f) := by
  unfold I_IsFramework isFr
  rw [isGraphI_s N hN, Option.bind_some, cnd_not]
  cases hg : isGraph f.g with
  | false => rfl
  | true =>
    have hn := isGraph_nn hg
    rw [cnd_true]
    by_cases h1 : f.g.n ≤ 6
    · by_cases h2 : (f.places.length : Int) = f.g.n
      · by_cases h3 : f.g.bars.length ≤ 15
        · rw [cnd_df (by omega), cnd_df (by omega), cnd_nef h2, decide_eq_true h1, decide_eq_true h2, decide_eq_true h3]
          refine (srch (len := f.places.length) (ok := gridAt f.places) (bad := some false) (fin := some ((List.range f.g.bars.length).all (frAt f))) (by omega) ?_ ?_).trans ?_
          · intro n i hi _
            rw [I_IsFramework_l2]
            simp (disch := omega) only [Int.toNat_natCast, tk0, List.length_cons, List.length_nil, grd_pos, grd_T, grd_R, cnd_dt, cnd_df, cnd_true, cnd_false, Option.bind_some, isPlace_s, cnd_not, succ_cast]
            rfl
          · intro n _
            rw [I_IsFramework_l2]
            simp (disch := omega) only [Int.toNat_natCast, tk0, List.length_cons, List.length_nil, grd_pos, grd_T, grd_R, cnd_dt, cnd_df, cnd_true, cnd_false, Option.bind_some]
            refine (srch (len := f.g.bars.length) (ok := frAt f) (bad := some false) (fin := some true) (by omega) ?_ ?_).trans (by rw [cnd_some, cnd_bool])
            · intro n i hi _
              have hb := bar_bdd hg hi
              rw [I_IsFramework_l1]
              by_cases h0 : i = 0
              · subst h0
                simp (disch := omega) only [Int.toNat_natCast, tk0, List.length_cons, List.length_nil, grd_pos, grd_T, grd_R, cnd_dt, cnd_df, cnd_true, cnd_false, Option.bind_some, pair_eq, cnd_or, succ_cast]
                refine cnd_congr' ?_ _ _
                simp [frAt, doubleAt]
              · simp (disch := omega) only [Int.toNat_natCast, tk0, List.length_cons, List.length_nil, grd_pos, grd_T, grd_R, cnd_dt, cnd_df, cnd_true, cnd_false, Option.bind_some, pair_eq, cnd_or, succ_cast, show ((i : Int) - 1).toNat = i - 1 from by omega]
                refine cnd_congr' ?_ _ _
                unfold frAt doubleAt
                rw [decide_eq_true (show 0 < i by omega)]
                cases (pl0 f.places (f.g.bars.getD i (0, 0)).1 == pl0 f.places (f.g.bars.getD i (0, 0)).2) <;> simp
            · intro n _
              rw [I_IsFramework_l1]
              simp (disch := omega) only [Int.toNat_natCast, tk0, List.length_cons, List.length_nil, grd_pos, grd_T, grd_R, cnd_dt, cnd_df, cnd_true, cnd_false, Option.bind_some]
          · rw [cnd_some]; cases (List.range f.places.length).all (gridAt f.places) <;> rfl
        · rw [cnd_df (by omega), cnd_dt (by omega), decide_eq_false h3]; simp
      · by_cases h3 : f.g.bars.length ≤ 15
        · rw [cnd_df (by omega), cnd_df (by omega), cnd_net h2, decide_eq_false h2]; simp
        · rw [cnd_df (by omega), cnd_dt (by omega), decide_eq_false h2]; simp
    · rw [cnd_dt (by omega), decide_eq_false h1]; rfl
theorem isFr_parts {f : Frm} (h : isFr f = true) : isGraph f.g = true ∧ f.g.n ≤ 6 ∧ (f.places.length : Int) = f.g.n ∧ f.g.bars.length ≤ 15 ∧ (∀ i, i < f.places.length → gridAt f.places i = true) ∧ ∀ i, i < f.g.bars.length → frAt f i = true := by
  simp only [isFr, Bool.and_eq_true, decide_eq_true_eq, List.all_eq_true, List.mem_range] at h
  exact ⟨h.1, h.2.1, h.2.2.1, h.2.2.2.1, h.2.2.2.2.1, h.2.2.2.2.2⟩
def isLk (l : Lnk) : Bool := isFr l.f && (decide (0 < l.ground.length) && (decide (l.f.g.n - (l.ground.length : Int) ≤ 2) && asc l.f.g.n l.ground))
theorem isLkS_s (hN : 4000000 ≤ N) {l : Lnk} (hp : l.f.places.length ≤ 3000000) (hg : l.ground.length ≤ 3000000) : S_IsLinkage N l = some (isLk l) := by
  unfold S_IsLinkage isLk
  simp (disch := omega) only [Int.toNat_natCast, tk0, List.length_cons, List.length_nil, grd_pos, grd_T, grd_R, cnd_dt, cnd_df, cnd_true, cnd_false, Option.bind_some]
  refine (srch (len := l.ground.length) (ok := ascAt (l.f.places.length : Int) l.ground) (bad := some false) (fin := some (isFr l.f && (inB ((l.f.places.length : Int) - (l.ground.length : Int)) 0 2 && decide (0 < l.ground.length)))) (by omega) ?_ ?_).trans ?_
  · intro n i hi _
    rw [S_IsLinkage_l1]
    by_cases h0 : i = 0
    · subst h0
      simp (disch := omega) only [Int.toNat_natCast, tk0, List.length_cons, List.length_nil, grd_pos, grd_T, grd_R, cnd_dt, cnd_df, cnd_true, cnd_false, Option.bind_some, cnd_or, succ_cast]
      refine cnd_congr' ?_ _ _
      simp only [ascAt, inB]
      rw [Bool.eq_iff_iff]; simp; omega
    · simp (disch := omega) only [Int.toNat_natCast, tk0, List.length_cons, List.length_nil, grd_pos, grd_T, grd_R, cnd_dt, cnd_df, cnd_true, cnd_false, Option.bind_some, succ_cast, cnd_or, show ((i : Int) - 1).toNat = i - 1 from by omega]
      refine cnd_congr' ?_ _ _
      simp only [ascAt, inB, decide_eq_false h0, Bool.false_or]
      rw [Bool.eq_iff_iff]; simp; omega
  · intro n _
    rw [S_IsLinkage_l1]
    simp (disch := omega) only [Int.toNat_natCast, tk0, List.length_cons, List.length_nil, grd_pos, grd_T, grd_R, cnd_dt, cnd_df, cnd_true, cnd_false, Option.bind_some, isFrS_s N hN hp, l1In_s]
    simp only [cnd_some]
    rw [show decide ((l.ground.length : Int) > 0) = decide (0 < l.ground.length) from by rw [Bool.eq_iff_iff]; simp]
    cases isFr l.f <;> cases inB ((l.f.places.length : Int) - (l.ground.length : Int)) 0 2 <;> rfl
  · rw [show (List.range l.ground.length).all (ascAt (l.f.places.length : Int) l.ground) = asc (l.f.places.length : Int) l.ground from rfl, cnd_some]
    congr 1
    cases hf : isFr l.f with
    | false => simp [cnd_same]
    | true =>
      obtain ⟨h1, h2, h3, h4, h5⟩ := isFr_parts hf
      rw [h3]
      cases ha : asc l.f.g.n l.ground with
      | false => simp
      | true =>
        have := asc_len ha (by omega)
        rw [cnd_true, Bool.eq_iff_iff]
        simp [inB]; omega
theorem isLkI_s (hN : 4000000 ≤ N) {l : Lnk} (hp : l.f.places.length ≤ 3000000) (hg : l.ground.length ≤ 3000000) : I_IsLinkage N l = some (isLk l) := by
  unfold I_IsLinkage isLk
  rw [isFrI_s N hN hp, Option.bind_some, cnd_not]
  cases hf : isFr l.f with
  | false => rfl
  | true =>
    obtain ⟨h1, h2, h3, h4, h5⟩ := isFr_parts hf
    have hn := isGraph_nn h1
    rw [cnd_true]
    by_cases hl : 0 < l.ground.length
    · by_cases hd : l.f.g.n - (l.ground.length : Int) ≤ 2
      · rw [cnd_eqf (by omega), decide_eq_true hl, decide_eq_true hd]
        simp (disch := omega) only [Int.toNat_natCast, tk0, List.length_cons, List.length_nil, grd_pos, grd_T, grd_R, cnd_dt, cnd_df, cnd_true, cnd_false, Option.bind_some]
        refine (srch (len := l.ground.length) (ok := ascAt l.f.g.n l.ground) (bad := some false) (fin := some true) (by omega) ?_ ?_).trans (by rw [cnd_some, cnd_bool, show (List.range l.ground.length).all (ascAt l.f.g.n l.ground) = asc l.f.g.n l.ground from rfl, Bool.true_and, Bool.true_and, Bool.true_and])
        · intro n i hi _
          rw [I_IsLinkage_l1]
          by_cases h0 : i = 0
          · subst h0
            simp (disch := omega) only [Int.toNat_natCast, tk0, List.length_cons, List.length_nil, grd_pos, grd_T, grd_R, cnd_dt, cnd_df, cnd_true, cnd_false, Option.bind_some, ghas_s N (by omega : 0 ≤ l.f.g.n) (by omega), cnd_not, succ_cast]
            refine cnd_congr ?_ _ _
            simp [ascAt]
          · simp (disch := omega) only [Int.toNat_natCast, tk0, List.length_cons, List.length_nil, grd_pos, grd_T, grd_R, cnd_dt, cnd_df, cnd_true, cnd_false, Option.bind_some, ghas_s N (by omega : 0 ≤ l.f.g.n) (by omega), succ_cast, cnd_or, show ((i : Int) - 1).toNat = i - 1 from by omega]
            refine cnd_congr' ?_ _ _
            simp only [ascAt, decide_eq_false h0, Bool.false_or]
            cases inB (l.ground.getD i 0) 0 (l.f.g.n - 1) <;> (rw [Bool.eq_iff_iff]; simp)
        · intro n _
          rw [I_IsLinkage_l1]
          simp (disch := omega) only [Int.toNat_natCast, tk0, List.length_cons, List.length_nil, grd_pos, grd_T, grd_R, cnd_dt, cnd_df, cnd_true, cnd_false, Option.bind_some]
      · rw [cnd_eqf (by omega), decide_eq_false hd]
        simp (disch := omega) only [Int.toNat_natCast, tk0, List.length_cons, List.length_nil, grd_pos, grd_T, grd_R, cnd_dt, cnd_df, cnd_true, cnd_false, Option.bind_some]
        simp
    · rw [cnd_eqt (by omega), decide_eq_false hl]; rfl
theorem isLk_parts {l : Lnk} (h : isLk l = true) : isFr l.f = true ∧ 0 < l.ground.length ∧ l.f.g.n - (l.ground.length : Int) ≤ 2 ∧ asc l.f.g.n l.ground = true := by
  simp only [isLk, Bool.and_eq_true, decide_eq_true_eq] at h
  exact ⟨h.1, h.2.1, h.2.2.1, h.2.2.2⟩
theorem sq_bd {d : Int} (h1 : -4 ≤ d) (h2 : d ≤ 4) : 0 ≤ d * d ∧ d * d ≤ 16 := by
  have : d = -4 ∨ d = -3 ∨ d = -2 ∨ d = -1 ∨ d = 0 ∨ d = 1 ∨ d = 2 ∨ d = 3 ∨ d = 4 := by omega
  rcases this with rfl | rfl | rfl | rfl | rfl | rfl | rfl | rfl | rfl <;> decide
theorem sq_zero {d : Int} (h1 : -4 ≤ d) (h2 : d ≤ 4) (h : d * d = 0) : d = 0 := by
  have : d = -4 ∨ d = -3 ∨ d = -2 ∨ d = -1 ∨ d = 0 ∨ d = 1 ∨ d = 2 ∨ d = 3 ∨ d = 4 := by omega
  rcases this with rfl | rfl | rfl | rfl | rfl | rfl | rfl | rfl | rfl <;> first | rfl | (exact absurd h (by decide))
/-- the square of a distance -/
def dsq (p q : Int × Int) : Int := (p.1 - q.1) * (p.1 - q.1) + (p.2 - q.2) * (p.2 - q.2)
theorem dsq_zero {p q : Int × Int} (hp : onGrid p = true) (hq : onGrid q = true) (h : dsq p q = 0) : p = q := by
  have h1 := onGrid_bd hp
  have h2 := onGrid_bd hq
  have h3 := sq_bd (d := p.1 - q.1) (by omega) (by omega)
  have h4 := sq_bd (d := p.2 - q.2) (by omega) (by omega)
  unfold dsq at h
  have h5 := sq_zero (d := p.1 - q.1) (by omega) (by omega) (by omega)
  have h6 := sq_zero (d := p.2 - q.2) (by omega) (by omega) (by omega)
  obtain ⟨a, b⟩ := p; obtain ⟨c, d⟩ := q
  simp only [Prod.mk.injEq]
  simp only at h5 h6
  omega
theorem dsq_self (p : Int × Int) : dsq p p = 0 := by simp [dsq]
theorem square_s {f : Frm} {a b : Int} (ha : 0 ≤ a ∧ a < (f.places.length : Int)) (hb : 0 ≤ b ∧ b < (f.places.length : Int)) (h1 : onGrid (pl0 f.places a) = true) (h2 : onGrid (pl0 f.places b) = true) : M_Framework_square N f a b = some (dsq (pl0 f.places a) (pl0 f.places b)) := by
  have k1 := onGrid_bd h1
  have k2 := onGrid_bd h2
  have k3 := sq_bd (d := (pl0 f.places a).1 - (pl0 f.places b).1) (by omega) (by omega)
  have k4 := sq_bd (d := (pl0 f.places a).2 - (pl0 f.places b).2) (by omega) (by omega)
  unfold M_Framework_square
  unfold pl0 at k1 k2 k3 k4
  simp (disch := omega) only [Int.toNat_natCast, tk0, List.length_cons, List.length_nil, grd_pos, grd_T, grd_R, cnd_dt, cnd_df, cnd_true, cnd_false, Option.bind_some]
  rfl
def barSq (pl : List (Int × Int)) (b : Int × Int) : Int := dsq (pl0 pl b.1) (pl0 pl b.2)
theorem grid_pl {pl : List (Int × Int)} (h : ∀ i, i < pl.length → gridAt pl i = true) {x : Int} (h0 : 0 ≤ x) (h1 : x < (pl.length : Int)) : onGrid (pl0 pl x) = true := h x.toNat (by omega)
theorem sqLen_s (hN : 4000000 ≤ N) {f : Frm} (hf : isFr f = true) : S_SquareLengths N f = some (f.g.bars.map (barSq f.places)) := by
  obtain ⟨h1, h2, h3, h4, h5, h6⟩ := isFr_parts hf
  unfold S_SquareLengths
  refine (fold (len := f.g.bars.length) (st := fun i => (f.g.bars.take i).map (barSq f.places)) (fin := some (f.g.bars.map (barSq f.places))) (by omega) ?_ ?_)
  · intro n i hi
    have hb := bar_bdd h1 hi
    have g1 := onGrid_bd (grid_pl h5 (x := (f.g.bars.getD i (0, 0)).1) (by omega) (by omega))
    have g2 := onGrid_bd (grid_pl h5 (x := (f.g.bars.getD i (0, 0)).2) (by omega) (by omega))
    have k3 := sq_bd (d := (pl0 f.places (f.g.bars.getD i (0, 0)).1).1 - (pl0 f.places (f.g.bars.getD i (0, 0)).2).1) (by omega) (by omega)
    have k4 := sq_bd (d := (pl0 f.places (f.g.bars.getD i (0, 0)).1).2 - (pl0 f.places (f.g.bars.getD i (0, 0)).2).2) (by omega) (by omega)
    have hl : ((f.g.bars.take i).map (barSq f.places)).length ≤ i := by rw [List.length_map, List.length_take]; omega
    unfold pl0 at g1 g2 k3 k4
    rw [S_SquareLengths_l1]
    simp (disch := omega) only [Int.toNat_natCast, tk0, List.length_cons, List.length_nil, grd_pos, grd_T, grd_R, cnd_dt, cnd_df, cnd_true, cnd_false, Option.bind_some, isFrS_s N hN (show f.places.length ≤ 3000000 by omega), hf, succ_cast]
    rw [List.take_succ_eq_append_getElem hi, List.map_append]
    have e : f.g.bars[i] = f.g.bars.getD i (0, 0) := by simp [List.getD_eq_getElem?_getD, hi]
    rw [e]
    rfl
  · intro n
    rw [S_SquareLengths_l1]
    simp (disch := omega) only [Int.toNat_natCast, tk0, List.length_cons, List.length_nil, grd_pos, grd_T, grd_R, cnd_dt, cnd_df, cnd_true, cnd_false, Option.bind_some, List.take_length]
theorem range_all_eq (a b : List Int) (h : a.length = b.length) : ((List.range a.length).all fun i => (a.getD i 0 == b.getD i 0)) = decide (a = b) := by
  rw [Bool.eq_iff_iff, List.all_eq_true, decide_eq_true_eq]
  constructor
  · intro hh
    apply List.ext_getElem h
    intro i h1 h2
    have := hh i (by simpa using h1)
    simpa [List.getD_eq_getElem?_getD, h1, h2] using this
  · rintro rfl i hi; simp
theorem l6Same_s (hN : 4000000 ≤ N) {a b : List Int} (ha : a.length ≤ 3000000) : S_l6Same N a b = some (decide (a = b)) := by
  unfold S_l6Same
  by_cases h : a.length = b.length
  · rw [cnd_nef (by omega)]
    refine (srch (len := a.length) (ok := fun i => (a.getD i 0 == b.getD i 0)) (bad := some false) (fin := some true) (by omega) ?_ ?_).trans ?_
    · intro n i hi _
      rw [S_l6Same_l1]
      simp (disch := omega) only [Int.toNat_natCast, tk0, List.length_cons, List.length_nil, grd_pos, grd_T, grd_R, cnd_dt, cnd_df, cnd_true, cnd_false, Option.bind_some, succ_cast]
      refine cnd_congr' ?_ _ _
      rw [bne]
    · intro n _
      rw [S_l6Same_l1]
      simp (disch := omega) only [Int.toNat_natCast, tk0, List.length_cons, List.length_nil, grd_pos, grd_T, grd_R, cnd_dt, cnd_df, cnd_true, cnd_false, Option.bind_some]
    · rw [cnd_some, cnd_bool, range_all_eq a b h]
  · rw [cnd_net (by omega), decide_eq_false (fun e => h (by rw [e]))]
theorem eqGraphs_s (hN : 4000000 ≤ N) {g : Grf} (hb : g.bars.length ≤ 3000000) : S_EqualGraphs N g g = some true := by
  unfold S_EqualGraphs
  rw [cnd_nef rfl, cnd_nef rfl]
  refine (srch (len := g.bars.length) (ok := fun i => true) (bad := some false) (fin := some true) (by omega) ?_ ?_).trans ?_
  · intro n i hi _
    rw [S_EqualGraphs_l1]
    simp (disch := omega) only [Int.toNat_natCast, tk0, List.length_cons, List.length_nil, grd_pos, grd_T, grd_R, cnd_dt, cnd_df, cnd_true, cnd_false, Option.bind_some, succ_cast, beq_self_eq_true, Bool.and_self, Bool.not_true]
  · intro n _
    rw [S_EqualGraphs_l1]
    simp (disch := omega) only [Int.toNat_natCast, tk0, List.length_cons, List.length_nil, grd_pos, grd_T, grd_R, cnd_dt, cnd_df, cnd_true, cnd_false, Option.bind_some]
  · rw [show ((List.range g.bars.length).all fun _ => true) = true by rw [List.all_eq_true]; intro _ _; rfl]; rfl
def poseAt (l : Lnk) (p : List (Int × Int)) (v : Nat) : Bool := onGrid (p.getD v (0, 0)) && (!l.ground.contains (v : Int) || p.getD v (0, 0) == l.f.places.getD v (0, 0))
def barAtP (l : Lnk) (p : List (Int × Int)) (i : Nat) : Bool := barSq l.f.places (l.f.g.bars.getD i (0, 0)) == barSq p (l.f.g.bars.getD i (0, 0))
def isPs (l : Lnk) (p : List (Int × Int)) : Bool := isLk l && (decide (p.length = l.f.places.length) && ((List.range p.length).all (poseAt l p) && (List.range l.f.g.bars.length).all (barAtP l p)))
theorem isPoseI_s (hN : 4000000 ≤ N) {l : Lnk} (hp : l.f.places.length ≤ 3000000) (hg : l.ground.length ≤ 3000000) {p : List (Int × Int)} : I_IsPose N l p = some (isPs l p) := by
  unfold I_IsPose isPs
  rw [isLkI_s N hN hp hg, Option.bind_some, cnd_not]
  cases hl : isLk l with
  | false => rfl
  | true =>
    obtain ⟨k1, k2, k3, k4⟩ := isLk_parts hl
    obtain ⟨h1, h2, h3, h4, h5, h6⟩ := isFr_parts k1
    rw [cnd_true]
    by_cases he : p.length = l.f.places.length
    · rw [cnd_nef (by omega), decide_eq_true he]
      refine (srch (len := p.length) (ok := poseAt l p) (bad := some false) (fin := cnd ((List.range p.length).all (poseAt l p)) (some ((List.range l.f.g.bars.length).all (barAtP l p))) (some false)) (by omega) ?_ ?_).trans ?_
      · intro n i hi _
        rw [I_IsPose_l2]
        simp (disch := omega) only [Int.toNat_natCast, tk0, List.length_cons, List.length_nil, grd_pos, grd_T, grd_R, cnd_dt, cnd_df, cnd_true, cnd_false, Option.bind_some, isPlace_s, contains_s N hN hg, pair_eq, cnd_and, cnd_or, succ_cast]
        refine cnd_congr' ?_ _ _
        unfold poseAt
        cases onGrid (p.getD i (0, 0)) <;> cases l.ground.contains (i : Int) <;> simp
      · intro n hall
        have hal : (List.range p.length).all (poseAt l p) = true := by rw [List.all_eq_true]; intro j hj; exact hall j (by simpa using hj)
        rw [I_IsPose_l2, hal, cnd_true]
        simp (disch := omega) only [Int.toNat_natCast, tk0, List.length_cons, List.length_nil, grd_pos, grd_T, grd_R, cnd_dt, cnd_df, cnd_true, cnd_false, Option.bind_some]
        have hgr : ∀ i, i < p.length → gridAt p i = true := fun i hi => by
          have := hall i hi
          rw [poseAt, Bool.and_eq_true] at this
          exact this.1
        refine (srch (len := l.f.g.bars.length) (ok := barAtP l p) (bad := some false) (fin := some true) (by omega) ?_ ?_).trans (by rw [cnd_some, cnd_bool])
        · intro n i hi _
          have hb := bar_bdd h1 hi
          rw [I_IsPose_l1]
          have q1 := square_s N (f := l.f) (a := (l.f.g.bars.getD i (0, 0)).1) (b := (l.f.g.bars.getD i (0, 0)).2) (by omega) (by omega) (grid_pl h5 (by omega) (by omega)) (grid_pl h5 (by omega) (by omega))
          have q2 := square_s N (f := ⟨⟨0, []⟩, p⟩) (a := (l.f.g.bars.getD i (0, 0)).1) (b := (l.f.g.bars.getD i (0, 0)).2) (by show 0 ≤ _ ∧ _ < (p.length : Int); omega) (by show 0 ≤ _ ∧ _ < (p.length : Int); omega) (grid_pl (pl := p) hgr (by omega) (by omega)) (grid_pl (pl := p) hgr (by omega) (by omega))
          simp (disch := omega) only [Int.toNat_natCast, tk0, List.length_cons, List.length_nil, grd_pos, grd_T, grd_R, cnd_dt, cnd_df, cnd_true, cnd_false, Option.bind_some, q1, q2, succ_cast]
          refine cnd_congr' ?_ _ _
          rw [bne]; rfl
        · intro n _
          rw [I_IsPose_l1]
          simp (disch := omega) only [Int.toNat_natCast, tk0, List.length_cons, List.length_nil, grd_pos, grd_T, grd_R, cnd_dt, cnd_df, cnd_true, cnd_false, Option.bind_some]
      · cases hal : (List.range p.length).all (poseAt l p) <;> rfl
    · rw [cnd_net (by omega), decide_eq_false he]; rfl
theorem isFr_moved {l : Lnk} {p : List (Int × Int)} (hf : isFr l.f = true) (he : p.length = l.f.places.length) (hgr : ∀ i, i < p.length → gridAt p i = true) (hb : ∀ i, i < l.f.g.bars.length → barAtP l p i = true) : isFr ⟨l.f.g, p⟩ = true := by
  obtain ⟨h1, h2, h3, h4, h5, h6⟩ := isFr_parts hf
  simp only [isFr, Bool.and_eq_true, decide_eq_true_eq, List.all_eq_true, List.mem_range]
  refine ⟨h1, h2, by omega, h4, hgr, fun i hi => ?_⟩
  have h7 := h6 i hi
  have h8 := hb i hi
  have hbar := bar_bdd h1 hi
  unfold frAt at h7 ⊢
  rw [Bool.and_eq_true] at h7 ⊢
  refine ⟨?_, h7.2⟩
  simp only [Bool.not_eq_true', beq_eq_false_iff_ne] at h7 ⊢
  intro e
  unfold barAtP barSq at h8
  simp only [beq_iff_eq] at h8
  rw [show pl0 p (l.f.g.bars.getD i (0, 0)).1 = pl0 p (l.f.g.bars.getD i (0, 0)).2 from e, dsq_self] at h8
  exact h7.1 (dsq_zero (grid_pl h5 (by omega) (by omega)) (grid_pl h5 (by omega) (by omega)) h8)
def grdAt (l : Lnk) (p : List (Int × Int)) (i : Nat) : Bool := pl0 p (l.ground.getD i 0) == pl0 l.f.places (l.ground.getD i 0)
theorem isPoseS_s (hN : 4000000 ≤ N) {l : Lnk} (hp : l.f.places.length ≤ 3000000) (hg : l.ground.length ≤ 3000000) {p : List (Int × Int)} : S_IsPose N l p = some (isPs l p) := by
  unfold S_IsPose isPs
  rw [isLkS_s N hN hp hg, Option.bind_some, cnd_not]
  cases hl : isLk l with
  | false => rfl
  | true =>
    obtain ⟨k1, k2, k3, k4⟩ := isLk_parts hl
    obtain ⟨h1, h2, h3, h4, h5, h6⟩ := isFr_parts k1
    rw [cnd_true]
    by_cases he : p.length = l.f.places.length
    · rw [cnd_nef (by omega), decide_eq_true he]
      have same : S_AreSameLengths N l.f ⟨⟨l.f.g.n, l.f.g.bars⟩, p⟩ = some (isFr ⟨l.f.g, p⟩ && decide (l.f.g.bars.map (barSq l.f.places) = l.f.g.bars.map (barSq p))) := by
        unfold S_AreSameLengths
        rw [isFrS_s N hN hp, isFrS_s N hN (f := ⟨⟨l.f.g.n, l.f.g.bars⟩, p⟩) (by show p.length ≤ _; omega), Option.bind_some, k1, cnd_true, Option.bind_some]
        cases hf2 : isFr ⟨l.f.g, p⟩ with
        | false => rfl
        | true =>
          rw [cnd_true, eqGraphs_s N hN (g := l.f.g) (by omega), Option.bind_some, cnd_true, sqLen_s N hN k1, sqLen_s N hN (f := ⟨⟨l.f.g.n, l.f.g.bars⟩, p⟩) hf2, Option.bind_some, Option.bind_some, l6Same_s N hN (by rw [List.length_map]; omega)]
          rfl
      refine (srch (len := l.ground.length) (ok := grdAt l p) (bad := some false) (fin := some (isFr ⟨l.f.g, p⟩ && decide (l.f.g.bars.map (barSq l.f.places) = l.f.g.bars.map (barSq p)))) (by omega) ?_ ?_).trans ?_
      · intro n i hi _
        have hx := asc_in k4 (List.getElem_mem hi)
        have e : l.ground.getD i 0 = l.ground[i] := by simp [List.getD_eq_getElem?_getD, hi]
        rw [← e] at hx
        rw [S_IsPose_l1]
        simp (disch := omega) only [Int.toNat_natCast, tk0, List.length_cons, List.length_nil, grd_pos, grd_T, grd_R, cnd_dt, cnd_df, cnd_true, cnd_false, Option.bind_some, pair_eq, cnd_not, succ_cast]
        rfl
      · intro n _
        rw [S_IsPose_l1]
        simp (disch := omega) only [Int.toNat_natCast, tk0, List.length_cons, List.length_nil, grd_pos, grd_T, grd_R, cnd_dt, cnd_df, cnd_true, cnd_false, Option.bind_some]
        rw [same]; rfl
      · rw [cnd_some]
        congr 1
        rw [Bool.eq_iff_iff]
        have hc : ∀ b : Bool, cnd ((List.range l.ground.length).all (grdAt l p)) b false = ((List.range l.ground.length).all (grdAt l p) && b) := fun b => by cases (List.range l.ground.length).all (grdAt l p) <;> rfl
        rw [hc]
        simp only [Bool.and_eq_true, decide_eq_true_eq, List.all_eq_true, List.mem_range, Bool.true_and]
        constructor
        · rintro ⟨a1, a2, a3⟩
          obtain ⟨g1, g2, g3, g4, g5, g6⟩ := isFr_parts a2
          refine ⟨fun v hv => ?_, fun i hi => ?_⟩
          · rw [poseAt, Bool.and_eq_true]
            refine ⟨g5 v hv, ?_⟩
            cases hcn : l.ground.contains (v : Int) with
            | false => rfl
            | true =>
              simp only [List.contains_eq_mem, decide_eq_true_eq] at hcn
              obtain ⟨i, hi, hiv⟩ := List.getElem_of_mem hcn
              have := a1 i hi
              have e : l.ground.getD i 0 = (v : Int) := by simp [List.getD_eq_getElem?_getD, hi, hiv]
              rw [grdAt, e] at this
              simpa [pl0] using this
          · have := congrArg (fun x => x.getD i 0) a3
            simp only [List.getD_eq_getElem?_getD, List.getElem?_map, List.getElem?_eq_getElem hi, Option.map_some, Option.getD_some] at this
            rw [barAtP]
            simpa [List.getD_eq_getElem?_getD, hi] using this
        · rintro ⟨a1, a2⟩
          have hgr : ∀ i, i < p.length → gridAt p i = true := fun i hi => by
            have := a1 i hi
            rw [poseAt, Bool.and_eq_true] at this
            exact this.1
          refine ⟨fun i hi => ?_, isFr_moved k1 he hgr a2, ?_⟩
          · have hx := asc_in k4 (List.getElem_mem hi)
            have e : l.ground.getD i 0 = l.ground[i] := by simp [List.getD_eq_getElem?_getD, hi]
            have := a1 l.ground[i].toNat (by omega)
            rw [poseAt, Bool.and_eq_true] at this
            have h8 := this.2
            rw [show ((l.ground[i].toNat : Nat) : Int) = l.ground[i] by omega] at h8
            rw [show l.ground.contains l.ground[i] = true by simp] at h8
            rw [grdAt, e]
            exact h8
          · apply List.ext_getElem (by simp)
            intro i q1 q2
            rw [List.length_map] at q1
            have := a2 i q1
            rw [barAtP] at this
            simpa [List.getD_eq_getElem?_getD, q1] using this
    · rw [cnd_net (by omega), decide_eq_false he]; rfl
end Go.Proofs.Ytlmlfbjcpajinaa
