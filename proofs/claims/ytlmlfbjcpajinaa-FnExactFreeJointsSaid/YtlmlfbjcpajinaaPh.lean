/- Trilateration: what the plain texts compute. -/
import Derived.Test.YtlmlfbjcpajinaaPf
import Derived.Test.YtlmlfbjcpajinaaG4
import Derived.Test.YtlmlfbjcpajinaaG5
import Derived.Test.YtlmlfbjcpajinaaG7
import Derived.Test.YtlmlfbjcpajinaaG8
namespace Go.Proofs.Ytlmlfbjcpajinaa
set_option linter.unusedVariables false
set_option linter.unusedSimpArgs false
variable (N : Nat)
theorem isGraph_n {g : Grf} (h : isGraph g = true) : 1 ≤ g.n ∧ g.n ≤ 8 ∧ g.bars.length ≤ 24 := by
  have := isGraph_parts h; omega
def anchOk (g : Grf) (l : List Int) : Bool := isSimple g && asc g.n l
theorem anchS_s (hN : 4000000 ≤ N) {g : Grf} (hb : g.bars.length ≤ 3000000) {l : List Int} (hl : l.length ≤ 3000000) : S_l23Anchors N g l = some (anchOk g l) := by
  unfold S_l23Anchors anchOk
  refine (srch (len := l.length) (ok := ascAt g.n l) (bad := some false) (fin := some (isSimple g)) (by omega) ?_ ?_).trans ?_
  · intro n i hi _
    rw [S_l23Anchors_l1]
    by_cases h0 : i = 0
    · subst h0
      simp (disch := omega) only [Int.toNat_natCast, tk0, List.length_cons, List.length_nil, grd_pos, grd_T, grd_R, cnd_dt, cnd_df, cnd_true, cnd_false, Option.bind_some, cnd_or, succ_cast]
      refine cnd_congr' ?_ _ _
      simp only [ascAt, inB]
      rw [Bool.eq_iff_iff]; simp; omega
    · simp (disch := omega) only [Int.toNat_natCast, tk0, List.length_cons, List.length_nil, grd_pos, grd_T, grd_R, cnd_dt, cnd_df, cnd_true, cnd_false, Option.bind_some, succ_cast, cnd_or, show ((i : Int) - 1).toNat = i - 1 from by omega]
      refine cnd_congr' ?_ _ _
      simp only [ascAt, inB, decide_eq_false h0, Bool.false_or]
      rw [Bool.eq_iff_iff]; simp; omega
  · intro n _
    rw [S_l23Anchors_l1]
    simp (disch := omega) only [Int.toNat_natCast, tk0, List.length_cons, List.length_nil, grd_pos, grd_T, grd_R, cnd_dt, cnd_df, cnd_true, cnd_false, Option.bind_some, l17Simple_s N hN hb]
  · rw [cnd_some, show (List.range l.length).all (ascAt g.n l) = asc g.n l from rfl]
    cases asc g.n l <;> cases isSimple g <;> rfl
theorem anchI_s (hN : 4000000 ≤ N) {g : Grf} (hb : g.bars.length ≤ 3000000) {l : List Int} (hl : l.length ≤ 3000000) : I_areAnchors N g l = some (anchOk g l) := by
  unfold I_areAnchors anchOk
  refine (srch (len := l.length) (ok := fun i => inB (l.getD i 0) 0 (w64 (g.n - 1)) && (decide (i = 0) || decide (l.getD (i - 1) 0 < l.getD i 0))) (bad := some false) (fin := some (isSimple g)) (by omega) ?_ ?_).trans ?_
  · intro n i hi _
    rw [I_areAnchors_l1]
    by_cases h0 : i = 0
    · subst h0
      simp (disch := omega) only [Int.toNat_natCast, tk0, List.length_cons, List.length_nil, grd_pos, grd_T, grd_R, cnd_dt, cnd_df, cnd_true, cnd_false, Option.bind_some, ghasW_s, cnd_not, succ_cast]
      refine cnd_congr ?_ _ _
      simp
    · simp (disch := omega) only [Int.toNat_natCast, tk0, List.length_cons, List.length_nil, grd_pos, grd_T, grd_R, cnd_dt, cnd_df, cnd_true, cnd_false, Option.bind_some, ghasW_s, succ_cast, cnd_or, show ((i : Int) - 1).toNat = i - 1 from by omega]
      refine cnd_congr' ?_ _ _
      simp only [decide_eq_false h0, Bool.false_or]
      cases inB (l.getD i 0) 0 (w64 (g.n - 1)) <;> (rw [Bool.eq_iff_iff]; simp)
  · intro n _
    rw [I_areAnchors_l1]
    simp (disch := omega) only [Int.toNat_natCast, tk0, List.length_cons, List.length_nil, grd_pos, grd_T, grd_R, cnd_dt, cnd_df, cnd_true, cnd_false, Option.bind_some, isGraphI_s N hN, hasDoubles_s N hN hb]
    unfold isSimple
    cases isGraph g <;> rfl
  · rw [cnd_some]
    cases hg : isGraph g with
    | false =>
      have : isSimple g = false := by unfold isSimple; rw [hg]; rfl
      rw [this, cnd_same]; rfl
    | true =>
      have hn := isGraph_n hg
      rw [w64_id (by omega) (by omega)]
      rw [show ((List.range l.length).all fun i => inB (l.getD i 0) 0 (g.n - 1) && (decide (i = 0) || decide (l.getD (i - 1) 0 < l.getD i 0))) = asc g.n l from rfl]
      cases asc g.n l <;> cases isSimple g <;> rfl
/-- a bar that leads from v to what is known -/
def leadsB (K : Int → Bool) (v : Int) (b : Int × Int) : Bool := hasEnd b v && K (otherEnd b v)
def knownN (bars : List (Int × Int)) (K : Int → Bool) (v : Int) : Nat := bars.countP (leadsB K v)
theorem countP_take {α : Type} (p : α → Bool) (l : List α) (d : α) (i : Nat) (h : i < l.length) : (l.take (i + 1)).countP p = cnd (p (l.getD i d)) ((l.take i).countP p + 1) ((l.take i).countP p) := by
  rw [List.take_succ_eq_append_getElem h, List.countP_append, List.countP_singleton]
  have : l.getD i d = l[i] := by simp [List.getD_eq_getElem?_getD, h]
  rw [this]
  cases p l[i] <;> simp [cnd]
theorem countP_le' {α : Type} (p : α → Bool) (l : List α) (i : Nat) : (l.take i).countP p ≤ i := Nat.le_trans List.countP_le_length (by simp; omega)
theorem bar_bd {g : Grf} (hg : isGraph g = true) {i : Nat} (hi : i < g.bars.length) : 0 ≤ (g.bars.getD i (0, 0)).1 ∧ (g.bars.getD i (0, 0)).1 < g.n ∧ 0 ≤ (g.bars.getD i (0, 0)).2 ∧ (g.bars.getD i (0, 0)).2 < g.n ∧ g.n ≤ 8 := by
  have h2 := isGraph_bar hg (List.getElem_mem hi)
  have h3 := isGraph_n hg
  simp [List.getD_eq_getElem?_getD, hi]
  omega
theorem otherEnd_bd {g : Grf} (hg : isGraph g = true) {i : Nat} (hi : i < g.bars.length) (v : Int) : 0 ≤ otherEnd (g.bars.getD i (0, 0)) v ∧ otherEnd (g.bars.getD i (0, 0)) v < g.n := by
  have := bar_bd hg hi
  unfold otherEnd
  cases (g.bars.getD i (0, 0)).1 == v <;> simp only [cnd_true, cnd_false] <;> omega
/-- the other ends of the bars of v -/
def nearL (bars : List (Int × Int)) (v : Int) : List Int := (bars.filter fun b => hasEnd b v).map fun b => otherEnd b v
theorem nearL_take (bars : List (Int × Int)) (v : Int) (i : Nat) (h : i < bars.length) : nearL (bars.take (i + 1)) v = cnd (hasEnd (bars.getD i (0, 0)) v) (nearL (bars.take i) v ++ [otherEnd (bars.getD i (0, 0)) v]) (nearL (bars.take i) v) := by
  unfold nearL
  rw [List.take_succ_eq_append_getElem h, List.filter_append, List.map_append]
  have : bars.getD i (0, 0) = bars[i] := by simp [List.getD_eq_getElem?_getD, h]
  rw [this]
  cases h : hasEnd bars[i] v <;> simp [cnd, h]
theorem nearL_len (bars : List (Int × Int)) (v : Int) : (nearL bars v).length ≤ bars.length := by
  unfold nearL; rw [List.length_map]; exact List.length_filter_le _ _
theorem nearL_count (bars : List (Int × Int)) (K : Int → Bool) (v : Int) : (nearL bars v).countP K = knownN bars K v := by
  unfold nearL knownN
  rw [List.countP_map, List.countP_filter]
  congr 1; funext b; simp [leadsB, Bool.and_comm]
theorem near_s (hN : 4000000 ≤ N) {g : Grf} (hg : isGraph g = true) (v : Int) : S_l7Near N g v = some (nearL g.bars v) := by
  have hn := isGraph_n hg
  unfold S_l7Near
  refine (fold (len := g.bars.length) (st := fun i => nearL (g.bars.take i) v) (fin := some (nearL g.bars v)) (by omega) ?_ ?_)
  · intro n i hi
    have hl := nearL_len (g.bars.take i) v
    have hb := bar_bd hg hi
    rw [List.length_take] at hl
    rw [S_l7Near_l1, nearL_take _ _ _ hi]
    by_cases h1 : (g.bars.getD i (0, 0)).1 = v
    · have he := hasEnd_1 h1
      rw [he, cnd_true]
      simp (disch := omega) only [Int.toNat_natCast, tk0, List.length_cons, List.length_nil, grd_pos, grd_T, grd_R, cnd_dt, cnd_df, cnd_true, cnd_false, Option.bind_some, cnd_eqt h1, l4Other_s N (b := g.bars.getD i (0, 0)) (by omega) (by omega) (by omega) (by omega) he, succ_cast]
    · by_cases h2 : (g.bars.getD i (0, 0)).2 = v
      · have he := hasEnd_2 h2
        rw [he, cnd_true]
        simp (disch := omega) only [Int.toNat_natCast, tk0, List.length_cons, List.length_nil, grd_pos, grd_T, grd_R, cnd_dt, cnd_df, cnd_true, cnd_false, Option.bind_some, cnd_eqf h1, cnd_eqt h2, l4Other_s N (b := g.bars.getD i (0, 0)) (by omega) (by omega) (by omega) (by omega) he, succ_cast]
      · rw [hasEnd_0 h1 h2, cnd_false]
        simp (disch := omega) only [Int.toNat_natCast, tk0, List.length_cons, List.length_nil, grd_pos, grd_T, grd_R, cnd_dt, cnd_df, cnd_true, cnd_false, Option.bind_some, cnd_eqf h1, cnd_eqf h2, succ_cast]
  · intro n
    rw [S_l7Near_l1]
    simp (disch := omega) only [Int.toNat_natCast, tk0, List.length_cons, List.length_nil, grd_pos, grd_T, grd_R, cnd_dt, cnd_df, cnd_true, cnd_false, Option.bind_some, List.take_length]
theorem known_s (hN : 4000000 ≤ N) {g : Grf} (hg : isGraph g = true) (v : Int) {l : List Int} (hl : l.length ≤ 3000000) : S_l23Known N g v l = some ((knownN g.bars (l.contains ·) v : Nat) : Int) := by
  have hn := isGraph_n hg
  have hlen := nearL_len g.bars v
  unfold S_l23Known
  rw [near_s N hN hg, Option.bind_some]
  refine (fold (len := (nearL g.bars v).length) (st := fun i => (((nearL g.bars v).take i).countP (l.contains ·) : Int)) (fin := some ((knownN g.bars (l.contains ·) v : Nat) : Int)) (by omega) ?_ ?_)
  · intro n i hi
    have hc := countP_le' (l.contains ·) (nearL g.bars v) i
    rw [S_l23Known_l1, countP_take _ _ 0 _ hi]
    simp (disch := omega) only [Int.toNat_natCast, tk0, List.length_cons, List.length_nil, grd_pos, grd_T, grd_R, cnd_dt, cnd_df, cnd_true, cnd_false, Option.bind_some, l2Has_s N hN hl, succ_cast]
    cases l.contains ((nearL g.bars v).getD i 0) <;> rfl
  · intro n
    rw [S_l23Known_l1]
    simp (disch := omega) only [Int.toNat_natCast, tk0, List.length_cons, List.length_nil, grd_pos, grd_T, grd_R, cnd_dt, cnd_df, cnd_true, cnd_false, Option.bind_some, List.take_length, nearL_count]
/-- the first point, from i on, that is not known and has three known neighbours -/
def nextP (bars : List (Int × Int)) (K : Int → Bool) (v : Int) : Bool := !K v && decide (3 ≤ knownN bars K v)
def nextF (bars : List (Int × Int)) (K : Int → Bool) (i : Nat) : Nat → Option Nat
  | 0 => none
  | m + 1 => cnd (nextP bars K i) (some i) (nextF bars K (i + 1) m)
def tril (bars : List (Int × Int)) (n : Nat) : Nat → List Int → List Int → List Int
  | 0, _, out => out
  | m + 1, kn, out => match nextF bars (kn.contains ·) 0 n with
    | none => out
    | some v => tril bars n m (kn ++ [(v : Int)]) (out ++ [(v : Int)])
theorem nextF_lt {bars : List (Int × Int)} {K : Int → Bool} : ∀ {m i v : Nat}, nextF bars K i m = some v → i ≤ v ∧ v < i + m ∧ nextP bars K v = true
  | 0, i, v, h => by simp [nextF] at h
  | m + 1, i, v, h => by
    simp only [nextF] at h
    cases hp : nextP bars K i with
    | true => rw [hp, cnd_true] at h; cases h; exact ⟨Nat.le_refl _, by omega, hp⟩
    | false =>
      rw [hp, cnd_false] at h
      have := nextF_lt h
      exact ⟨by omega, by omega, this.2.2⟩
theorem tril_len (bars : List (Int × Int)) (n : Nat) : ∀ m kn out, (tril bars n m kn out).length ≤ out.length + m
  | 0, kn, out => by simp [tril]
  | m + 1, kn, out => by
    simp only [tril]
    split
    · omega
    · have := tril_len bars n m (kn ++ [((by assumption : Nat) : Int)]) (out ++ [((by assumption : Nat) : Int)])
      simp at this; omega
theorem knownN_congr {g : Grf} (hg : isGraph g = true) {K K' : Int → Bool} (h : ∀ x : Int, 0 ≤ x → x < g.n → K x = K' x) (v : Int) : knownN g.bars K v = knownN g.bars K' v := by
  unfold knownN
  apply List.countP_congr
  intro b hb
  obtain ⟨i, hi, rfl⟩ := List.getElem_of_mem hb
  have := otherEnd_bd hg hi v
  simp only [List.getD_eq_getElem?_getD, List.getElem?_eq_getElem hi, Option.getD_some] at this
  unfold leadsB
  rw [h _ this.1 this.2]
theorem trilS_l2 (hN : 4000000 ≤ N) {g : Grf} (hg : isGraph g = true) {kn out : List Int} (hk : kn.length ≤ 100) (ho : out.length ≤ 100) (k : List Int × List Int → Option (List Int)) : ∀ n i : Nat, i ≤ g.n.toNat → g.n.toNat < n + i →
    S_TrilaterationOrder_l2 N g kn out k n (i : Int) = match nextF g.bars (kn.contains ·) i (g.n.toNat - i) with | none => k (kn, out) | some v => k (kn ++ [(v : Int)], out ++ [(v : Int)]) := by
  have hn := isGraph_n hg
  intro n
  induction n with
  | zero => intro i h1 h2; omega
  | succ n ih =>
    intro i h1 h2
    rw [S_TrilaterationOrder_l2]
    by_cases hi : i < g.n.toNat
    · have ih' := ih (i + 1) (by omega) (by omega)
      rw [show g.n.toNat - i = (g.n.toNat - (i + 1)) + 1 by omega, nextF]
      simp (disch := omega) only [Int.toNat_natCast, tk0, List.length_cons, List.length_nil, grd_pos, grd_T, grd_R, cnd_dt, cnd_df, cnd_true, cnd_false, Option.bind_some, l2Has_s N hN (show kn.length ≤ 3000000 by omega), known_s N hN hg _ (show kn.length ≤ 3000000 by omega), succ_cast, cnd_not]
      rw [ih']
      unfold nextP
      dsimp only
      cases kn.contains (i : Int) with
      | true => rfl
      | false =>
        by_cases h3 : 3 ≤ knownN g.bars (kn.contains ·) (i : Int)
        · rw [cnd_false, cnd_dt (by omega), decide_eq_true h3]; rfl
        · rw [cnd_false, cnd_df (by omega), decide_eq_false h3]; rfl
    · simp (disch := omega) only [Int.toNat_natCast, tk0, List.length_cons, List.length_nil, grd_pos, grd_T, grd_R, cnd_dt, cnd_df, cnd_true, cnd_false, Option.bind_some]
      rw [show g.n.toNat - i = 0 by omega]; rfl
theorem trilS_s (hN : 4000000 ≤ N) {g : Grf} (hb : g.bars.length ≤ 3000000) {l : List Int} (hl : l.length ≤ 3000000) (ha : anchOk g l = true) : S_TrilaterationOrder N g l = some (tril g.bars g.n.toNat g.n.toNat l []) := by
  have ha' := ha
  simp only [anchOk, isSimple, Bool.and_eq_true] at ha'
  have hg := ha'.1.1
  have hn := isGraph_n hg
  have hal := asc_len ha'.2 (by omega)
  unfold S_TrilaterationOrder
  simp (disch := omega) only [Int.toNat_natCast, tk0, List.length_cons, List.length_nil, grd_pos, grd_T, grd_R, cnd_dt, cnd_df, cnd_true, cnd_false, Option.bind_some]
  have key : ∀ (m i : Nat) (kn out : List Int), i + m = g.n.toNat → kn.length ≤ l.length + i → out.length ≤ i → ∀ n, m < n →
      S_TrilaterationOrder_l1 N g l (fun l174 => some l174) n (kn, out, (i : Int)) = some (tril g.bars g.n.toNat m kn out) := by
    intro m
    induction m with
    | zero =>
      intro i kn out h1 h2 h3 n h4
      obtain ⟨n, rfl⟩ : ∃ n', n = n' + 1 := ⟨n - 1, by omega⟩
      rw [S_TrilaterationOrder_l1]
      simp (disch := omega) only [Int.toNat_natCast, tk0, List.length_cons, List.length_nil, grd_pos, grd_T, grd_R, cnd_dt, cnd_df, cnd_true, cnd_false, Option.bind_some]
      rfl
    | succ m ih =>
      intro i kn out h1 h2 h3 n h4
      obtain ⟨n, rfl⟩ : ∃ n', n = n' + 1 := ⟨n - 1, by omega⟩
      rw [S_TrilaterationOrder_l1]
      simp (disch := omega) only [Int.toNat_natCast, tk0, List.length_cons, List.length_nil, grd_pos, grd_T, grd_R, cnd_dt, cnd_df, cnd_true, cnd_false, Option.bind_some, anchS_s N hN hb hl, ha]
      refine (trilS_l2 N hN hg (kn := kn) (out := out) (by omega) (by omega) _ N 0 (by omega) (by omega)).trans ?_
      rw [tril]
      cases hx : nextF g.bars (kn.contains ·) 0 g.n.toNat with
      | none =>
        simp only [Nat.sub_zero, hx]
        simp (disch := omega) only [Int.toNat_natCast, tk0, List.length_cons, List.length_nil, grd_pos, grd_T, grd_R, cnd_dt, cnd_df, cnd_true, cnd_false, Option.bind_some, succ_cast]
        rw [ih (i + 1) kn out (by omega) (by omega) (by omega) n (by omega)]
        cases m with
        | zero => rfl
        | succ m => rw [tril, hx]
      | some v =>
        simp only [Nat.sub_zero, hx]
        simp (disch := omega) only [Int.toNat_natCast, tk0, List.length_cons, List.length_nil, grd_pos, grd_T, grd_R, cnd_dt, cnd_df, cnd_true, cnd_false, Option.bind_some, succ_cast]
        exact ih (i + 1) _ _ (by omega) (by simp; omega) (by simp; omega) n (by omega)
  exact key g.n.toNat 0 l [] (by omega) (by omega) (by simp) N (by omega)
theorem countP_lt {α : Type} {p q : α → Bool} : ∀ {l : List α} {x : α}, (∀ y, q y = true → p y = true) → x ∈ l → p x = true → q x = false → l.countP q < l.countP p
  | [], x, h, hx, _, _ => by simp at hx
  | a :: l, x, h, hx, hp, hq => by
    have hm : l.countP q ≤ l.countP p := List.countP_mono_left fun y _ hy => h y hy
    rcases List.mem_cons.1 hx with rfl | hx
    · rw [List.countP_cons_of_pos hp, List.countP_cons_of_neg (by simp [hq])]; omega
    · have ih := countP_lt h hx hp hq
      cases ha : q a with
      | true => rw [List.countP_cons_of_pos ha, List.countP_cons_of_pos (h a ha)]; omega
      | false =>
        rw [List.countP_cons_of_neg (by simp [ha])]
        cases hb : p a with
        | true => rw [List.countP_cons_of_pos hb]; omega
        | false => rw [List.countP_cons_of_neg (by simp [hb])]; exact ih
def unk (n : Nat) (kn : List Int) : Nat := (List.range n).countP fun (j : Nat) => !kn.contains (j : Int)
theorem unk_lt {n : Nat} {kn : List Int} {v : Nat} (hv : v < n) (h : kn.contains (v : Int) = false) : unk n (kn ++ [(v : Int)]) < unk n kn := by
  refine countP_lt (x := v) (fun y hy => ?_) (by simpa using hv) (by simp only [h]; rfl) (by simp)
  simp only [Bool.not_eq_true', List.contains_eq_mem, decide_eq_false_iff_not, List.mem_append] at hy ⊢
  exact fun h => hy (.inl h)
theorem nextF_none {bars : List (Int × Int)} {K : Int → Bool} : ∀ {m i : Nat}, (∀ j, i ≤ j → j < i + m → K (j : Int) = true) → nextF bars K i m = none
  | 0, i, h => rfl
  | m + 1, i, h => by
    simp only [nextF, nextP, h i (Nat.le_refl _) (by omega)]
    exact nextF_none fun j h1 h2 => h j (by omega) (by omega)
structure RK (g : Grf) (kn : List Bool) (known : List Int) : Prop where
  len : kn.length = g.n.toNat
  get : ∀ j : Nat, j < g.n.toNat → kn.getD j false = known.contains (j : Int)
theorem RK.set {g : Grf} {kn : List Bool} {known : List Int} (h : RK g kn known) {v : Nat} (hv : v < g.n.toNat) : RK g (kn.set v true) (known ++ [(v : Int)]) := by
  refine ⟨by simp [h.len], fun j hj => ?_⟩
  have h0 := h.get j hj
  have hl := h.len
  simp only [List.getD_eq_getElem?_getD, List.getElem?_set, List.contains_eq_mem, List.mem_append, List.mem_singleton] at h0 ⊢
  by_cases hjv : v = j
  · subst hjv; simp [hl, hv]
  · rw [if_neg hjv, h0]
    simp only [decide_eq_decide]
    constructor
    · exact .inl
    · rintro (h | h)
      · exact h
      · omega
theorem trilI_l2 {g : Grf} (hg : isGraph g = true) {kn : List Bool} (hk : kn.length = g.n.toNat) (v : Int) (hN : 4000000 ≤ N) (k : Int → Option (List Int)) :
    I_TrilaterationOrder_l2 N g kn v k N (0, 0) = k ((knownN g.bars (fun x => kn.getD x.toNat false) v : Nat) : Int) := by
  have hn := isGraph_n hg
  refine (fold (len := g.bars.length) (st := fun i => ((g.bars.take i).countP (leadsB (fun x => kn.getD x.toNat false) v) : Int)) (fin := k ((knownN g.bars (fun x => kn.getD x.toNat false) v : Nat) : Int)) (by omega) ?_ ?_)
  · intro n i hi
    have hc := countP_le' (leadsB (fun x => kn.getD x.toNat false) v) g.bars i
    have ho := otherEnd_bd hg hi v
    rw [I_TrilaterationOrder_l2, countP_take _ _ (0, 0) _ hi]
    simp (disch := omega) only [Int.toNat_natCast, tk0, List.length_cons, List.length_nil, grd_pos, grd_T, grd_R, cnd_dt, cnd_df, cnd_true, cnd_false, Option.bind_some, bhas_s, bother_s, List.length_replicate, succ_cast]
    unfold leadsB
    cases hasEnd (g.bars.getD i (0, 0)) v with
    | false => rfl
    | true =>
      simp (disch := omega) only [Int.toNat_natCast, tk0, List.length_cons, List.length_nil, grd_pos, grd_T, grd_R, cnd_dt, cnd_df, cnd_true, cnd_false, Option.bind_some, bother_s, List.length_replicate, succ_cast, Bool.true_and]
      cases kn.getD (otherEnd (g.bars.getD i (0, 0)) v).toNat false <;> rfl
  · intro n
    rw [I_TrilaterationOrder_l2]
    simp (disch := omega) only [Int.toNat_natCast, tk0, List.length_cons, List.length_nil, grd_pos, grd_T, grd_R, cnd_dt, cnd_df, cnd_true, cnd_false, Option.bind_some, List.take_length]
    rfl
theorem trilI_scan (hN : 4000000 ≤ N) {g : Grf} (hg : isGraph g = true) {kn : List Bool} {known out : List Int} (hR : RK g kn known) (ho : out.length ≤ 100) (k : List Int → Option (List Int)) : ∀ f i : Nat, i ≤ g.n.toNat → g.n.toNat < f + i →
    match nextF g.bars (known.contains ·) i (g.n.toNat - i) with
    | none => I_TrilaterationOrder_l1 N g k f (out, kn, (i : Int)) = k out
    | some v => ∃ f', f ≤ f' + (g.n.toNat + 1 - i) ∧ I_TrilaterationOrder_l1 N g k f (out, kn, (i : Int)) = I_TrilaterationOrder_l1 N g k f' (out ++ [(v : Int)], kn.set v true, 0) := by
  have hn := isGraph_n hg
  intro f
  induction f with
  | zero => intro i h1 h2; omega
  | succ f ih =>
    intro i h1 h2
    by_cases hi : i < g.n.toNat
    · have ih' := ih (i + 1) (by omega) (by omega)
      have hl := hR.len
      have step : I_TrilaterationOrder_l1 N g k (f + 1) (out, kn, (i : Int)) = cnd (nextP g.bars (known.contains ·) i) (I_TrilaterationOrder_l1 N g k f (out ++ [(i : Int)], kn.set i true, 0)) (I_TrilaterationOrder_l1 N g k f (out, kn, ((i + 1 : Nat) : Int))) := by
        rw [I_TrilaterationOrder_l1]
        simp (disch := omega) only [Int.toNat_natCast, tk0, List.length_cons, List.length_nil, grd_pos, grd_T, grd_R, cnd_dt, cnd_df, cnd_true, cnd_false, Option.bind_some]
        refine (trilI_l2 N hg hl _ hN _).trans ?_
        rw [knownN_congr hg (K' := (known.contains ·)) (fun x h1 h2 => by rw [hR.get x.toNat (by omega)]; simp only [show ((x.toNat : Nat) : Int) = x by omega])]
        simp (disch := omega) only [Int.toNat_natCast, tk0, List.length_cons, List.length_nil, grd_pos, grd_T, grd_R, cnd_dt, cnd_df, cnd_true, cnd_false, Option.bind_some, List.length_replicate, hR.get i hi, cnd_not, succ_cast]
        unfold nextP
        dsimp only
        cases known.contains (i : Int) with
        | true => rfl
        | false =>
          by_cases h3 : 3 ≤ knownN g.bars (known.contains ·) (i : Int)
          · rw [cnd_false, cnd_dt (by omega), decide_eq_true h3]; rfl
          · rw [cnd_false, cnd_df (by omega), decide_eq_false h3]; rfl
      rw [show g.n.toNat - i = (g.n.toNat - (i + 1)) + 1 by omega, nextF, step]
      cases nextP g.bars (known.contains ·) i with
      | true => exact ⟨f, by omega, rfl⟩
      | false =>
        rw [cnd_false, cnd_false]
        revert ih'
        cases nextF g.bars (known.contains ·) (i + 1) (g.n.toNat - (i + 1)) with
        | none => exact fun h => h
        | some v => exact fun ⟨f', h1, h2⟩ => ⟨f', by omega, h2⟩
    · rw [show g.n.toNat - i = 0 by omega]
      show _ = _
      rw [I_TrilaterationOrder_l1]
      simp (disch := omega) only [Int.toNat_natCast, tk0, List.length_cons, List.length_nil, grd_pos, grd_T, grd_R, cnd_dt, cnd_df, cnd_true, cnd_false, Option.bind_some]
theorem trilI_l1 (hN : 4000000 ≤ N) {g : Grf} (hg : isGraph g = true) : ∀ (m : Nat) (kn : List Bool) (known out : List Int), RK g kn known → unk g.n.toNat known ≤ m → m ≤ 8 → out.length + m ≤ 100 → ∀ f, (m + 1) * 10 ≤ f →
    I_TrilaterationOrder_l1 N g (fun l185 => some l185) f (out, kn, (0 : Int)) = some (tril g.bars g.n.toNat m known out) := by
  have hn := isGraph_n hg
  intro m
  induction m with
  | zero =>
    intro kn known out hR hu hm ho f hf
    have hall : nextF g.bars (known.contains ·) 0 (g.n.toNat - 0) = none := nextF_none fun j _ hj => by
      have h0 : unk g.n.toNat known = 0 := by omega
      unfold unk at h0
      have := List.countP_eq_zero.1 h0 j (by simp; omega)
      simpa using this
    have := trilI_scan N hN hg (out := out) hR (by omega) (fun l185 => some l185) f 0 (by omega) (by omega)
    rw [hall] at this
    exact this
  | succ m ih =>
    intro kn known out hR hu hm ho f hf
    have := trilI_scan N hN hg (out := out) hR (by omega) (fun l185 => some l185) f 0 (by omega) (by omega)
    rw [tril]
    rw [Nat.sub_zero] at this
    cases hx : nextF g.bars (known.contains ·) 0 g.n.toNat with
    | none => rw [hx] at this; exact this
    | some v =>
      rw [hx] at this
      obtain ⟨f', h1, h2⟩ := this
      obtain ⟨h3, h4, h5⟩ := nextF_lt hx
      have hkv : known.contains (v : Int) = false := by
        unfold nextP at h5
        rw [Bool.and_eq_true] at h5
        simpa using h5.1
      have hul := unk_lt (n := g.n.toNat) (by omega) hkv
      refine h2.trans ?_
      have hv : v < g.n.toNat := by omega
      have ho' : (out ++ [(v : Int)]).length + m ≤ 100 := by rw [List.length_append, List.length_singleton]; omega
      have hu' : unk g.n.toNat (known ++ [(v : Int)]) ≤ m := by omega
      exact ih _ _ _ (hR.set hv) hu' (by omega) ho' f' (by omega)
theorem trilI_s (hN : 4000000 ≤ N) {g : Grf} (hb : g.bars.length ≤ 3000000) {l : List Int} (hl : l.length ≤ 3000000) (ha : anchOk g l = true) : I_TrilaterationOrder N g l = some (tril g.bars g.n.toNat g.n.toNat l []) := by
  have ha' := ha
  simp only [anchOk, isSimple, Bool.and_eq_true] at ha'
  have hg := ha'.1.1
  have hn := isGraph_n hg
  have hal := asc_len ha'.2 (by omega)
  unfold I_TrilaterationOrder
  simp (disch := omega) only [Int.toNat_natCast, tk0, List.length_cons, List.length_nil, grd_pos, grd_T, grd_R, cnd_dt, cnd_df, cnd_true, cnd_false, Option.bind_some, anchI_s N hN hb hl, ha, Bool.not_true]
  have key : ∀ (n i : Nat) (kn : List Bool), i ≤ l.length → l.length < n + i → RK g kn (l.take i) → I_TrilaterationOrder_l3 N g l (fun l127 => I_TrilaterationOrder_l1 N g (fun l185 => some l185) N ([], l127, 0)) n (kn, (i : Int)) = some (tril g.bars g.n.toNat g.n.toNat l []) := by
    intro n
    induction n with
    | zero => intro i kn h1 h2; omega
    | succ n ih =>
      intro i kn h1 h2 hR
      rw [I_TrilaterationOrder_l3]
      by_cases hi : i < l.length
      · have hx := asc_in ha'.2 (List.getElem_mem hi)
        have e : l.getD i 0 = l[i] := by simp [List.getD_eq_getElem?_getD, hi]
        have hl := hR.len
        simp only [Int.toNat_natCast, e]
        simp (disch := omega) only [Int.toNat_natCast, tk0, List.length_cons, List.length_nil, grd_pos, grd_T, grd_R, cnd_dt, cnd_df, cnd_true, cnd_false, Option.bind_some, List.length_replicate, succ_cast]
        refine ih (i + 1) _ (by omega) (by omega) ?_
        rw [List.take_succ_eq_append_getElem hi]
        have := hR.set (v := l[i].toNat) (by omega)
        rwa [show ((l[i].toNat : Nat) : Int) = l[i] by omega] at this
      · simp (disch := omega) only [Int.toNat_natCast, tk0, List.length_cons, List.length_nil, grd_pos, grd_T, grd_R, cnd_dt, cnd_df, cnd_true, cnd_false, Option.bind_some]
        rw [List.take_of_length_le (by omega)] at hR
        refine trilI_l1 N hN hg g.n.toNat kn l [] hR ?_ (by omega) (by simp; omega) N (by omega)
        unfold unk
        exact Nat.le_trans List.countP_le_length (by simp)
  exact key N 0 _ (by omega) (by omega) ⟨by simp, fun j hj => by simp [List.getD_eq_getElem?_getD, List.getElem?_replicate, hj]⟩
def isTril (g : Grf) (l : List Int) : Bool := anchOk g l && ((((tril g.bars g.n.toNat g.n.toNat l []).length : Int) + (l.length : Int)) == g.n)
theorem isTrilS_s (hN : 4000000 ≤ N) {g : Grf} (hb : g.bars.length ≤ 3000000) {l : List Int} (hl : l.length ≤ 3000000) : S_IsTrilateration N g l = some (isTril g l) := by
  unfold S_IsTrilateration isTril
  rw [anchS_s N hN hb hl, Option.bind_some]
  cases ha : anchOk g l with
  | false => rfl
  | true =>
    have ha' := ha
    simp only [anchOk, isSimple, Bool.and_eq_true] at ha'
    have hn := isGraph_n ha'.1.1
    have ht := tril_len g.bars g.n.toNat g.n.toNat l []
    simp only [List.length_nil] at ht
    simp (disch := omega) only [Int.toNat_natCast, tk0, List.length_cons, List.length_nil, grd_pos, grd_T, grd_R, cnd_dt, cnd_df, cnd_true, cnd_false, Option.bind_some, trilS_s N hN hb hl ha]
    rfl
theorem isTrilI_s (hN : 4000000 ≤ N) {g : Grf} (hb : g.bars.length ≤ 3000000) {l : List Int} (hl : l.length ≤ 3000000) : I_IsTrilateration N g l = some (isTril g l) := by
  unfold I_IsTrilateration isTril
  rw [anchI_s N hN hb hl, Option.bind_some]
  cases ha : anchOk g l with
  | false => rfl
  | true =>
    have ha' := ha
    simp only [anchOk, isSimple, Bool.and_eq_true] at ha'
    have hn := isGraph_n ha'.1.1
    have ht := tril_len g.bars g.n.toNat g.n.toNat l []
    simp only [List.length_nil] at ht
    simp (disch := omega) only [Int.toNat_natCast, tk0, List.length_cons, List.length_nil, grd_pos, grd_T, grd_R, cnd_dt, cnd_df, cnd_true, cnd_false, Option.bind_some, trilI_s N hN hb hl ha]
    rw [Int.add_comm]; rfl
end Go.Proofs.Ytlmlfbjcpajinaa
