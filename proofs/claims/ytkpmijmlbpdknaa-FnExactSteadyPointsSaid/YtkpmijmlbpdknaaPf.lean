/- Inner points and raising: what the plain texts compute. -/
import Derived.Test.YtkpmijmlbpdknaaPe
import Derived.Test.YtkpmijmlbpdknaaG5
import Derived.Test.YtkpmijmlbpdknaaG7
import Derived.Test.YtkpmijmlbpdknaaG14
import Derived.Test.YtkpmijmlbpdknaaG15
import Derived.Test.YtkpmijmlbpdknaaG17
namespace Go.Proofs.Ytkpmijmlbpdknaa
set_option linter.unusedVariables false
set_option linter.unusedSimpArgs false
variable (N : Nat)
def outside (ground : List Int) (n : Nat) : List Int := ((List.range n).map Int.ofNat).filter fun i => !ground.contains i
theorem outside_succ (g : List Int) (n : Nat) : outside g (n + 1) = cnd (g.contains (n : Int)) (outside g n) (outside g n ++ [(n : Int)]) := by
  unfold outside
  rw [List.range_succ, List.map_append, List.filter_append]
  simp only [List.map_cons, List.map_nil, List.filter_cons, List.filter_nil]
  cases h : g.contains (n : Int) <;> simp_all
theorem outside_len (g : List Int) (n : Nat) : (outside g n).length ≤ n := by
  unfold outside
  exact Nat.le_trans (List.length_filter_le _ _) (by simp)
theorem inner_outside (p : Pin) : inner p = outside p.ground p.g.n.toNat := rfl
theorem outside_mem (g : List Int) (n : Nat) (x : Int) : (outside g n).contains x = (inB x 0 ((n : Int) - 1) && !g.contains x) := by
  rw [Bool.eq_iff_iff]
  simp only [List.contains_eq_mem, decide_eq_true_eq, outside, List.mem_filter, List.mem_map, List.mem_range, inB, Bool.and_eq_true]
  constructor
  · rintro ⟨⟨i, hi, rfl⟩, h⟩
    refine ⟨⟨?_, ?_⟩, h⟩
    · show (0 : Int) ≤ (i : Int); omega
    · show (i : Int) ≤ _; omega
  · rintro ⟨⟨h1, h2⟩, h⟩
    exact ⟨⟨x.toNat, by omega, by show ((x.toNat : Nat) : Int) = x; omega⟩, h⟩
/-- the points that are not grounded; none where the structure is not valid -/
def innerPts (p : Pin) : List Int := cnd (isPinned p) (inner p) []
theorem isPinned_bd {p : Pin} (h : isPinned p = true) : 1 ≤ p.g.n ∧ p.g.n ≤ 8 ∧ p.g.bars.length ≤ 15 ∧ p.ground.length ≤ 27 := by
  obtain ⟨h1, h2, h3, h4, h5, _⟩ := isPinned_parts h
  have := isPinned_n h1
  omega
theorem innerI_s (hN : 4000000 ≤ N) {p : Pin} (hb : p.g.bars.length ≤ 3000000) (hg : p.ground.length ≤ 3000000) : I_InnerPoints N p = some (innerPts p) := by
  unfold I_InnerPoints innerPts
  rw [isPinnedI_s N hN hb hg, Option.bind_some, cnd_not]
  cases hp : isPinned p with
  | false => rfl
  | true =>
    have hbd := isPinned_bd hp
    rw [cnd_true, cnd_true, inner_outside]
    refine (fold (len := p.g.n.toNat) (st := outside p.ground) (fin := some (outside p.ground p.g.n.toNat)) (by omega) ?_ ?_)
    · intro n i hi
      have hl := outside_len p.ground i
      rw [I_InnerPoints_l1]
      simp (disch := omega) only [Int.toNat_natCast, tk0, List.length_cons, List.length_nil, grd_pos, grd_T, grd_R, cnd_dt, cnd_df, cnd_true, cnd_false, Option.bind_some, contains_s N hN hg, cnd_not, succ_cast, outside_succ]
      cases p.ground.contains (i : Int) <;> rfl
    · intro n
      rw [I_InnerPoints_l1]
      simp (disch := omega) only [Int.toNat_natCast, tk0, List.length_cons, List.length_nil, grd_pos, grd_T, grd_R, cnd_dt, cnd_df, cnd_true, cnd_false, Option.bind_some]
theorem innerS_s (hN : 4000000 ≤ N) {p : Pin} (hb : p.g.bars.length ≤ 3000000) (hg : p.ground.length ≤ 3000000) : S_InnerPoints N p = some (innerPts p) := by
  unfold S_InnerPoints innerPts
  cases hp : isPinned p with
  | false =>
    obtain ⟨M, rfl⟩ : ∃ M, N = M + 1 := ⟨N - 1, by omega⟩
    rw [S_InnerPoints_l1, isPinnedS_s _ hN hb hg, Option.bind_some, hp]
    cases decide ((0 : Int) < p.g.n) <;> rfl
  | true =>
    have hbd := isPinned_bd hp
    rw [cnd_true, inner_outside]
    refine (fold (len := p.g.n.toNat) (st := outside p.ground) (fin := some (outside p.ground p.g.n.toNat)) (by omega) ?_ ?_)
    · intro n i hi
      have hl := outside_len p.ground i
      rw [S_InnerPoints_l1]
      simp (disch := omega) only [Int.toNat_natCast, tk0, List.length_cons, List.length_nil, grd_pos, grd_T, grd_R, cnd_dt, cnd_df, cnd_true, cnd_false, Option.bind_some, isPinnedS_s N hN hb hg, hp, l2Has_s N hN hg, cnd_not, succ_cast, outside_succ]
      cases p.ground.contains (i : Int) <;> rfl
    · intro n
      rw [S_InnerPoints_l1]
      simp (disch := omega) only [Int.toNat_natCast, tk0, List.length_cons, List.length_nil, grd_pos, grd_T, grd_R, cnd_dt, cnd_df, cnd_true, cnd_false, Option.bind_some]
/-- an inner point -/
def isIn (p : Pin) (x : Int) : Bool := inB x 0 (p.g.n - 1) && !p.ground.contains x
theorem isInner_s (hN : 4000000 ≤ N) {p : Pin} (hp : isPinned p = true) (x : Int) : M_Pinned_isInner N p x = some (isIn p x) := by
  have hbd := isPinned_bd hp
  unfold M_Pinned_isInner isIn
  rw [ghas_s N (by omega) (by omega), Option.bind_some, contains_s N hN (by omega), Option.bind_some, cnd_some]
  cases inB x 0 (p.g.n - 1) <;> rfl
theorem innerPts_mem {p : Pin} (hp : isPinned p = true) (x : Int) : (innerPts p).contains x = isIn p x := by
  have hbd := isPinned_bd hp
  unfold innerPts isIn
  rw [hp, cnd_true, inner_outside, outside_mem, show ((p.g.n.toNat : Nat) : Int) = p.g.n by omega]
/-- the other end -/
def otherEnd (b : Int × Int) (v : Int) : Int := cnd (b.1 == v) b.2 b.1
def hasEnd (b : Int × Int) (v : Int) : Bool := b.1 == v || b.2 == v
theorem hasEnd_1 {b : Int × Int} {v : Int} (h : b.1 = v) : hasEnd b v = true := by simp [hasEnd, h]
theorem hasEnd_2 {b : Int × Int} {v : Int} (h : b.2 = v) : hasEnd b v = true := by simp [hasEnd, h]
theorem hasEnd_0 {b : Int × Int} {v : Int} (h : ¬ b.1 = v) (h2 : ¬ b.2 = v) : hasEnd b v = false := by simp [hasEnd, h, h2]
theorem bhas_s (b : Int × Int) (v : Int) : M_Bar_has N b v = some (hasEnd b v) := by
  unfold M_Bar_has hasEnd
  rw [cnd_some]; cases b.1 == v <;> rfl
theorem bother_s (b : Int × Int) (v : Int) : M_Bar_other N b v = some (otherEnd b v) := by
  unfold M_Bar_other otherEnd
  rw [cnd_some]
theorem l4Other_s {b : Int × Int} {v : Int} (h1 : 0 ≤ b.1) (h2 : b.1 ≤ 1048576) (h3 : 0 ≤ b.2) (h4 : b.2 ≤ 1048576) (h : hasEnd b v = true) : S_l4Other N b v = some (otherEnd b v) := by
  unfold S_l4Other otherEnd
  simp only [hasEnd, Bool.or_eq_true, beq_iff_eq] at h
  rcases h with h | h
  · simp (disch := omega) only [Int.toNat_natCast, tk0, List.length_cons, List.length_nil, grd_pos, grd_T, grd_R, cnd_dt, cnd_df, cnd_true, cnd_false, Option.bind_some]
    congr 1
    rw [show (b.1 == v) = true by simpa using h, cnd_true]; omega
  · simp (disch := omega) only [Int.toNat_natCast, tk0, List.length_cons, List.length_nil, grd_pos, grd_T, grd_R, cnd_dt, cnd_df, cnd_true, cnd_false, Option.bind_some]
    congr 1
    cases hb : b.1 == v with
    | true => have : b.1 = v := by simpa using hb
              rw [cnd_true]; omega
    | false => rw [cnd_false]; omega
theorem isPinned_bar {p : Pin} (hp : isPinned p = true) {i : Nat} (hi : i < p.g.bars.length) : 0 ≤ (p.g.bars.getD i (0, 0)).1 ∧ (p.g.bars.getD i (0, 0)).1 ≤ 8 ∧ 0 ≤ (p.g.bars.getD i (0, 0)).2 ∧ (p.g.bars.getD i (0, 0)).2 ≤ 8 ∧ (p.g.bars.getD i (0, 0)).1 < p.g.n ∧ (p.g.bars.getD i (0, 0)).2 < p.g.n ∧ (p.g.bars.getD i (0, 0)).1 < (p.g.bars.getD i (0, 0)).2 := by
  have h1 := (isPinned_parts hp).1
  have h2 := isGraph_bar h1 (List.getElem_mem hi)
  have h3 := isPinned_n h1
  simp [List.getD_eq_getElem?_getD, hi]
  omega
/-- a bar leads from x to the ground or to what is done -/
def holdP (p : Pin) (dn : List Int) (x e : Int) : Bool :=
  inB e 0 ((p.g.bars.length : Int) - 1) && (hasEnd (p.g.bars.getD e.toNat (0, 0)) x && (p.ground.contains (otherEnd (p.g.bars.getD e.toNat (0, 0)) x) || dn.contains (otherEnd (p.g.bars.getD e.toNat (0, 0)) x)))
theorem holds_s (hN : 4000000 ≤ N) {p : Pin} (hp : isPinned p = true) {dn : List Int} (hd : dn.length ≤ 3000000) (x e : Int) : M_Pinned_holds N p dn x e = some (holdP p dn x e) := by
  have hbd := isPinned_bd hp
  unfold M_Pinned_holds holdP
  simp (disch := omega) only [Int.toNat_natCast, tk0, List.length_cons, List.length_nil, grd_pos, grd_T, grd_R, cnd_dt, cnd_df, cnd_true, cnd_false, Option.bind_some, within_s, cnd_not]
  cases h1 : inB e 0 ((p.g.bars.length : Int) - 1) with
  | false => rfl
  | true =>
    have h2 := inB_true.1 h1
    simp (disch := omega) only [Int.toNat_natCast, tk0, List.length_cons, List.length_nil, grd_pos, grd_T, grd_R, cnd_dt, cnd_df, cnd_true, cnd_false, Option.bind_some, bhas_s, bother_s, contains_s N hN (show p.ground.length ≤ 3000000 by omega), contains_s N hN hd, cnd_not]
    cases hasEnd (p.g.bars.getD e.toNat (0, 0)) x with
    | false => rfl
    | true =>
      rw [cnd_true]
      cases p.ground.contains (otherEnd (p.g.bars.getD e.toNat (0, 0)) x) <;> rfl
def raiseAt (p : Pin) (dn : List Int) (r : Rse) (i : Nat) : Bool := holdP p dn r.p (r.bars.getD i 0) && (decide (i = 0) || decide (r.bars.getD (i - 1) 0 < r.bars.getD i 0))
def raiseOk (p : Pin) (dn : List Int) (r : Rse) : Bool := isPinned p && (isIn p r.p && (!dn.contains r.p && (decide (2 ≤ r.bars.length) && (List.range r.bars.length).all (raiseAt p dn r))))
theorem isRaiseI_s (hN : 4000000 ≤ N) {p : Pin} (hb : p.g.bars.length ≤ 3000000) (hg : p.ground.length ≤ 3000000) {dn : List Int} (hd : dn.length ≤ 3000000) {r : Rse} (hr : r.bars.length ≤ 3000000) : I_IsRaise N p dn r = some (raiseOk p dn r) := by
  unfold I_IsRaise raiseOk
  rw [isPinnedI_s N hN hb hg, Option.bind_some, cnd_not]
  cases hp : isPinned p with
  | false => rfl
  | true =>
    rw [cnd_true, isInner_s N hN hp, Option.bind_some, contains_s N hN hd, Option.bind_some, cnd_not]
    cases isIn p r.p with
    | false => rfl
    | true =>
      rw [cnd_true]
      cases dn.contains r.p with
      | true => rfl
      | false =>
        rw [cnd_false]
        by_cases h2 : 2 ≤ r.bars.length
        · simp (disch := omega) only [Int.toNat_natCast, tk0, List.length_cons, List.length_nil, grd_pos, grd_T, grd_R, cnd_dt, cnd_df, cnd_true, cnd_false, Option.bind_some]
          refine (srch (len := r.bars.length) (ok := raiseAt p dn r) (bad := some false) (fin := some true) (by omega) ?_ ?_).trans ?_
          · intro n i hi _
            rw [I_IsRaise_l1]
            by_cases h0 : i = 0
            · subst h0
              simp (disch := omega) only [Int.toNat_natCast, tk0, List.length_cons, List.length_nil, grd_pos, grd_T, grd_R, cnd_dt, cnd_df, cnd_true, cnd_false, Option.bind_some, holds_s N hN hp hd, succ_cast]
              refine cnd_congr' ?_ _ _
              simp [raiseAt]
            · simp (disch := omega) only [Int.toNat_natCast, tk0, List.length_cons, List.length_nil, grd_pos, grd_T, grd_R, cnd_dt, cnd_df, cnd_true, cnd_false, Option.bind_some, holds_s N hN hp hd, succ_cast, cnd_or, show ((i : Int) - 1).toNat = i - 1 from by omega]
              refine cnd_congr' ?_ _ _
              simp only [raiseAt, decide_eq_false h0, Bool.false_or]
              cases holdP p dn r.p (r.bars.getD i 0) <;> (rw [Bool.eq_iff_iff]; simp)
          · intro n _
            rw [I_IsRaise_l1]
            simp (disch := omega) only [Int.toNat_natCast, tk0, List.length_cons, List.length_nil, grd_pos, grd_T, grd_R, cnd_dt, cnd_df, cnd_true, cnd_false, Option.bind_some]
          · rw [cnd_some, cnd_bool, decide_eq_true h2]; rfl
        · simp (disch := omega) only [Int.toNat_natCast, tk0, List.length_cons, List.length_nil, grd_pos, grd_T, grd_R, cnd_dt, cnd_df, cnd_true, cnd_false, Option.bind_some]
          rw [decide_eq_false h2]; rfl
theorem l26Ends_s (hN : 4000000 ≤ N) {p : Pin} (hp : isPinned p = true) {dn : List Int} (hd : dn.length ≤ 3000000) {r : Rse} (hr : r.bars.length ≤ 3000000) : S_l26Ends N p dn r = some ((List.range r.bars.length).all (raiseAt p dn r)) := by
  have hbd := isPinned_bd hp
  unfold S_l26Ends
  refine (srch (len := r.bars.length) (ok := raiseAt p dn r) (bad := some false) (fin := some true) (by omega) ?_ ?_).trans (by rw [cnd_some, cnd_bool])
  · intro n i hi _
    rw [S_l26Ends_l1]
    have e : ∀ X : Option Bool, cnd (raiseAt p dn r i) X (some false) = cnd (inB (r.bars.getD i 0) 0 ((p.g.bars.length : Int) - 1)) (cnd (decide (i = 0) || decide (r.bars.getD (i - 1) 0 < r.bars.getD i 0)) (cnd (hasEnd (p.g.bars.getD (r.bars.getD i 0).toNat (0, 0)) r.p)
        (cnd (p.ground.contains (otherEnd (p.g.bars.getD (r.bars.getD i 0).toNat (0, 0)) r.p) || dn.contains (otherEnd (p.g.bars.getD (r.bars.getD i 0).toNat (0, 0)) r.p)) X (some false)) (some false)) (some false)) (some false) := by
      intro X
      unfold raiseAt holdP
      cases inB (r.bars.getD i 0) 0 ((p.g.bars.length : Int) - 1) <;> cases (decide (i = 0) || decide (r.bars.getD (i - 1) 0 < r.bars.getD i 0)) <;> cases hasEnd (p.g.bars.getD (r.bars.getD i 0).toNat (0, 0)) r.p <;> simp [cnd]
    rw [e]
    by_cases h1 : r.bars.getD i 0 < 0
    · simp (disch := omega) only [Int.toNat_natCast, tk0, List.length_cons, List.length_nil, grd_pos, grd_T, grd_R, cnd_dt, cnd_df, cnd_true, cnd_false, Option.bind_some]
      rw [show inB (r.bars.getD i 0) 0 ((p.g.bars.length : Int) - 1) = false by simp only [inB, decide_eq_false (show ¬ 0 ≤ r.bars.getD i 0 by omega)]; rfl]; rfl
    · by_cases h2 : (p.g.bars.length : Int) ≤ r.bars.getD i 0
      · simp (disch := omega) only [Int.toNat_natCast, tk0, List.length_cons, List.length_nil, grd_pos, grd_T, grd_R, cnd_dt, cnd_df, cnd_true, cnd_false, Option.bind_some]
        rw [show inB (r.bars.getD i 0) 0 ((p.g.bars.length : Int) - 1) = false by simp only [inB, decide_eq_false (show ¬ r.bars.getD i 0 ≤ (p.g.bars.length : Int) - 1 by omega), Bool.and_false]]; rfl
      · have hin : inB (r.bars.getD i 0) 0 ((p.g.bars.length : Int) - 1) = true := inB_true.2 (by omega)
        have hbar := isPinned_bar hp (i := (r.bars.getD i 0).toNat) (by omega)
        have rest : ∀ X : Option Bool, (cnd (((p.g.bars.getD (((r.bars.getD i 0)).toNat) (0, 0)).1) != r.p) (
              cnd (((p.g.bars.getD (((r.bars.getD i 0)).toNat) (0, 0)).2) != r.p) (
                some false) (
                (S_l4Other N (p.g.bars.getD (((r.bars.getD i 0)).toNat) (0, 0)) r.p).bind fun v145 =>
                (S_l2Has N p.ground v145).bind fun v146 =>
                cnd (!v146) (
                  (S_l2Has N dn v145).bind fun v147 =>
                  cnd (!v147) (
                    some false) X) X)) (
              (S_l4Other N (p.g.bars.getD (((r.bars.getD i 0)).toNat) (0, 0)) r.p).bind fun v148 =>
              (S_l2Has N p.ground v148).bind fun v149 =>
              cnd (!v149) (
                (S_l2Has N dn v148).bind fun v150 =>
                cnd (!v150) (
                  some false) X) X)) = (cnd (hasEnd (p.g.bars.getD (r.bars.getD i 0).toNat (0, 0)) r.p)
        (cnd (p.ground.contains (otherEnd (p.g.bars.getD (r.bars.getD i 0).toNat (0, 0)) r.p) || dn.contains (otherEnd (p.g.bars.getD (r.bars.getD i 0).toNat (0, 0)) r.p)) X (some false)) (some false)) := by
          intro X
          have hh : (S_l2Has N p.ground (otherEnd (p.g.bars.getD (r.bars.getD i 0).toNat (0, 0)) r.p)).bind (fun v149 => cnd (!v149) ((S_l2Has N dn (otherEnd (p.g.bars.getD (r.bars.getD i 0).toNat (0, 0)) r.p)).bind fun v150 => cnd (!v150) (some false) X) X) =
              cnd (p.ground.contains (otherEnd (p.g.bars.getD (r.bars.getD i 0).toNat (0, 0)) r.p) || dn.contains (otherEnd (p.g.bars.getD (r.bars.getD i 0).toNat (0, 0)) r.p)) X (some false) := by
            rw [l2Has_s N hN (by omega), Option.bind_some, l2Has_s N hN hd, Option.bind_some]
            cases p.ground.contains (otherEnd (p.g.bars.getD (r.bars.getD i 0).toNat (0, 0)) r.p) <;> cases dn.contains (otherEnd (p.g.bars.getD (r.bars.getD i 0).toNat (0, 0)) r.p) <;> rfl
          by_cases ha : (p.g.bars.getD (r.bars.getD i 0).toNat (0, 0)).1 = r.p
          · have he : hasEnd (p.g.bars.getD (r.bars.getD i 0).toNat (0, 0)) r.p = true := hasEnd_1 ha
            rw [cnd_nef ha, l4Other_s N (by omega) (by omega) (by omega) (by omega) he, Option.bind_some, he, cnd_true, hh]
          · by_cases hc : (p.g.bars.getD (r.bars.getD i 0).toNat (0, 0)).2 = r.p
            · have he : hasEnd (p.g.bars.getD (r.bars.getD i 0).toNat (0, 0)) r.p = true := hasEnd_2 hc
              rw [cnd_net ha, cnd_nef hc, l4Other_s N (by omega) (by omega) (by omega) (by omega) he, Option.bind_some, he, cnd_true, hh]
            · have he : hasEnd (p.g.bars.getD (r.bars.getD i 0).toNat (0, 0)) r.p = false := hasEnd_0 ha hc
              rw [cnd_net ha, cnd_net hc, he]; rfl
        rw [hin]
        by_cases h0 : i = 0
        · subst h0
          simp (disch := omega) only [Int.toNat_natCast, tk0, List.length_cons, List.length_nil, grd_pos, grd_T, grd_R, cnd_dt, cnd_df, cnd_true, cnd_false, Option.bind_some, succ_cast]
          refine (rest _).trans ?_
          simp
        · simp (disch := omega) only [Int.toNat_natCast, tk0, List.length_cons, List.length_nil, grd_pos, grd_T, grd_R, cnd_dt, cnd_df, cnd_true, cnd_false, Option.bind_some, succ_cast, show ((i : Int) - 1).toNat = i - 1 from by omega]
          rw [decide_eq_false h0, Bool.false_or]
          by_cases h3 : r.bars.getD (i - 1) 0 < r.bars.getD i 0
          · rw [decide_eq_true h3, cnd_df (by omega), cnd_true]
            exact rest _
          · rw [decide_eq_false h3, cnd_dt (by omega), cnd_false]
  · intro n _
    rw [S_l26Ends_l1]
    simp (disch := omega) only [Int.toNat_natCast, tk0, List.length_cons, List.length_nil, grd_pos, grd_T, grd_R, cnd_dt, cnd_df, cnd_true, cnd_false, Option.bind_some]
theorem isRaiseS_s (hN : 4000000 ≤ N) {p : Pin} (hb : p.g.bars.length ≤ 3000000) (hg : p.ground.length ≤ 3000000) {dn : List Int} (hd : dn.length ≤ 3000000) {r : Rse} (hr : r.bars.length ≤ 3000000) : S_IsRaise N p dn r = some (raiseOk p dn r) := by
  unfold S_IsRaise raiseOk
  rw [isPinnedS_s N hN hb hg, Option.bind_some]
  cases hp : isPinned p with
  | false => rfl
  | true =>
    have hbd := isPinned_bd hp
    have hlen : (innerPts p).length ≤ 3000000 := by
      unfold innerPts; rw [hp, cnd_true, inner_outside]
      have := outside_len p.ground p.g.n.toNat; omega
    rw [cnd_true, innerS_s N hN hb hg, Option.bind_some, l2Has_s N hN hlen, Option.bind_some, l2Has_s N hN hd, Option.bind_some, innerPts_mem hp, l26Ends_s N hN hp hd hr, Option.bind_some, cnd_not]
    rw [show decide ((r.bars.length : Int) ≥ 2) = decide (2 ≤ r.bars.length) from by rw [Bool.eq_iff_iff]; simp; omega]
    cases isIn p r.p <;> cases dn.contains r.p <;> cases decide (2 ≤ r.bars.length) <;> rfl
end Go.Proofs.Ytkpmijmlbpdknaa
