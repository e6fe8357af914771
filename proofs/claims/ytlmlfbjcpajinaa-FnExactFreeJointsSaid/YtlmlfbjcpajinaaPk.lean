/- Trilateration in order, free joints, damage: what the plain texts compute. -/
import Derived.Test.YtlmlfbjcpajinaaPh
import Derived.Test.YtlmlfbjcpajinaaPj
import Derived.Test.YtlmlfbjcpajinaaG2
import Derived.Test.YtlmlfbjcpajinaaG5
import Derived.Test.YtlmlfbjcpajinaaG7
import Derived.Test.YtlmlfbjcpajinaaG19
import Derived.Test.YtlmlfbjcpajinaaG22
import Derived.Test.YtlmlfbjcpajinaaG23
namespace Go.Proofs.Ytlmlfbjcpajinaa
set_option linter.unusedVariables false
set_option linter.unusedSimpArgs false
variable (N : Nat)
/-- chosen indices below i, with what lies there -/
def sel {α : Type} (f : Nat → α) (q : Nat → Bool) (i : Nat) : List α := ((List.range i).filter q).map f
theorem sel_succ {α : Type} (f : Nat → α) (q : Nat → Bool) (i : Nat) : sel f q (i + 1) = cnd (q i) (sel f q i ++ [f i]) (sel f q i) := by
  unfold sel
  rw [List.range_succ, List.filter_append, List.map_append]
  cases h : q i <;> simp [h]
theorem sel_len {α : Type} (f : Nat → α) (q : Nat → Bool) (i : Nat) : (sel f q i).length ≤ i := by
  unfold sel
  rw [List.length_map]
  exact Nat.le_trans (List.length_filter_le ..) (by simp)
theorem sel_zero {α : Type} (f : Nat → α) (q : Nat → Bool) : sel f q 0 = [] := rfl
theorem sel_congr {α : Type} {f : Nat → α} {q q' : Nat → Bool} {i : Nat} (h : ∀ j, j < i → q j = q' j) : sel f q i = sel f q' i := by
  unfold sel
  congr 1
  exact List.filter_congr fun x hx => h x (List.mem_range.1 hx)
theorem sel_has {q : Nat → Bool} {i j : Nat} (hj : j < i) : (sel (fun k => (k : Int)) q i).contains (j : Int) = q j := by
  rw [Bool.eq_iff_iff]
  simp only [sel, List.contains_eq_mem, decide_eq_true_eq, List.mem_map, List.mem_filter, List.mem_range]
  constructor
  · rintro ⟨k, ⟨_, h⟩, he⟩
    have : k = j := by omega
    subst this; exact h
  · intro h; exact ⟨j, ⟨hj, h⟩, rfl⟩

/-! ### trilateration -/
def trilO (g : Grf) (l : List Int) : List Int := cnd (anchOk g l) (tril g.bars g.n.toNat g.n.toNat l []) []
theorem trilO_len (g : Grf) (l : List Int) : (trilO g l).length ≤ 8 := by
  unfold trilO
  cases ha : anchOk g l with
  | false => simp
  | true =>
    have ha' := ha
    simp only [anchOk, isSimple, Bool.and_eq_true] at ha'
    have hn := isGraph_n ha'.1.1
    have ht := tril_len g.bars g.n.toNat g.n.toNat l []
    simp only [List.length_nil] at ht
    rw [cnd_true]; omega
theorem trilOS_s (hN : 4000000 ≤ N) {g : Grf} (hb : g.bars.length ≤ 3000000) {l : List Int} (hl : l.length ≤ 3000000) : S_TrilaterationOrder N g l = some (trilO g l) := by
  cases ha : anchOk g l with
  | true => rw [trilS_s N hN hb hl ha, trilO, ha]; rfl
  | false =>
    unfold S_TrilaterationOrder trilO
    rw [ha, cnd_false]
    obtain ⟨M, rfl⟩ : ∃ M, N = M + 1 := ⟨N - 1, by omega⟩
    simp (disch := omega) only [Int.toNat_natCast, tk0, List.length_cons, List.length_nil, grd_pos, grd_T, grd_R, cnd_dt, cnd_df, cnd_true, cnd_false, Option.bind_some]
    rw [S_TrilaterationOrder_l1]
    by_cases h0 : 0 < g.n
    · simp (disch := omega) only [Int.toNat_natCast, tk0, List.length_cons, List.length_nil, grd_pos, grd_T, grd_R, cnd_dt, cnd_df, cnd_true, cnd_false, Option.bind_some, anchS_s _ hN hb hl, ha]
    · simp (disch := omega) only [Int.toNat_natCast, tk0, List.length_cons, List.length_nil, grd_pos, grd_T, grd_R, cnd_dt, cnd_df, cnd_true, cnd_false, Option.bind_some]
theorem trilOI_s (hN : 4000000 ≤ N) {g : Grf} (hb : g.bars.length ≤ 3000000) {l : List Int} (hl : l.length ≤ 3000000) : I_TrilaterationOrder N g l = some (trilO g l) := by
  cases ha : anchOk g l with
  | true => rw [trilI_s N hN hb hl ha, trilO, ha]; rfl
  | false =>
    unfold I_TrilaterationOrder trilO
    simp (disch := omega) only [Int.toNat_natCast, tk0, List.length_cons, List.length_nil, grd_pos, grd_T, grd_R, cnd_dt, cnd_df, cnd_true, cnd_false, Option.bind_some, anchI_s N hN hb hl, ha, Bool.not_false]

/-! ### free joints -/
def freeJ (l : Lnk) : List Int := cnd (isLk l) (outside l.ground l.f.places.length) []
theorem freeJ_len (l : Lnk) : (freeJ l).length ≤ 8 := by
  unfold freeJ
  cases h : isLk l with
  | false => simp
  | true =>
    obtain ⟨h1, _⟩ := isLk_parts h
    obtain ⟨h2, h3, h4, _⟩ := isFr_parts h1
    have := outside_len l.ground l.f.places.length
    rw [cnd_true]; omega
theorem freeI_s (hN : 4000000 ≤ N) {l : Lnk} (hp : l.f.places.length ≤ 3000000) (hg : l.ground.length ≤ 3000000) : I_FreeJoints N l = some (freeJ l) := by
  unfold I_FreeJoints freeJ
  rw [isLkI_s N hN hp hg, Option.bind_some, cnd_not]
  cases h : isLk l with
  | false => rfl
  | true =>
    rw [cnd_true, cnd_true]
    refine (fold (len := l.f.places.length) (st := outside l.ground) (fin := some (outside l.ground l.f.places.length)) (by omega) ?_ ?_)
    · intro n i hi
      have hl := outside_len l.ground i
      rw [I_FreeJoints_l1]
      simp (disch := omega) only [Int.toNat_natCast, tk0, List.length_cons, List.length_nil, grd_pos, grd_T, grd_R, cnd_dt, cnd_df, cnd_true, cnd_false, Option.bind_some, contains_s N hN hg, cnd_not, succ_cast, outside_succ]
      cases l.ground.contains (i : Int) <;> rfl
    · intro n
      rw [I_FreeJoints_l1]
      simp (disch := omega) only [Int.toNat_natCast, tk0, List.length_cons, List.length_nil, grd_pos, grd_T, grd_R, cnd_dt, cnd_df, cnd_true, cnd_false, Option.bind_some]
theorem freeS_s (hN : 4000000 ≤ N) {l : Lnk} (hp : l.f.places.length ≤ 3000000) (hg : l.ground.length ≤ 3000000) : S_FreeJoints N l = some (freeJ l) := by
  unfold S_FreeJoints freeJ
  cases h : isLk l with
  | false =>
    obtain ⟨M, rfl⟩ : ∃ M, N = M + 1 := ⟨N - 1, by omega⟩
    rw [S_FreeJoints_l1, isLkS_s _ hN hp hg, Option.bind_some, h]
    cases decide ((0 : Int) < (l.f.places.length : Int)) <;> rfl
  | true =>
    rw [cnd_true]
    refine (fold (len := l.f.places.length) (st := outside l.ground) (fin := some (outside l.ground l.f.places.length)) (by omega) ?_ ?_)
    · intro n i hi
      have hl := outside_len l.ground i
      rw [S_FreeJoints_l1]
      simp (disch := omega) only [Int.toNat_natCast, tk0, List.length_cons, List.length_nil, grd_pos, grd_T, grd_R, cnd_dt, cnd_df, cnd_true, cnd_false, Option.bind_some, isLkS_s N hN hp hg, h, l2Has_s N hN hg, cnd_not, succ_cast, outside_succ]
      cases l.ground.contains (i : Int) <;> rfl
    · intro n
      rw [S_FreeJoints_l1]
      simp (disch := omega) only [Int.toNat_natCast, tk0, List.length_cons, List.length_nil, grd_pos, grd_T, grd_R, cnd_dt, cnd_df, cnd_true, cnd_false, Option.bind_some]

/-! ### some bars only, damage -/
def brAt (bars : List (Int × Int)) (i : Nat) : Int × Int := bars.getD i (0, 0)
def onlyB (bars : List (Int × Int)) (keep : List Int) : List (Int × Int) := sel (brAt bars) (fun i => keep.contains (i : Int)) bars.length
theorem onlyB_len (bars : List (Int × Int)) (keep : List Int) : (onlyB bars keep).length ≤ bars.length := sel_len _ _ _
theorem onlyS_s (hN : 4000000 ≤ N) {g : Grf} (hb : g.bars.length ≤ 3000000) {l : List Int} (hl : l.length ≤ 3000000) : S_OnlyBars N g l = some ⟨g.n, onlyB g.bars l⟩ := by
  unfold S_OnlyBars
  refine (fold (len := g.bars.length) (st := sel (brAt g.bars) fun i => l.contains (i : Int)) (by omega) ?_ ?_)
  · intro n i hi
    have hl := sel_len (brAt g.bars) (fun i => l.contains (i : Int)) i
    rw [S_OnlyBars_l1]
    simp (disch := omega) only [Int.toNat_natCast, tk0, List.length_cons, List.length_nil, grd_pos, grd_T, grd_R, cnd_dt, cnd_df, cnd_true, cnd_false, Option.bind_some, l2Has_s N hN (by assumption), succ_cast, sel_succ]
    cases l.contains (i : Int)
    · simp (disch := omega) only [Int.toNat_natCast, tk0, List.length_cons, List.length_nil, grd_pos, grd_T, grd_R, cnd_dt, cnd_df, cnd_true, cnd_false, Option.bind_some]
    · simp (disch := omega) only [Int.toNat_natCast, tk0, List.length_cons, List.length_nil, grd_pos, grd_T, grd_R, cnd_dt, cnd_df, cnd_true, cnd_false, Option.bind_some]; rfl
  · intro n
    rw [S_OnlyBars_l1]
    simp (disch := omega) only [Int.toNat_natCast, tk0, List.length_cons, List.length_nil, grd_pos, grd_T, grd_R, cnd_dt, cnd_df, cnd_true, cnd_false, Option.bind_some]
    rfl
def dmgOk (p : Pin) (l : List Int) : Bool := (List.range l.length).all fun i => inB (l.getD i 0) 0 ((p.g.bars.length : Int) - 1)
def dmg (p : Pin) (l : List Int) : Pin × Bool := cnd (isPinned p && dmgOk p l) (⟨⟨p.g.n, sel (brAt p.g.bars) (fun i => !l.contains (i : Int)) p.g.bars.length⟩, p.ground⟩, true) (⟨⟨0, []⟩, []⟩, false)
theorem dmg_len (p : Pin) (l : List Int) : (dmg p l).1.g.bars.length ≤ p.g.bars.length ∧ (dmg p l).1.ground.length ≤ p.ground.length := by
  unfold dmg
  cases isPinned p && dmgOk p l
  · simp
  · rw [cnd_true]; exact ⟨sel_len _ _ _, Nat.le_refl _⟩
theorem dmgS_s (hN : 4000000 ≤ N) {p : Pin} (hb : p.g.bars.length ≤ 3000000) (hg : p.ground.length ≤ 3000000) {l : List Int} (hl : l.length ≤ 3000000) : S_Damaged N p l = some (dmg p l) := by
  unfold S_Damaged
  refine (srch (len := l.length) (ok := fun i => inB (l.getD i 0) 0 ((p.g.bars.length : Int) - 1)) (bad := some (⟨⟨0, []⟩, []⟩, false)) (fin := cnd (isPinned p) (some (⟨⟨p.g.n, sel (brAt p.g.bars) (fun i => !l.contains (i : Int)) p.g.bars.length⟩, p.ground⟩, true)) (some (⟨⟨0, []⟩, []⟩, false))) (by omega) ?_ ?_).trans ?_
  · intro n i hi _
    rw [S_Damaged_l2]
    simp (disch := omega) only [Int.toNat_natCast, tk0, List.length_cons, List.length_nil, grd_pos, grd_T, grd_R, cnd_dt, cnd_df, cnd_true, cnd_false, Option.bind_some, succ_cast, inB]
    by_cases h1 : l.getD i 0 < 0
    · have : decide (0 ≤ l.getD i 0) = false := decide_eq_false (by omega)
      simp (disch := omega) only [Int.toNat_natCast, tk0, List.length_cons, List.length_nil, grd_pos, grd_T, grd_R, cnd_dt, cnd_df, cnd_true, cnd_false, Option.bind_some, this, Bool.false_and]
    · by_cases h2 : l.getD i 0 ≥ (p.g.bars.length : Int)
      · have : decide (l.getD i 0 ≤ (p.g.bars.length : Int) - 1) = false := decide_eq_false (by omega)
        simp (disch := omega) only [Int.toNat_natCast, tk0, List.length_cons, List.length_nil, grd_pos, grd_T, grd_R, cnd_dt, cnd_df, cnd_true, cnd_false, Option.bind_some, this, Bool.and_false]
      · have e1 : decide (0 ≤ l.getD i 0) = true := decide_eq_true (by omega)
        have e2 : decide (l.getD i 0 ≤ (p.g.bars.length : Int) - 1) = true := decide_eq_true (by omega)
        simp (disch := omega) only [Int.toNat_natCast, tk0, List.length_cons, List.length_nil, grd_pos, grd_T, grd_R, cnd_dt, cnd_df, cnd_true, cnd_false, Option.bind_some, e1, e2, Bool.and_self]
  · intro n _
    rw [S_Damaged_l2]
    simp (disch := omega) only [Int.toNat_natCast, tk0, List.length_cons, List.length_nil, grd_pos, grd_T, grd_R, cnd_dt, cnd_df, cnd_true, cnd_false, Option.bind_some]
    refine (fold (len := p.g.bars.length) (st := sel (fun (k : Nat) => (k : Int)) fun i => !l.contains (i : Int)) (by omega) ?_ ?_)
    · intro n i hi
      have hl' := sel_len (fun (k : Nat) => (k : Int)) (fun i => !l.contains (i : Int)) i
      rw [S_Damaged_l1]
      simp (disch := omega) only [Int.toNat_natCast, tk0, List.length_cons, List.length_nil, grd_pos, grd_T, grd_R, cnd_dt, cnd_df, cnd_true, cnd_false, Option.bind_some, l2Has_s N hN (by assumption), succ_cast, sel_succ]
      cases l.contains (i : Int) <;> rfl
    · intro n
      have hl' := sel_len (fun (k : Nat) => (k : Int)) (fun i => !l.contains (i : Int)) p.g.bars.length
      rw [S_Damaged_l1]
      simp (disch := omega) only [Int.toNat_natCast, tk0, List.length_cons, List.length_nil, grd_pos, grd_T, grd_R, cnd_dt, cnd_df, cnd_true, cnd_false, Option.bind_some, isPinnedS_s N hN hb hg]
      cases isPinned p with
      | false => rfl
      | true =>
        simp (disch := omega) only [Int.toNat_natCast, tk0, List.length_cons, List.length_nil, grd_pos, grd_T, grd_R, cnd_dt, cnd_df, cnd_true, cnd_false, Option.bind_some, onlyS_s N hN hb, Bool.not_true]
        have e : onlyB p.g.bars (sel (fun (k : Nat) => (k : Int)) (fun i => !l.contains (i : Int)) p.g.bars.length) = sel (brAt p.g.bars) (fun i => !l.contains (i : Int)) p.g.bars.length :=
          sel_congr fun j hj => sel_has (q := fun i => !l.contains (i : Int)) hj
        rw [e]; rfl
  · unfold dmg dmgOk
    generalize (List.range l.length).all _ = x
    cases isPinned p <;> cases x <;> rfl
theorem copyInts_s {l : List Int} (hl : l.length ≤ 3000000) : I_copyInts N l = some l := by
  unfold I_copyInts
  rw [grd_pos (by first | omega | (simp; omega))]
  rfl
/-- broken bars marked -/
def brk (l : List Int) (m i : Nat) : List Bool := (List.range m).map fun (j : Nat) => (l.take i).contains (j : Int)
theorem brk_zero (l : List Int) (m : Nat) : List.replicate m false = brk l m 0 := by
  simp [brk, List.map_const']
theorem brk_set (l : List Int) (m i : Nat) (hi : i < l.length) (h0 : 0 ≤ l.getD i 0) : (brk l m i).set (l.getD i 0).toNat true = brk l m (i + 1) := by
  apply List.ext_getElem
  · simp [brk]
  · intro j h1 h2
    simp [brk] at h1 h2
    rw [List.getElem_set]
    have e : l.getD i 0 = l[i] := by simp [List.getD_eq_getElem?_getD, hi]
    simp only [brk, List.getElem_map, List.getElem_range]
    rw [List.take_succ_eq_append_getElem hi, List.contains_append]
    split
    · rename_i hj
      have : ((j : Nat) : Int) = l[i] := by omega
      simp [this]
    · rename_i hj
      have : ¬ ((j : Nat) : Int) = l[i] := by omega
      simp [this]
theorem brk_get (l : List Int) (m i : Nat) (hi : i < m) : (brk l m l.length).getD i false = l.contains (i : Int) := by
  simp [brk, hi]
theorem dmgI_s (hN : 4000000 ≤ N) {p : Pin} (hb : p.g.bars.length ≤ 3000000) (hg : p.ground.length ≤ 3000000) {l : List Int} (hl : l.length ≤ 3000000) : I_Damaged N p l = some (dmg p l) := by
  unfold I_Damaged
  rw [isPinnedI_s N hN hb hg, Option.bind_some, cnd_not]
  unfold dmg
  cases hp : isPinned p with
  | false => rfl
  | true =>
    rw [cnd_true, Bool.true_and]
    simp (disch := omega) only [Int.toNat_natCast, tk0, List.length_cons, List.length_nil, grd_pos, grd_T, grd_R, cnd_dt, cnd_df, cnd_true, cnd_false, Option.bind_some]
    simp only [brk_zero l]
    have key : ∀ n i : Nat, i ≤ l.length → l.length < n + i → (∀ j, j < i → inB (l.getD j 0) 0 ((p.g.bars.length : Int) - 1) = true) → ∀ k, (∀ c, c = brk l p.g.bars.length l.length → k c = some ((⟨⟨p.g.n, sel (brAt p.g.bars) (fun i => !l.contains (i : Int)) p.g.bars.length⟩, p.ground⟩ : Pin), true)) →
        I_Damaged_l2 N p l k n (brk l p.g.bars.length i, (i : Int)) = some (cnd (dmgOk p l) (⟨⟨p.g.n, sel (brAt p.g.bars) (fun i => !l.contains (i : Int)) p.g.bars.length⟩, p.ground⟩, true) (⟨⟨0, []⟩, []⟩, false)) := by
      intro n
      induction n with
      | zero => intro i h1 h2; omega
      | succ n ih =>
        intro i h1 h2 h3 k hk
        rw [I_Damaged_l2]
        have hbl : (brk l p.g.bars.length i).length = p.g.bars.length := by simp [brk]
        by_cases hi : i < l.length
        · simp (disch := omega) only [Int.toNat_natCast, tk0, List.length_cons, List.length_nil, grd_pos, grd_T, grd_R, cnd_dt, cnd_df, cnd_true, cnd_false, Option.bind_some, List.length_replicate, within_s]
          cases hx : inB (l.getD i 0) 0 ((p.g.bars.length : Int) - 1) with
          | false =>
            have : dmgOk p l = false := by
              unfold dmgOk; rw [List.all_eq_false]; exact ⟨i, by simpa using hi, by rw [hx]; exact Bool.false_ne_true⟩
            rw [this]; rfl
          | true =>
            have hx' := hx
            simp only [inB, Bool.and_eq_true, decide_eq_true_eq] at hx'
            simp (disch := omega) only [Int.toNat_natCast, tk0, List.length_cons, List.length_nil, grd_pos, grd_T, grd_R, cnd_dt, cnd_df, cnd_true, cnd_false, Option.bind_some, Bool.not_true, hbl, succ_cast]
            rw [brk_set l _ i hi hx'.1]
            refine ih (i + 1) (by omega) (by omega) (fun j hj => ?_) k hk
            rcases Nat.lt_or_ge j i with h | h
            · exact h3 j h
            · rw [show j = i by omega]; exact hx
        · obtain rfl : i = l.length := by omega
          simp (disch := omega) only [Int.toNat_natCast, tk0, List.length_cons, List.length_nil, grd_pos, grd_T, grd_R, cnd_dt, cnd_df, cnd_true, cnd_false, Option.bind_some]
          have : dmgOk p l = true := by
            unfold dmgOk; rw [List.all_eq_true]; intro j hj; exact h3 j (by simpa using hj)
          rw [this]
          exact hk _ rfl
    refine key N 0 (by omega) (by omega) (by omega) _ ?_
    rintro c rfl
    rw [copyInts_s N hg, Option.bind_some]
    refine (fold (len := p.g.bars.length) (st := sel (brAt p.g.bars) fun i => !l.contains (i : Int)) (by omega) ?_ ?_)
    · intro n i hi
      have hl' := sel_len (brAt p.g.bars) (fun i => !l.contains (i : Int)) i
      have hbl : (brk l p.g.bars.length l.length).length = p.g.bars.length := by simp [brk]
      rw [I_Damaged_l1]
      simp (disch := omega) only [Int.toNat_natCast, tk0, List.length_cons, List.length_nil, grd_pos, grd_T, grd_R, cnd_dt, cnd_df, cnd_true, cnd_false, Option.bind_some, List.length_replicate, hbl, brk_get l _ i hi, succ_cast, sel_succ]
      cases l.contains (i : Int)
      · simp (disch := omega) only [Int.toNat_natCast, tk0, List.length_cons, List.length_nil, grd_pos, grd_T, grd_R, cnd_dt, cnd_df, cnd_true, cnd_false, Option.bind_some, Bool.not_false]; rfl
      · simp (disch := omega) only [Int.toNat_natCast, tk0, List.length_cons, List.length_nil, grd_pos, grd_T, grd_R, cnd_dt, cnd_df, cnd_true, cnd_false, Option.bind_some, Bool.not_true]
    · intro n
      rw [I_Damaged_l1]
      simp (disch := omega) only [Int.toNat_natCast, tk0, List.length_cons, List.length_nil, grd_pos, grd_T, grd_R, cnd_dt, cnd_df, cnd_true, cnd_false, Option.bind_some]
end Go.Proofs.Ytlmlfbjcpajinaa
