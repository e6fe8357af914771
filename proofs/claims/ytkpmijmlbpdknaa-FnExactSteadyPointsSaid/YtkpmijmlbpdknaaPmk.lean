/- The laws' own marks in plain terms (printed by gen_pmk.py). -/
import Derived.Test.YtkpmijmlbpdknaaPb
import Derived.Test.YtkpmijmlbpdknaaG3
import Derived.Test.YtkpmijmlbpdknaaG19
import Derived.Test.YtkpmijmlbpdknaaG24
import Derived.Test.YtkpmijmlbpdknaaG26
namespace Go.Proofs.Ytkpmijmlbpdknaa
set_option linter.unusedVariables false
set_option linter.unusedSimpArgs false
variable {N : Nat}
theorem grf_eta (g : Grf) : (⟨g.n, g.bars⟩ : Grf) = g := rfl
theorem pin_eta (p : Pin) : (⟨p.g, p.ground⟩ : Pin) = p := rfl
theorem frm_eta (p : Frm) : (⟨p.g, p.places⟩ : Frm) = p := rfl
theorem lnk_eta (p : Lnk) : (⟨p.f, p.ground⟩ : Lnk) = p := rfl
def mkI (k : Int) (m : Nat) : List Int := (List.range m).map fun (i : Nat) => k + (i : Int)
def mkP (k : Int) (m : Nat) : List (Int × Int) := (List.range m).map fun (i : Nat) => (k + 2 * (i : Int), k + 2 * (i : Int) + 1)
theorem mkI_len (k : Int) (m : Nat) : (mkI k m).length = m := by simp [mkI]
theorem mkP_len (k : Int) (m : Nat) : (mkP k m).length = m := by simp [mkP]
theorem mkI_succ (k : Int) (m : Nat) : mkI k (m + 1) = mkI k m ++ [k + (m : Int)] := by simp [mkI, List.range_succ]
theorem mkP_succ (k : Int) (m : Nat) : mkP k (m + 1) = mkP k m ++ [(k + 2 * (m : Int), k + 2 * (m : Int) + 1)] := by simp [mkP, List.range_succ]
theorem set_mid {α : Type} {a b : List α} {x : α} {i : Nat} (h : a.length = i) (hb : 0 < b.length) : (a ++ b).set i x = a ++ [x] ++ b.drop 1 := by
  subst h
  cases b with
  | nil => simp at hb
  | cons y b => simp
theorem getD_mid {α : Type} {a : List α} {x d : α} {b : List α} {i : Nat} (h : a.length = i) : (a ++ [x] ++ b).getD i d = x := by
  subst h; simp

theorem markIntS_l {a : List Int} {k0 : Int} (hk : 0 ≤ k0 ∧ k0 ≤ 100000000) (ha : a.length ≤ 1048576) (k : List Int × Int → Option (Int × List Int)) : ∀ n i : Nat, i ≤ a.length → a.length < n + i → L_markIntS_l1 N a k n (mkI k0 i ++ a.drop i, k0 + (i : Int), (i : Int)) = k (mkI k0 a.length, k0 + (a.length : Int)) := by
  intro n
  induction n with
  | zero => intro i h1 h2; omega
  | succ n ih =>
    intro i h1 h2
    rw [L_markIntS_l1]
    by_cases hi : i < a.length
    · have e1 : ((mkI k0 i ++ a.drop i).set i (k0 + (i : Int))) = mkI k0 (i + 1) ++ a.drop (i + 1) := by
        rw [set_mid (mkI_len k0 i) (by simp; omega), mkI_succ]
        simp
      have e2 : ((mkI k0 i ++ a.drop i).length : Int) = (a.length : Int) := by simp [mkI_len]; omega
      rw [cnd_dt (by omega), grd_pos (by omega), grd_pos (by omega), grd_pos (by unfold Rg64; omega), grd_pos (by unfold Rg64; omega), Int.toNat_natCast, e1, show k0 + (i : Int) + 1 = k0 + ((i + 1 : Nat) : Int) from by omega, show (i : Int) + 1 = ((i + 1 : Nat) : Int) from by omega]
      exact ih (i + 1) (by omega) (by omega)
    · have : i = a.length := by omega
      subst this
      rw [cnd_df (by omega)]
      simp
theorem markIntS_s (hN : 4000000 ≤ N) {a : List Int} {k0 : Int} (hk : 0 ≤ k0 ∧ k0 ≤ 100000000) (ha : a.length ≤ 1048576) : L_markIntS N a k0 = some (k0 + (a.length : Int), mkI k0 a.length) := by
  unfold L_markIntS
  have := markIntS_l (N := N) (a := a) hk ha (fun (x : (List Int) × Int) => match x with | (l, k) => some (k, l)) N 0 (by omega) (by omega)
  simpa [mkI] using this
theorem heldIntS_l {m : Nat} {k0 : Int} (hk : 0 ≤ k0 ∧ k0 ≤ 100000000) (ha : m ≤ 1048576) (k : Int → Option Int) : ∀ n i : Nat, i ≤ m → m < n + i → L_heldIntS_l1 N (mkI k0 m) k n (k0 + (i : Int), (i : Int)) = k (k0 + (m : Int)) := by
  intro n
  induction n with
  | zero => intro i h1 h2; omega
  | succ n ih =>
    intro i h1 h2
    rw [L_heldIntS_l1, mkI_len]
    by_cases hi : i < m
    · have e1 : (mkI k0 m).getD i 0 = k0 + (i : Int) := by simp [mkI, hi]
      rw [cnd_dt (by omega), grd_pos (by omega), Int.toNat_natCast, e1, bne_self_eq_false, cnd_false, grd_pos (by unfold Rg64; omega), grd_pos (by unfold Rg64; omega), show k0 + (i : Int) + 1 = k0 + ((i + 1 : Nat) : Int) from by omega, show (i : Int) + 1 = ((i + 1 : Nat) : Int) from by omega]
      exact ih (i + 1) (by omega) (by omega)
    · have : i = m := by omega
      subst this
      rw [cnd_df (by omega)]
theorem heldIntS_s (hN : 4000000 ≤ N) {m : Nat} {k0 : Int} (hk : 0 ≤ k0 ∧ k0 ≤ 100000000) (ha : m ≤ 1048576) : L_heldIntS N (mkI k0 m) k0 = some (k0 + (m : Int)) := by
  unfold L_heldIntS
  have := heldIntS_l (N := N) hk ha (fun k => some k) N 0 (by omega) (by omega)
  simpa using this

theorem markBarS_l {a : List (Int × Int)} {k0 : Int} (hk : 0 ≤ k0 ∧ k0 ≤ 100000000) (ha : a.length ≤ 1048576) (k : List (Int × Int) × Int → Option (Int × List (Int × Int))) : ∀ n i : Nat, i ≤ a.length → a.length < n + i → L_markBarS_l1 N a k n (mkP k0 i ++ a.drop i, k0 + 2 * (i : Int), (i : Int)) = k (mkP k0 a.length, k0 + 2 * (a.length : Int)) := by
  intro n
  induction n with
  | zero => intro i h1 h2; omega
  | succ n ih =>
    intro i h1 h2
    rw [L_markBarS_l1]
    by_cases hi : i < a.length
    · have e2 : ((mkP k0 i ++ a.drop i).length : Int) = (a.length : Int) := by simp [mkP_len]; omega
      rw [cnd_dt (by omega), grd_pos (by omega), grd_pos (by omega), grd_pos (by unfold Rg64; omega), grd_pos (by rw [List.length_set]; omega), grd_pos (by unfold Rg64; omega), grd_pos (by unfold Rg64; omega), Int.toNat_natCast]
      rw [set_mid (mkP_len k0 i) (by simp; omega), getD_mid (mkP_len k0 i), List.append_assoc, set_mid (mkP_len k0 i) (by simp)]
      have e1 : mkP k0 i ++ [(k0 + 2 * (i : Int), k0 + 2 * (i : Int) + 1)] ++ List.drop 1 ([(k0 + 2 * (i : Int), ((mkP k0 i ++ a.drop i).getD i (0, 0)).2)] ++ List.drop 1 (a.drop i)) = mkP k0 (i + 1) ++ a.drop (i + 1) := by
        rw [mkP_succ]; simp
      rw [e1, show k0 + 2 * (i : Int) + 1 + 1 = k0 + 2 * ((i + 1 : Nat) : Int) from by omega, show (i : Int) + 1 = ((i + 1 : Nat) : Int) from by omega]
      exact ih (i + 1) (by omega) (by omega)
    · have : i = a.length := by omega
      subst this
      rw [cnd_df (by omega)]
      simp
theorem markBarS_s (hN : 4000000 ≤ N) {a : List (Int × Int)} {k0 : Int} (hk : 0 ≤ k0 ∧ k0 ≤ 100000000) (ha : a.length ≤ 1048576) : L_markBarS N a k0 = some (k0 + 2 * (a.length : Int), mkP k0 a.length) := by
  unfold L_markBarS
  have := markBarS_l (N := N) (a := a) hk ha (fun (x : (List (Int × Int)) × Int) => match x with | (l, k) => some (k, l)) N 0 (by omega) (by omega)
  simpa [mkP] using this
theorem heldBarS_l {m : Nat} {k0 : Int} (hk : 0 ≤ k0 ∧ k0 ≤ 100000000) (ha : m ≤ 1048576) (k : Int → Option Int) : ∀ n i : Nat, i ≤ m → m < n + i → L_heldBarS_l1 N (mkP k0 m) k n (k0 + 2 * (i : Int), (i : Int)) = k (k0 + 2 * (m : Int)) := by
  intro n
  induction n with
  | zero => intro i h1 h2; omega
  | succ n ih =>
    intro i h1 h2
    rw [L_heldBarS_l1, mkP_len]
    by_cases hi : i < m
    · have e1 : (mkP k0 m).getD i (0, 0) = (k0 + 2 * (i : Int), k0 + 2 * (i : Int) + 1) := by simp [mkP, hi]
      rw [cnd_dt (by omega), grd_pos (by omega), Int.toNat_natCast, e1]
      simp only [bne_self_eq_false, cnd_false]
      rw [grd_pos (by unfold Rg64; omega), grd_pos (by unfold Rg64; omega), grd_pos (by unfold Rg64; omega), show k0 + 2 * (i : Int) + 1 + 1 = k0 + 2 * ((i + 1 : Nat) : Int) from by omega, show (i : Int) + 1 = ((i + 1 : Nat) : Int) from by omega]
      exact ih (i + 1) (by omega) (by omega)
    · have : i = m := by omega
      subst this
      rw [cnd_df (by omega)]
theorem heldBarS_s (hN : 4000000 ≤ N) {m : Nat} {k0 : Int} (hk : 0 ≤ k0 ∧ k0 ≤ 100000000) (ha : m ≤ 1048576) : L_heldBarS N (mkP k0 m) k0 = some (k0 + 2 * (m : Int)) := by
  unfold L_heldBarS
  have := heldBarS_l (N := N) hk ha (fun k => some k) N 0 (by omega) (by omega)
  simpa using this


theorem markGraph_s (hN : 4000000 ≤ N) {a : Grf} {k0 : Int} (hk : 0 ≤ k0 ∧ k0 ≤ 50000000) (ha : lnGraph a ≤ 1048576) : L_markGraph N a k0 = some (k0 + 2 * (a.bars.length : Int), mkP k0 a.bars.length) := by
  unfold L_markGraph
  rw [markBarS_s hN (by omega) ha]; rfl
theorem heldGraph_s (hN : 4000000 ≤ N) {n : Int} {m : Nat} {k0 : Int} (hk : 0 ≤ k0 ∧ k0 ≤ 50000000) (ha : m ≤ 1048576) : L_heldGraph N ⟨n, mkP k0 m⟩ k0 = some (k0 + 2 * (m : Int)) := by
  unfold L_heldGraph
  rw [heldBarS_s hN (by omega) ha, Option.bind_some, cnd_df (by omega)]
theorem markPinned_s (hN : 4000000 ≤ N) {a : Pin} {k0 : Int} (hk : 0 ≤ k0 ∧ k0 ≤ 20000000) (ha : lnPinned a ≤ 1048576) : L_markPinned N a k0 = some (k0 + 2 * (a.g.bars.length : Int) + (a.ground.length : Int), mkP k0 a.g.bars.length, mkI (k0 + 2 * (a.g.bars.length : Int)) a.ground.length) := by
  simp only [lnPinned, lnGraph] at ha
  unfold L_markPinned
  rw [markGraph_s hN (by omega) (by simp only [lnGraph]; omega), Option.bind_some, markIntS_s hN (by simp only []; omega) (by omega)]; rfl
theorem heldPinned_s (hN : 4000000 ≤ N) {n : Int} {m l : Nat} {k0 : Int} (hk : 0 ≤ k0 ∧ k0 ≤ 20000000) (ha : m ≤ 1048576) (hl : l ≤ 1048576) : L_heldPinned N ⟨⟨n, mkP k0 m⟩, mkI (k0 + 2 * (m : Int)) l⟩ k0 = some (k0 + 2 * (m : Int) + (l : Int)) := by
  unfold L_heldPinned
  rw [heldGraph_s hN (by omega) ha, Option.bind_some, cnd_df (by omega), heldIntS_s hN (by omega) hl, Option.bind_some, cnd_df (by omega)]

end Go.Proofs.Ytkpmijmlbpdknaa
