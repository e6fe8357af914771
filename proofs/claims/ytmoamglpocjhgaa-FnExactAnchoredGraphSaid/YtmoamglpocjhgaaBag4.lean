/- Texts that the proof needs, put together: Pmk Pm Pc G32 G31 G33 G34 G30 G35 Pp Pd Pq Pr Pe G17 Pf Pw Ph M7 Sm SoB G38 G56 M8 M9 M10 M11 M12 M13 M14 G71 G72 G73 G75 G99 G101 Qo G100. -/
import Derived.Sort.Grow
import Derived.WalkKit
import Derived.Shelf.SlSortCmp.NoneTotal
import Derived.Ground.SlsfProg
import Derived.Test.YtmoamglpocjhgaaBag3
set_option linter.unusedVariables false
set_option linter.unusedSimpArgs false
namespace Go.Proofs.Ytmoamglpocjhgaa
variable {N : Nat}
theorem grf_eta (g : Grf) : (⟨g.n, g.bars⟩ : Grf) = g := rfl
theorem pin_eta (p : Pin) : (⟨p.g, p.ground⟩ : Pin) = p := rfl
theorem frm_eta (p : Frm) : (⟨p.g, p.places⟩ : Frm) = p := rfl
theorem lnk_eta (p : Lnk) : (⟨p.f, p.ground⟩ : Lnk) = p := rfl
def mkI (k : Int) (m : Nat) : List Int := (List.range m).map fun (i : Nat) => k + (i : Int)
def mkP (k : Int) (m : Nat) : List (Int × Int) := (List.range m).map fun (i : Nat) => (k + 2 * (i : Int), k + 2 * (i : Int) + 1)
theorem mkI_len (k : Int) (m : Nat) : (mkI k m).length = m := by simp [mkI]
theorem mkP_len (k : Int) (m : Nat) : (mkP k m).length = m := by simp [mkP]
theorem mkI_succ (k : Int) (m : Nat) : mkI k (m + 1) = mkI k m ++ [k + (m : Int)] := by simp [mkI, List.range_succ]
theorem mkP_succ (k : Int) (m : Nat) : mkP k (m + 1) = mkP k m ++ [(k + 2 * (m : Int), k + 2 * (m : Int) + 1)] := by simp [mkP, List.range_succ]
theorem set_mid {α : Type} {a b : List α} {x : α} {i : Nat} (h : a.length = i) (hb : 0 < b.length) : (a ++ b).set i x = a ++ [x] ++ b.drop 1 := by
 subst h
 cases b with
 | nil => simp at hb
 | cons y b => simp
theorem getD_mid {α : Type} {a : List α} {x d : α} {b : List α} {i : Nat} (h : a.length = i) : (a ++ [x] ++ b).getD i d = x := by
 subst h; simp
theorem markIntS_l {a : List Int} {k0 : Int} (hk : 0 ≤ k0 ∧ k0 ≤ 100000000) (ha : a.length ≤ 1048576) (k : List Int × Int → Option (Int × List Int)) : ∀ n i : Nat, i ≤ a.length → a.length < n + i → L_markIntS_l1 N a k n (mkI k0 i ++ a.drop i, k0 + (i : Int), (i : Int)) = k (mkI k0 a.length, k0 + (a.length : Int)) := by
 intro n
 induction n with
 | zero => intro i h1 h2; omega
 | succ n ih =>
  intro i h1 h2
  rw [L_markIntS_l1]
  by_cases hi : i < a.length
  ·have e1 : ((mkI k0 i ++ a.drop i).set i (k0 + (i : Int))) = mkI k0 (i + 1) ++ a.drop (i + 1) := by
    rw [set_mid (mkI_len k0 i) (by simp; omega), mkI_succ]
    simp
   have e2 : ((mkI k0 i ++ a.drop i).length : Int) = (a.length : Int) := by simp [mkI_len]; omega
   rw [cnd_dt (by omega), grd_pos (by omega), grd_pos (by omega), grd_pos (by unfold Rg64; omega), grd_pos (by unfold Rg64; omega), Int.toNat_natCast, e1, show k0 + (i : Int) + 1 = k0 + ((i + 1 : Nat) : Int) from by omega, show (i : Int) + 1 = ((i + 1 : Nat) : Int) from by omega]
   exact ih (i + 1) (by omega) (by omega)
  ·have : i = a.length := by omega
   subst this
   rw [cnd_df (by omega)]
   simp
theorem markIntS_s (hN : 4000000 ≤ N) {a : List Int} {k0 : Int} (hk : 0 ≤ k0 ∧ k0 ≤ 100000000) (ha : a.length ≤ 1048576) : L_markIntS N a k0 = some (k0 + (a.length : Int), mkI k0 a.length) := by
 unfold L_markIntS
 have := markIntS_l (N := N) (a := a) hk ha (fun (x : (List Int) × Int) => match x with | (l, k) => some (k, l)) N 0 (by omega) (by omega)
 simpa [mkI] using this
theorem heldIntS_l {m : Nat} {k0 : Int} (hk : 0 ≤ k0 ∧ k0 ≤ 100000000) (ha : m ≤ 1048576) (k : Int → Option Int) : ∀ n i : Nat, i ≤ m → m < n + i → L_heldIntS_l1 N (mkI k0 m) k n (k0 + (i : Int), (i : Int)) = k (k0 + (m : Int)) := by
 intro n
 induction n with
 | zero => intro i h1 h2; omega
 | succ n ih =>
  intro i h1 h2
  rw [L_heldIntS_l1, mkI_len]
  by_cases hi : i < m
  ·have e1 : (mkI k0 m).getD i 0 = k0 + (i : Int) := by simp [mkI, hi]
   rw [cnd_dt (by omega), grd_pos (by omega), Int.toNat_natCast, e1, bne_self_eq_false, cnd_false, grd_pos (by unfold Rg64; omega), grd_pos (by unfold Rg64; omega), show k0 + (i : Int) + 1 = k0 + ((i + 1 : Nat) : Int) from by omega, show (i : Int) + 1 = ((i + 1 : Nat) : Int) from by omega]
   exact ih (i + 1) (by omega) (by omega)
  ·have : i = m := by omega
   subst this
   rw [cnd_df (by omega)]
theorem heldIntS_s (hN : 4000000 ≤ N) {m : Nat} {k0 : Int} (hk : 0 ≤ k0 ∧ k0 ≤ 100000000) (ha : m ≤ 1048576) : L_heldIntS N (mkI k0 m) k0 = some (k0 + (m : Int)) := by
 unfold L_heldIntS
 have := heldIntS_l (N := N) hk ha (fun k => some k) N 0 (by omega) (by omega)
 simpa using this
theorem markBarS_l {a : List (Int × Int)} {k0 : Int} (hk : 0 ≤ k0 ∧ k0 ≤ 100000000) (ha : a.length ≤ 1048576) (k : List (Int × Int) × Int → Option (Int × List (Int × Int))) : ∀ n i : Nat, i ≤ a.length → a.length < n + i → L_markBarS_l1 N a k n (mkP k0 i ++ a.drop i, k0 + 2 * (i : Int), (i : Int)) = k (mkP k0 a.length, k0 + 2 * (a.length : Int)) := by
 intro n
 induction n with
 | zero => intro i h1 h2; omega
 | succ n ih =>
  intro i h1 h2
  rw [L_markBarS_l1]
  by_cases hi : i < a.length
  ·have e2 : ((mkP k0 i ++ a.drop i).length : Int) = (a.length : Int) := by simp [mkP_len]; omega
   rw [cnd_dt (by omega), grd_pos (by omega), grd_pos (by omega), grd_pos (by unfold Rg64; omega), grd_pos (by rw [List.length_set]; omega), grd_pos (by unfold Rg64; omega), grd_pos (by unfold Rg64; omega), Int.toNat_natCast]
   rw [set_mid (mkP_len k0 i) (by simp; omega), getD_mid (mkP_len k0 i), List.append_assoc, set_mid (mkP_len k0 i) (by simp)]
   have e1 : mkP k0 i ++ [(k0 + 2 * (i : Int), k0 + 2 * (i : Int) + 1)] ++ List.drop 1 ([(k0 + 2 * (i : Int), ((mkP k0 i ++ a.drop i).getD i (0, 0)).2)] ++ List.drop 1 (a.drop i)) = mkP k0 (i + 1) ++ a.drop (i + 1) := by
    rw [mkP_succ]; simp
   rw [e1, show k0 + 2 * (i : Int) + 1 + 1 = k0 + 2 * ((i + 1 : Nat) : Int) from by omega, show (i : Int) + 1 = ((i + 1 : Nat) : Int) from by omega]
   exact ih (i + 1) (by omega) (by omega)
  ·have : i = a.length := by omega
   subst this
   rw [cnd_df (by omega)]
   simp
theorem markBarS_s (hN : 4000000 ≤ N) {a : List (Int × Int)} {k0 : Int} (hk : 0 ≤ k0 ∧ k0 ≤ 100000000) (ha : a.length ≤ 1048576) : L_markBarS N a k0 = some (k0 + 2 * (a.length : Int), mkP k0 a.length) := by
 unfold L_markBarS
 have := markBarS_l (N := N) (a := a) hk ha (fun (x : (List (Int × Int)) × Int) => match x with | (l, k) => some (k, l)) N 0 (by omega) (by omega)
 simpa [mkP] using this
theorem heldBarS_l {m : Nat} {k0 : Int} (hk : 0 ≤ k0 ∧ k0 ≤ 100000000) (ha : m ≤ 1048576) (k : Int → Option Int) : ∀ n i : Nat, i ≤ m → m < n + i → L_heldBarS_l1 N (mkP k0 m) k n (k0 + 2 * (i : Int), (i : Int)) = k (k0 + 2 * (m : Int)) := by
 intro n
 induction n with
 | zero => intro i h1 h2; omega
 | succ n ih =>
  intro i h1 h2
  rw [L_heldBarS_l1, mkP_len]
  by_cases hi : i < m
  ·have e1 : (mkP k0 m).getD i (0, 0) = (k0 + 2 * (i : Int), k0 + 2 * (i : Int) + 1) := by simp [mkP, hi]
   rw [cnd_dt (by omega), grd_pos (by omega), Int.toNat_natCast, e1]
   simp only [bne_self_eq_false, cnd_false]
   rw [grd_pos (by unfold Rg64; omega), grd_pos (by unfold Rg64; omega), grd_pos (by unfold Rg64; omega), show k0 + 2 * (i : Int) + 1 + 1 = k0 + 2 * ((i + 1 : Nat) : Int) from by omega, show (i : Int) + 1 = ((i + 1 : Nat) : Int) from by omega]
   exact ih (i + 1) (by omega) (by omega)
  ·have : i = m := by omega
   subst this
   rw [cnd_df (by omega)]
theorem heldBarS_s (hN : 4000000 ≤ N) {m : Nat} {k0 : Int} (hk : 0 ≤ k0 ∧ k0 ≤ 100000000) (ha : m ≤ 1048576) : L_heldBarS N (mkP k0 m) k0 = some (k0 + 2 * (m : Int)) := by
 unfold L_heldBarS
 have := heldBarS_l (N := N) hk ha (fun k => some k) N 0 (by omega) (by omega)
 simpa using this
theorem markGraph_s (hN : 4000000 ≤ N) {a : Grf} {k0 : Int} (hk : 0 ≤ k0 ∧ k0 ≤ 50000000) (ha : lnGraph a ≤ 1048576) : L_markGraph N a k0 = some (k0 + 2 * (a.bars.length : Int), mkP k0 a.bars.length) := by
 unfold L_markGraph
 rw [markBarS_s hN (by omega) ha]; rfl
theorem heldGraph_s (hN : 4000000 ≤ N) {n : Int} {m : Nat} {k0 : Int} (hk : 0 ≤ k0 ∧ k0 ≤ 50000000) (ha : m ≤ 1048576) : L_heldGraph N ⟨n, mkP k0 m⟩ k0 = some (k0 + 2 * (m : Int)) := by
 unfold L_heldGraph
 rw [heldBarS_s hN (by omega) ha, Option.bind_some, cnd_df (by omega)]
end Go.Proofs.Ytmoamglpocjhgaa
namespace Go.Proofs.Ytmoamglpocjhgaa
abbrev VS := Int → Bool
def Bok (n : Nat) (e : Int × Int) : Prop := 0 ≤ e.1 ∧ e.1 < n ∧ 0 ≤ e.2 ∧ e.2 < n ∧ e.1 ≠ e.2
def v2 (a b : Int) : VS := fun v => v == a || v == b
end Go.Proofs.Ytmoamglpocjhgaa
namespace Go.Proofs.Ytmoamglpocjhgaa
def oth (e : Int × Int) (v : Int) : Int := e.1 + e.2 - v
structure PInv (n : Nat) (E : List (Int × Int)) (f T : List Int) : Prop where
 fl : f.length = n
 tl : T.length = E.length
 ok : ∀ e ∈ E, Bok n e
 en : ∀ i, i < E.length → T.getD i 0 = (E.getD i (0, 0)).1 ∨ T.getD i 0 = (E.getD i (0, 0)).2
 nn : ∀ v : Nat, v < n → 0 ≤ f.getD v 0
 sm : ∀ v : Nat, v < n → f.getD v 0 + (T.count (v : Int) : Int) = 2
variable {n : Nat} {E : List (Int × Int)} {f T : List Int}
end Go.Proofs.Ytmoamglpocjhgaa
namespace Go.Proofs.Ytmoamglpocjhgaa
variable {n : Nat} {E : List (Int × Int)} {f T : List Int} {a b : Int} {q : List Int} {fr : Int → Int} {k m : Nat}
end Go.Proofs.Ytmoamglpocjhgaa
namespace Go.Proofs.Ytmoamglpocjhgaa
variable {R σ : Type}
theorem srchA {F : Nat → Int → Option R} {len : Nat} {ok : Nat → Bool} {bad fin : Option R}
  (hs : ∀ n i : Nat, i < len → (∀ j, j < i → ok j = true) → F (n + 1) (i : Int) = cnd (ok i) (F n ((i + 1 : Nat) : Int)) bad) (hf : ∀ n : Nat, (∀ j, j < len → ok j = true) → F (n + 1) (len : Int) = fin) :
  ∀ n i : Nat, i ≤ len → len < n + i → (∀ j, j < i → ok j = true) → F n (i : Int) = cnd ((List.range len).all ok) fin bad := by
 intro n
 induction n with
 | zero => intro i h1 h2; omega
 | succ n ih =>
  intro i h1 h2 h3
  by_cases hi : i < len
  ·rw [hs n i hi h3]
   cases ho : ok i with
   | true =>
    exact ih (i + 1) (by omega) (by omega) fun j hj => by
     rcases Nat.lt_or_ge j i with h | h
     ·exact h3 j h
     ·rw [show j = i by omega]; exact ho
   | false =>
    have : (List.range len).all ok = false := by
     rw [List.all_eq_false]; exact ⟨i, by simpa using hi, by simp [ho]⟩
    rw [this]; rfl
  ·obtain rfl : i = len := by omega
   rw [hf n h3]
   have : (List.range i).all ok = true := by
    rw [List.all_eq_true]; intro j hj; exact h3 j (by simpa using hj)
   rw [this]; rfl
theorem srch {F : Nat → Int → Option R} {N len : Nat} {ok : Nat → Bool} {bad fin : Option R} (hN : len < N)
  (hs : ∀ n i : Nat, i < len → (∀ j, j < i → ok j = true) → F (n + 1) (i : Int) = cnd (ok i) (F n ((i + 1 : Nat) : Int)) bad) (hf : ∀ n : Nat, (∀ j, j < len → ok j = true) → F (n + 1) (len : Int) = fin) :
  F N (0 : Int) = cnd ((List.range len).all ok) fin bad :=
 srchA hs hf N 0 (by omega) (by omega) (by omega)
theorem srch1 {F : Nat → Int → Option R} {N len : Nat} {ok : Nat → Bool} {bad fin : Option R} (hN : len + 1 < N) (h0 : ok 0 = true)
  (hs : ∀ n i : Nat, 0 < i → i < len → F (n + 1) (i : Int) = cnd (ok i) (F n ((i + 1 : Nat) : Int)) bad) (hf : ∀ n i : Nat, len ≤ i → F (n + 1) (i : Int) = fin) :
  F N (1 : Int) = cnd ((List.range len).all ok) fin bad := by
 have key : ∀ n i : Nat, 0 < i → i ≤ len + 1 → len + 1 < n + i → (∀ j, j < i → j < len → ok j = true) → F n (i : Int) = cnd ((List.range len).all ok) fin bad := by
  intro n
  induction n with
  | zero => intro i h1 h2 h3 h4; omega
  | succ n ih =>
   intro i h1 h4 h2 h3
   by_cases hi : i < len
   ·rw [hs n i h1 hi]
    cases ho : ok i with
    | true =>
     exact ih (i + 1) (by omega) (by omega) (by omega) fun j hj hl => by
      rcases Nat.lt_or_ge j i with h | h
      ·exact h3 j h hl
      ·rw [show j = i by omega]; exact ho
    | false =>
     have : (List.range len).all ok = false := by
      rw [List.all_eq_false]; exact ⟨i, by simpa using hi, by simp [ho]⟩
     rw [this]; rfl
   ·rw [hf n i (by omega)]
    have : (List.range len).all ok = true := by
     rw [List.all_eq_true]; intro j hj; exact h3 j (by have := List.mem_range.1 hj; omega) (by simpa using hj)
    rw [this]; rfl
 exact key N 1 (by omega) (by omega) (by omega) fun j hj _ => by rw [show j = 0 by omega]; exact h0
theorem foldA {F : Nat → σ × Int → Option R} {len : Nat} {st : Nat → σ} {fin : Option R} (hs : ∀ n i : Nat, i < len → F (n + 1) (st i, (i : Int)) = F n (st (i + 1), ((i + 1 : Nat) : Int))) (hf : ∀ n : Nat, F (n + 1) (st len, (len : Int)) = fin) :
  ∀ n i : Nat, i ≤ len → len < n + i → F n (st i, (i : Int)) = fin := by
 intro n
 induction n with
 | zero => intro i h1 h2; omega
 | succ n ih =>
  intro i h1 h2
  by_cases hi : i < len
  ·rw [hs n i hi]; exact ih (i + 1) (by omega) (by omega)
  ·obtain rfl : i = len := by omega
   exact hf n
theorem fold {F : Nat → σ × Int → Option R} {N len : Nat} {st : Nat → σ} {fin : Option R} (hN : len < N) (hs : ∀ n i : Nat, i < len → F (n + 1) (st i, (i : Int)) = F n (st (i + 1), ((i + 1 : Nat) : Int))) (hf : ∀ n : Nat, F (n + 1) (st len, (len : Int)) = fin) :
  F N (st 0, (0 : Int)) = fin := foldA hs hf N 0 (by omega) (by omega)
theorem cnd_congr {α : Type} {a b : Bool} (h : a = b) (x y : α) : cnd a x y = cnd b x y := by rw [h]
theorem cnd_congr' {α : Type} {a b : Bool} (h : a = !b) (x y : α) : cnd a x y = cnd b y x := by subst h; cases b <;> rfl
theorem succ_cast (i : Nat) : ((i : Int) + 1) = ((i + 1 : Nat) : Int) := rfl
end Go.Proofs.Ytmoamglpocjhgaa
namespace Go.Proofs.Ytmoamglpocjhgaa
open Go.RowKit
def S_l2Copy (N : Nat) (g_0 : Grf) : Option (Grf) :=
 grd (g_0.bars.length ≤ 4294967296) <|
 some (⟨g_0.n, (([] : List (Int × Int)) ++ g_0.bars)⟩ : Grf)
set_option maxRecDepth 20000 in
set_option maxHeartbeats 1600000 in
theorem S_l2Copy_w (N : Nat) (g_0 : Grf) (r : Grf) (h : S_l2Copy N g_0 = some r) : PCall Try.prog 71 [gD g_0] [(97, .pairs r.bars)] (.agg [.int r.n, .row 0 0 r.bars.length]) := by
 unfold S_l2Copy at h
 refine pcall_intro (TT := TT) tt Try.func71 rfl rfl Try.ntmps71 (congrArg Array.toList Try.results71) rfl rfl fun w0 => ?_
 refine vSeq ?_
 refine vRegion ?_
 refine oBox rfl rfl rfl rfl rfl rfl rfl rfl rfl ?_
 refine oAlloc tt rfl rfl rfl rfl rfl rfl rfl rfl rfl ?_
 refine vNil ?_
 change VC _ _ _ _
 refine vSeq ?_
 refine vRegionN 6 [5] [0, 1, 0, 0, 8, 28, 63, 127] (by kernel_rfl) (by kernel_rfl) (by kernel_rfl) (by kernel_rfl) (by kernel_rfl) rfl (by rfl) ?_
 iterate 2 refine nVal tt rfl (wNone rfl) rfl rfl rfl rfl rfl trivial ?_
 refine nEmpty tt (wNone rfl) rfl rfl rfl rfl rfl ?_
 iterate 2 refine nVal tt rfl (wNone rfl) rfl rfl rfl rfl rfl trivial ?_
 obtain ⟨hg1, h⟩ := grd_inv h
 refine nAppNil tt (wNone rfl) rfl rfl rfl rfl rfl rfl rfl rfl (fun _ => rfl) rfl rfl rfl rfl rfl rfl hg1 ?_
 refine nNil ?_
 change VO _ _ _ _ _
 refine oPure (wNone rfl) (pBuild bld_impl_Graph rfl rfl) rfl rfl ?_
 refine oStore tt rfl rfl rfl rfl rfl rfl rfl rfl rfl rfl rfl ⟨trivial, trivial, trivial⟩ ?_
 refine vNil ?_
 change VC _ _ _ _
 refine vRet ?_
 change ∃ _, _
 cases h
 exact ⟨[8], _, rfl, ⟨rfl, trivial⟩, rfl, (.eq rfl), rfl⟩
def I_copyGraph (N : Nat) (g_0 : Grf) : Option (Grf) :=
 grd (g_0.bars.length ≤ 4294967296) <|
 some (⟨g_0.n, (([] : List (Int × Int)) ++ g_0.bars)⟩ : Grf)
set_option maxRecDepth 20000 in
set_option maxHeartbeats 1600000 in
theorem I_copyGraph_w (N : Nat) (g_0 : Grf) (r : Grf) (h : I_copyGraph N g_0 = some r) : PCall Try.prog 76 [gD g_0] [(97, .pairs r.bars)] (.agg [.int r.n, .row 0 0 r.bars.length]) := by
 unfold I_copyGraph at h
 refine pcall_intro (TT := TT) tt Try.func76 rfl rfl Try.ntmps76 (congrArg Array.toList Try.results76) rfl rfl fun w0 => ?_
 refine vSeq ?_
 refine vRegion ?_
 refine oBox rfl rfl rfl rfl rfl rfl rfl rfl rfl ?_
 refine oAlloc tt rfl rfl rfl rfl rfl rfl rfl rfl rfl ?_
 refine vNil ?_
 change VC _ _ _ _
 refine vSeq ?_
 refine vRegionN 6 [5] [0, 1, 0, 0, 8, 28, 63, 127] (by kernel_rfl) (by kernel_rfl) (by kernel_rfl) (by kernel_rfl) (by kernel_rfl) rfl (by rfl) ?_
 iterate 2 refine nVal tt rfl (wNone rfl) rfl rfl rfl rfl rfl trivial ?_
 refine nEmpty tt (wNone rfl) rfl rfl rfl rfl rfl ?_
 iterate 2 refine nVal tt rfl (wNone rfl) rfl rfl rfl rfl rfl trivial ?_
 obtain ⟨hg1, h⟩ := grd_inv h
 refine nAppNil tt (wNone rfl) rfl rfl rfl rfl rfl rfl rfl rfl (fun _ => rfl) rfl rfl rfl rfl rfl rfl hg1 ?_
 refine nNil ?_
 change VO _ _ _ _ _
 refine oPure (wNone rfl) (pBuild bld_impl_Graph rfl rfl) rfl rfl ?_
 refine oStore tt rfl rfl rfl rfl rfl rfl rfl rfl rfl rfl rfl ⟨trivial, trivial, trivial⟩ ?_
 refine vNil ?_
 change VC _ _ _ _
 refine vRet ?_
 change ∃ _, _
 cases h
 exact ⟨[8], _, rfl, ⟨rfl, trivial⟩, rfl, (.eq rfl), rfl⟩
end Go.Proofs.Ytmoamglpocjhgaa
namespace Go.Proofs.Ytmoamglpocjhgaa
open Go.RowKit
end Go.Proofs.Ytmoamglpocjhgaa
namespace Go.Proofs.Ytmoamglpocjhgaa
open Go.RowKit
end Go.Proofs.Ytmoamglpocjhgaa
namespace Go.Proofs.Ytmoamglpocjhgaa
open Go.RowKit
end Go.Proofs.Ytmoamglpocjhgaa
namespace Go.Proofs.Ytmoamglpocjhgaa
open Go.RowKit
def S_l2Put_l1 (N : Nat) (g_0 : Grf) (x_1 : Int × Int) (k : ((List (Int × Int)) × Bool) → Option (Grf)) : Nat → ((List (Int × Int)) × Bool × Int) → Option (Grf)
 | 0, _ => none
 | n + 1, (l17, placed18, i19) =>
  cnd (decide (i19 < (g_0.bars.length : Int))) (
   cnd (!placed18) (
    grd (0 ≤ i19 ∧ i19 < (g_0.bars.length : Int)) <|
    (S_l2After N (g_0.bars.getD ((i19).toNat) (0, 0)) x_1).bind fun v21 =>
    cnd (!v21) (
     grd (l17.length + 1 ≤ 4294967296) <|
     grd ((l17 ++ ([(x_1.1, x_1.2)] : List (Int × Int))).length + 1 ≤ 4294967296) <|
     grd (Rg64 (i19 + (1 : Int))) <|
     S_l2Put_l1 N g_0 x_1 k n (((l17 ++ ([(x_1.1, x_1.2)] : List (Int × Int))) ++ ([((g_0.bars.getD ((i19).toNat) (0, 0)).1, (g_0.bars.getD ((i19).toNat) (0, 0)).2)] : List (Int × Int))), true, (i19 + (1 : Int)))) (
     grd (l17.length + 1 ≤ 4294967296) <|
     grd (Rg64 (i19 + (1 : Int))) <|
     S_l2Put_l1 N g_0 x_1 k n ((l17 ++ ([((g_0.bars.getD ((i19).toNat) (0, 0)).1, (g_0.bars.getD ((i19).toNat) (0, 0)).2)] : List (Int × Int))), placed18, (i19 + (1 : Int))))) (
    grd (0 ≤ i19 ∧ i19 < (g_0.bars.length : Int)) <|
    grd (l17.length + 1 ≤ 4294967296) <|
    grd (Rg64 (i19 + (1 : Int))) <|
    S_l2Put_l1 N g_0 x_1 k n ((l17 ++ ([((g_0.bars.getD ((i19).toNat) (0, 0)).1, (g_0.bars.getD ((i19).toNat) (0, 0)).2)] : List (Int × Int))), placed18, (i19 + (1 : Int))))) (
   k (l17, placed18))
def S_l2Put (N : Nat) (g_0 : Grf) (x_1 : Int × Int) : Option (Grf) :=
 S_l2Put_l1 N g_0 x_1 (fun (x : (List (Int × Int)) × Bool) =>
   match x with
   | (l10, placed11) =>
    cnd (!placed11) (
     grd (l10.length + 1 ≤ 4294967296) <|
     some (⟨g_0.n, (l10 ++ ([(x_1.1, x_1.2)] : List (Int × Int)))⟩ : Grf)) (
     some (⟨g_0.n, l10⟩ : Grf))) N (([] : List (Int × Int)), false, (0 : Int))
set_option maxRecDepth 20000 in
set_option maxHeartbeats 1600000 in
theorem S_l2Put_w (N : Nat) (g_0 : Grf) (x_1 : Int × Int) (r : Grf) (h : S_l2Put N g_0 x_1 = some r) : PCall Try.prog 74 [gD g_0, .agg [.int x_1.1, .int x_1.2]] [(97, .pairs r.bars)] (.agg [.int r.n, .row 0 0 r.bars.length]) := by
 unfold S_l2Put at h
 refine pcall_intro (TT := TT) tt Try.func74 rfl rfl Try.ntmps74 (congrArg Array.toList Try.results74) rfl rfl fun w0 => ?_
 refine vSeq ?_
 refine vRegion ?_
 iterate 2 refine oBox rfl rfl rfl rfl rfl rfl rfl rfl rfl ?_
 refine oAlloc tt rfl rfl rfl rfl rfl rfl rfl rfl rfl ?_
 refine vNil ?_
 change VC _ _ _ _
 refine vSeq ?_
 refine vRegion ?_
 iterate 2 refine oVal tt rfl rfl rfl rfl rfl trivial ?_
 refine oEmpty tt (wNone rfl) rfl rfl rfl rfl ?_
 refine oPure (wNone rfl) (pBuild bld_impl_Graph rfl rfl) rfl rfl ?_
 refine oAlloc tt rfl rfl rfl rfl rfl rfl rfl rfl rfl ?_
 refine oStore tt rfl rfl rfl rfl rfl rfl rfl rfl rfl rfl rfl ⟨trivial, trivial, trivial⟩ ?_
 refine vNil ?_
 change VC _ _ _ _
 refine vSeq ?_
 refine vRegion ?_
 refine oVal tt rfl rfl rfl rfl rfl trivial ?_
 refine vNil ?_
 change VC _ _ _ _
 iterate 2 refine vSeq ?_
 refine vRegion ?_
 refine oVal tt rfl rfl rfl rfl rfl trivial ?_
 refine vNil ?_
 change VC _ _ _ _
 refine vJoin (F := fun k => S_l2Put_l1 N g_0 x_1 k) h (α := (List (Int × Int)) × Bool) (J := fun | (l10, placed11) => (⟨[(3, .ptr 3 0), (4, .ptr 4 0), (5, .ptr 5 0), (6, .bool placed11)], [(35, some (97, .pairs l10))], [(3, some [.int x_1.1, .int x_1.2]), (4, some [.int (0 : Int), .nil]), (5, some [.int g_0.n, .row 35 0 l10.length])]⟩ : PS)) ?_ ?_
 ·rintro ⟨l10, placed11⟩ h
  show VC _ _ _ (⟨[(3, .ptr 3 0), (4, .ptr 4 0), (5, .ptr 5 0), (6, .bool placed11)], [(35, some (97, .pairs l10))], [(3, some [.int x_1.1, .int x_1.2]), (4, some [.int (0 : Int), .nil]), (5, some [.int g_0.n, .row 35 0 l10.length])]⟩ : PS)
  iterate 2 refine vSeq ?_
  refine vRegion ?_
  iterate 2 refine oVal tt rfl rfl rfl rfl rfl trivial ?_
  refine vNil ?_
  change VC _ _ _ _
  refine vCond rfl (fun hb1 => ?_) (fun hb1 => ?_)
  ·replace h := cnd_t hb1 h
   refine vRegion ?_
   iterate 3 refine oVal tt rfl rfl rfl rfl rfl trivial ?_
   refine oBuild tt rfl rfl rfl rfl rfl rfl rfl rfl rfl rfl rfl ?_
   obtain ⟨hg2, h⟩ := grd_inv h
   refine oAppend tt rfl rfl rfl rfl rfl rfl rfl rfl rfl rfl rfl rfl rfl rfl rfl rfl (Nat.le_of_eq (Nat.zero_add _)) hg2 ?_
   refine oVal tt rfl rfl rfl rfl rfl trivial ?_
   refine oStore tt rfl rfl rfl rfl rfl rfl rfl rfl rfl rfl rfl ⟨trivial, trivial⟩ ?_
   refine vNil ?_
   change VC _ _ _ _
   refine vSeq ?_
   refine vRegion ?_
   refine oVal tt rfl rfl rfl rfl rfl trivial ?_
   refine oStore tt rfl rfl rfl rfl rfl rfl rfl rfl rfl rfl rfl ⟨trivial, trivial, trivial⟩ ?_
   refine vNil ?_
   change VC _ _ _ _
   refine vRet ?_
   change ∃ _, _
   cases h
   exact ⟨[35], _, rfl, ⟨rfl, trivial⟩, rfl, (.eq rfl), rfl⟩
  ·replace h := cnd_f hb1 h
   refine vSkip ?_
   change VC _ _ _ _
   refine vSeq ?_
   refine vRegion ?_
   refine oVal tt rfl rfl rfl rfl rfl trivial ?_
   refine oStore tt rfl rfl rfl rfl rfl rfl rfl rfl rfl rfl rfl ⟨trivial, trivial, trivial⟩ ?_
   refine vNil ?_
   change VC _ _ _ _
   refine vRet ?_
   change ∃ _, _
   cases h
   exact ⟨[35], _, rfl, ⟨rfl, trivial⟩, rfl, (.eq rfl), rfl⟩
 ·intro k h
  refine vBlock ?_
  refine vNilB 5 1 35 97 (.pairs []) rfl rfl rfl rfl rfl ?_
  refine vLoopS (α := (List (Int × Int)) × Bool × Int) (fun | (l17, placed18, i19) => (⟨[(2, .ptr 2 0), (3, .ptr 3 0), (4, .ptr 4 0), (5, .ptr 5 0), (6, .bool placed18), (7, .int i19)], [(35, some (97, .pairs l17))], [(2, some [.int g_0.n, .ro false (.pairs g_0.bars)]), (3, some [.int x_1.1, .int x_1.2]), (4, some [.int (0 : Int), .nil]), (5, some [.int g_0.n, .row 35 0 l17.length])]⟩ : PS)) (S_l2Put_l1 N g_0 x_1 k) h (En.of ⟨rfl, rfl, rfl, rfl, rfl, rfl, trivial⟩ ⟨rfl, trivial⟩ ⟨rfl, rfl, rfl, rfl, trivial⟩) (fun _ => rfl) ?_
  rintro n ⟨l17, placed18, i19⟩ h
  rw [S_l2Put_l1] at h
  show VC _ _ _ (⟨[(2, .ptr 2 0), (3, .ptr 3 0), (4, .ptr 4 0), (5, .ptr 5 0), (6, .bool placed18), (7, .int i19)], [(35, some (97, .pairs l17))], [(2, some [.int g_0.n, .ro false (.pairs g_0.bars)]), (3, some [.int x_1.1, .int x_1.2]), (4, some [.int (0 : Int), .nil]), (5, some [.int g_0.n, .row 35 0 l17.length])]⟩ : PS)
  iterate 2 refine vSeq ?_
  refine vRegion ?_
  iterate 5 refine oVal tt rfl rfl rfl rfl rfl trivial ?_
  refine vNil ?_
  change VC _ _ _ _
  refine vCond rfl (fun hb3 => ?_) (fun hb3 => ?_)
  ·replace h := cnd_t hb3 h
   refine vSkip ?_
   change VC _ _ _ _
   refine vSeq ?_
   refine vBlock ?_
   iterate 2 refine vSeq ?_
   refine vRegionD (by kernel_rfl) (by kernel_rfl) ?_
   iterate 3 refine cVal tt rfl (wNone rfl) rfl rfl rfl trivial ?_
   refine cSplit rfl rfl rfl (fun hb4 => ?_) (fun hb4 => ?_)
   ·replace h := cnd_t hb4 h
    iterate 3 refine cVal tt rfl (wSome rfl rfl rfl rfl hb4) rfl rfl rfl trivial ?_
    obtain ⟨hg5, h⟩ := grd_inv h
    refine cVal tt rfl (wSome rfl rfl rfl rfl hb4) rfl rfl rfl hg5 ?_
    iterate 2 refine cVal tt rfl (wSome rfl rfl rfl rfl hb4) rfl rfl rfl trivial ?_
    obtain ⟨v21, hc6, h⟩ := bind_inv h
    refine cCall (S_l2After_w N (g_0.bars.getD ((i19).toNat) (0, 0)) x_1 v21 hc6) rfl (wSome rfl rfl rfl rfl hb4) rfl rfl rfl rfl rfl rfl ⟨⟨rfl, rfl, trivial⟩, ⟨rfl, rfl, trivial⟩, trivial⟩ ?_
    refine cVal tt rfl (wSome rfl rfl rfl rfl hb4) rfl rfl rfl trivial ?_
    refine cPickT rfl (wNone rfl) rfl rfl rfl hb4 rfl ?_
    refine cNil ?_
    change VC _ _ _ _
    refine vCond rfl (fun hb7 => ?_) (fun hb7 => ?_)
    ·replace h := cnd_t hb7 h
     refine vSeq ?_
     refine vRegion ?_
     iterate 3 refine oVal tt rfl rfl rfl rfl rfl trivial ?_
     refine oBuild tt rfl rfl rfl rfl rfl rfl rfl rfl rfl rfl rfl ?_
     obtain ⟨hg8, h⟩ := grd_inv h
     refine oAppend tt rfl rfl rfl rfl rfl rfl rfl rfl rfl rfl rfl rfl rfl rfl rfl rfl (Nat.le_of_eq (Nat.zero_add _)) hg8 ?_
     refine oVal tt rfl rfl rfl rfl rfl trivial ?_
     refine oStore tt rfl rfl rfl rfl rfl rfl rfl rfl rfl rfl rfl ⟨trivial, trivial⟩ ?_
     refine vNil ?_
     change VC _ _ _ _
     refine vRegion ?_
     refine oVal tt rfl rfl rfl rfl rfl trivial ?_
     refine vNil ?_
     change VC _ _ _ _
     refine vRegionN 8 [7] [0, 1, 0, 4, 0, 28, 60, 124, 255, 511, 1023] (by kernel_rfl) (by kernel_rfl) (by kernel_rfl) (by kernel_rfl) (by kernel_rfl) rfl (by rfl) ?_
     iterate 5 refine nVal tt rfl (wNone rfl) rfl rfl rfl rfl rfl trivial ?_
     refine nVal tt rfl (wNone rfl) rfl rfl rfl rfl rfl hg5 ?_
     refine nVal tt rfl (wNone rfl) rfl rfl rfl rfl rfl trivial ?_
     refine nBuild tt (wNone rfl) rfl rfl rfl rfl rfl rfl rfl rfl rfl rfl rfl rfl ?_
     refine nNil ?_
     change VO _ _ _ _ _
     obtain ⟨hg9, h⟩ := grd_inv h
     refine oAppend tt rfl rfl rfl rfl rfl rfl rfl rfl rfl rfl rfl rfl rfl rfl rfl rfl (Nat.le_of_eq (Nat.zero_add _)) hg9 ?_
     refine oVal tt rfl rfl rfl rfl rfl trivial ?_
     refine oStore tt rfl rfl rfl rfl rfl rfl rfl rfl rfl rfl rfl ⟨trivial, trivial⟩ ?_
     refine vNil ?_
     change VC _ _ _ _
     refine vRegion ?_
     refine oVal tt rfl rfl rfl rfl rfl trivial ?_
     obtain ⟨hg10, h⟩ := grd_inv h
     refine oVal tt rfl rfl rfl rfl rfl hg10 ?_
     refine oVal tt rfl rfl rfl rfl rfl trivial ?_
     refine vNil ?_
     change ∃ _, _
     exact ⟨(((l17 ++ ([(x_1.1, x_1.2)] : List (Int × Int))) ++ ([((g_0.bars.getD ((i19).toNat) (0, 0)).1, (g_0.bars.getD ((i19).toNat) (0, 0)).2)] : List (Int × Int))), true, (i19 + (1 : Int))), (En.of ⟨rfl, rfl, rfl, rfl, rfl, rfl, trivial⟩ ⟨rfl, trivial⟩ ⟨rfl, rfl, rfl, rfl, trivial⟩), h⟩
    ·replace h := cnd_f hb7 h
     refine vSkip ?_
     change VC _ _ _ _
     refine vRegionN 8 [7] [0, 1, 0, 4, 0, 28, 60, 124, 255, 511, 1023] (by kernel_rfl) (by kernel_rfl) (by kernel_rfl) (by kernel_rfl) (by kernel_rfl) rfl (by rfl) ?_
     iterate 5 refine nVal tt rfl (wNone rfl) rfl rfl rfl rfl rfl trivial ?_
     refine nVal tt rfl (wNone rfl) rfl rfl rfl rfl rfl hg5 ?_
     refine nVal tt rfl (wNone rfl) rfl rfl rfl rfl rfl trivial ?_
     refine nBuild tt (wNone rfl) rfl rfl rfl rfl rfl rfl rfl rfl rfl rfl rfl rfl ?_
     refine nNil ?_
     change VO _ _ _ _ _
     obtain ⟨hg11, h⟩ := grd_inv h
     refine oAppend tt rfl rfl rfl rfl rfl rfl rfl rfl rfl rfl rfl rfl rfl rfl rfl rfl (Nat.le_of_eq (Nat.zero_add _)) hg11 ?_
     refine oVal tt rfl rfl rfl rfl rfl trivial ?_
     refine oStore tt rfl rfl rfl rfl rfl rfl rfl rfl rfl rfl rfl ⟨trivial, trivial⟩ ?_
     refine vNil ?_
     change VC _ _ _ _
     refine vRegion ?_
     refine oVal tt rfl rfl rfl rfl rfl trivial ?_
     obtain ⟨hg12, h⟩ := grd_inv h
     refine oVal tt rfl rfl rfl rfl rfl hg12 ?_
     refine oVal tt rfl rfl rfl rfl rfl trivial ?_
     refine vNil ?_
     change ∃ _, _
     exact ⟨((l17 ++ ([((g_0.bars.getD ((i19).toNat) (0, 0)).1, (g_0.bars.getD ((i19).toNat) (0, 0)).2)] : List (Int × Int))), placed18, (i19 + (1 : Int))), (En.of ⟨rfl, rfl, rfl, rfl, rfl, rfl, trivial⟩ ⟨rfl, trivial⟩ ⟨rfl, rfl, rfl, rfl, trivial⟩), h⟩
   ·replace h := cnd_f hb4 h
    iterate 8 refine cNoT rfl rfl rfl rfl hb4 rfl rfl ?_
    refine cPickF rfl (wNone rfl) rfl rfl rfl hb4 rfl ?_
    refine cNil ?_
    change VC _ _ _ _
    refine vCondF rfl rfl ?_
    refine vSkip ?_
    change VC _ _ _ _
    refine vRegionN 8 [7] [0, 1, 0, 4, 0, 28, 60, 124, 255, 511, 1023] (by kernel_rfl) (by kernel_rfl) (by kernel_rfl) (by kernel_rfl) (by kernel_rfl) rfl (by rfl) ?_
    iterate 5 refine nVal tt rfl (wNone rfl) rfl rfl rfl rfl rfl trivial ?_
    obtain ⟨hg13, h⟩ := grd_inv h
    refine nVal tt rfl (wNone rfl) rfl rfl rfl rfl rfl hg13 ?_
    refine nVal tt rfl (wNone rfl) rfl rfl rfl rfl rfl trivial ?_
    refine nBuild tt (wNone rfl) rfl rfl rfl rfl rfl rfl rfl rfl rfl rfl rfl rfl ?_
    refine nNil ?_
    change VO _ _ _ _ _
    obtain ⟨hg14, h⟩ := grd_inv h
    refine oAppend tt rfl rfl rfl rfl rfl rfl rfl rfl rfl rfl rfl rfl rfl rfl rfl rfl (Nat.le_of_eq (Nat.zero_add _)) hg14 ?_
    refine oVal tt rfl rfl rfl rfl rfl trivial ?_
    refine oStore tt rfl rfl rfl rfl rfl rfl rfl rfl rfl rfl rfl ⟨trivial, trivial⟩ ?_
    refine vNil ?_
    change VC _ _ _ _
    refine vRegion ?_
    refine oVal tt rfl rfl rfl rfl rfl trivial ?_
    obtain ⟨hg15, h⟩ := grd_inv h
    refine oVal tt rfl rfl rfl rfl rfl hg15 ?_
    refine oVal tt rfl rfl rfl rfl rfl trivial ?_
    refine vNil ?_
    change ∃ _, _
    exact ⟨((l17 ++ ([((g_0.bars.getD ((i19).toNat) (0, 0)).1, (g_0.bars.getD ((i19).toNat) (0, 0)).2)] : List (Int × Int))), placed18, (i19 + (1 : Int))), (En.of ⟨rfl, rfl, rfl, rfl, rfl, rfl, trivial⟩ ⟨rfl, trivial⟩ ⟨rfl, rfl, rfl, rfl, trivial⟩), h⟩
  ·replace h := cnd_f hb3 h
   refine vExit ?_
   change ∃ _, _
   exact ⟨(l17, placed18), (En.of ⟨rfl, rfl, rfl, rfl, trivial⟩ ⟨rfl, trivial⟩ ⟨rfl, rfl, rfl, trivial⟩), h⟩
def I_bar (N : Nat) (a_0 : Int) (b_1 : Int) : Option (Int × Int) :=
 some ((min a_0 b_1), (max a_0 b_1))
set_option maxRecDepth 20000 in
set_option maxHeartbeats 1600000 in
theorem I_bar_w (N : Nat) (a_0 : Int) (b_1 : Int) (r : Int × Int) (h : I_bar N a_0 b_1 = some r) : PCall Try.prog 79 [.int a_0, .int b_1] [] (.agg [.int r.1, .int r.2]) := by
 unfold I_bar at h
 refine pcall_intro (TT := TT) tt Try.func79 rfl rfl Try.ntmps79 (congrArg Array.toList Try.results79) rfl rfl fun w0 => ?_
 refine vSeq ?_
 refine vRegion ?_
 refine oAlloc tt rfl rfl rfl rfl rfl rfl rfl rfl rfl ?_
 refine vNil ?_
 change VC _ _ _ _
 refine vSeq ?_
 refine vRegion ?_
 iterate 6 refine oVal tt rfl rfl rfl rfl rfl trivial ?_
 refine oPure (wNone rfl) (pBuild bld_impl_Bar rfl rfl) rfl rfl ?_
 refine oStore tt rfl rfl rfl rfl rfl rfl rfl rfl rfl rfl rfl ⟨trivial, trivial, trivial⟩ ?_
 refine vNil ?_
 change VC _ _ _ _
 refine vRet ?_
 change ∃ _, _
 cases h
 exact ⟨[], _, rfl, trivial, rfl, (.eq rfl), rfl⟩
end Go.Proofs.Ytmoamglpocjhgaa
namespace Go.Proofs.Ytmoamglpocjhgaa
open Go.RowKit
end Go.Proofs.Ytmoamglpocjhgaa
namespace Go.Proofs.Ytmoamglpocjhgaa
variable {n : Nat} {f T : List Int} {a b : Int}
abbrev brI (bars : List (Int × Int)) (i : Int) : Int × Int := bars.getD i.toNat (0, 0)
structure PG (n : Nat) (bars : List (Int × Int)) (p : Pbl) : Prop where
 inv : PInv n (p.placed.map (brI bars)) p.free p.tails
 pl : ∀ i ∈ p.placed, 0 ≤ i ∧ i < (bars.length : Int)
section
variable {g : Grf} {p : Pbl} {N : Nat} (hN : 4000000 ≤ N) (hn : n ≤ 1000) (hg : g.n = n) (hp : PG n g.bars p)
end
section
variable {g : Grf} {N : Nat} (hN : 4000000 ≤ N) (hn : n ≤ 1000) (hg : g.n = n)
end
end Go.Proofs.Ytmoamglpocjhgaa
namespace Go.Proofs.Ytmoamglpocjhgaa
variable (N : Nat)
theorem l1In_s (x lo hi : Int) : S_l1In N x lo hi = some (inB x lo hi) := by
 unfold S_l1In inB
 rw [cnd_some]
 show some (cnd (decide (lo ≤ x)) _ _) = _
 cases decide (lo ≤ x) <;> rfl
theorem within_s (x lo hi : Int) : I_within N x lo hi = some (inB x lo hi) := by
 unfold I_within inB
 rw [cnd_some]
 show some (cnd (decide (lo ≤ x)) _ _) = _
 cases decide (lo ≤ x) <;> rfl
theorem l2After_s (a b : Int × Int) : S_l2After N a b = some (barLeB a b) := by
 unfold S_l2After barLeB
 simp only [cnd_some]
 cases decide (a.1 < b.1) <;> cases a.1 == b.1 <;> rfl
theorem compareInts_s (a b : Int) : I_compareInts N a b = some (cmpI a b) := by
 unfold I_compareInts cmpI
 by_cases h : a < b
 ·simp (disch := omega) only [Int.toNat_natCast, tk0, List.length_cons, List.length_nil, grd_pos, grd_T, grd_R, cnd_dt, cnd_df, cnd_true, cnd_false, Option.bind_some, if_pos h]
 ·by_cases h' : b < a
  ·simp (disch := omega) only [Int.toNat_natCast, tk0, List.length_cons, List.length_nil, grd_pos, grd_T, grd_R, cnd_dt, cnd_df, cnd_true, cnd_false, Option.bind_some, if_neg h, if_pos h', gt_iff_lt]
  ·simp (disch := omega) only [Int.toNat_natCast, tk0, List.length_cons, List.length_nil, grd_pos, grd_T, grd_R, cnd_dt, cnd_df, cnd_true, cnd_false, Option.bind_some, if_neg h, if_neg h', gt_iff_lt]
theorem compareBars_s (a b : Int × Int) : I_compareBars N a b = some (cmpBar a b) := by
 unfold I_compareBars cmpBar
 simp only [compareInts_s, Option.bind_some]
 by_cases h : cmpI a.1 b.1 = 0
 ·rw [if_pos h, cnd_nef h]
 ·rw [if_neg h, cnd_net h]
theorem cmpBar_gt (a b : Int × Int) : decide (cmpBar a b > 0) = !barLeB a b := by
 have := cmpBar_pos a b
 cases h : barLeB a b with
 | true => rw [h] at this; simp at this; simp; omega
 | false => rw [h] at this; simp at this; simp; omega
theorem isGraphS_s (hN : 4000000 ≤ N) {g : Grf} : S_IsGraph N g = some (isGraph g) := by
 unfold S_IsGraph isGraph
 rw [l1In_s, Option.bind_some, cnd_not]
 cases h1 : inB g.n 1 8 with
 | false => rfl
 | true =>
  by_cases h2 : g.bars.length ≤ 24
  ·simp (disch := omega) only [Int.toNat_natCast, tk0, List.length_cons, List.length_nil, grd_pos, grd_T, grd_R, cnd_dt, cnd_df, cnd_true, cnd_false, Option.bind_some]
   refine (srch (len := g.bars.length) (ok := barAt g.n g.bars) (bad := some false) (fin := some true) (by omega) ?_ ?_).trans ?_
   ·intro n i hi _
    rw [S_IsGraph_l1]
    by_cases h0 : i = 0
    ·subst h0
     simp (disch := omega) only [Int.toNat_natCast, tk0, List.length_cons, List.length_nil, grd_pos, grd_T, grd_R, cnd_dt, cnd_df, cnd_true, cnd_false, Option.bind_some, l2After_s, cnd_or, cnd_and, succ_cast]
     refine cnd_congr' ?_ _ _
     simp only [barAt, barOkB]
     rw [Bool.eq_iff_iff]; simp; omega
    ·simp (disch := omega) only [Int.toNat_natCast, tk0, List.length_cons, List.length_nil, grd_pos, grd_T, grd_R, cnd_dt, cnd_df, cnd_true, cnd_false, Option.bind_some, l2After_s, cnd_or, cnd_and, succ_cast, show ((i : Int) - 1).toNat = i - 1 from by omega]
     refine cnd_congr' ?_ _ _
     simp only [barAt, barOkB, decide_eq_false h0, Bool.false_or]
     cases barLeB (g.bars.getD (i - 1) (0, 0)) (g.bars.getD i (0, 0)) <;> (rw [Bool.eq_iff_iff]; simp; try omega)
   ·intro n _
    rw [S_IsGraph_l1]
    simp (disch := omega) only [Int.toNat_natCast, tk0, List.length_cons, List.length_nil, grd_pos, grd_T, grd_R, cnd_dt, cnd_df, cnd_true, cnd_false, Option.bind_some]
   ·rw [cnd_some, cnd_bool]; simp [h2]
  ·simp (disch := omega) only [Int.toNat_natCast, tk0, List.length_cons, List.length_nil, grd_pos, grd_T, grd_R, cnd_dt, cnd_df, cnd_true, cnd_false, Option.bind_some]
   simp [h2]
theorem isGraphI_s (hN : 4000000 ≤ N) {g : Grf} : I_IsGraph N g = some (isGraph g) := by
 unfold I_IsGraph isGraph
 rw [within_s, Option.bind_some, cnd_not]
 cases h1 : inB g.n 1 8 with
 | false => rfl
 | true =>
  by_cases h2 : g.bars.length ≤ 24
  ·simp (disch := omega) only [Int.toNat_natCast, tk0, List.length_cons, List.length_nil, grd_pos, grd_T, grd_R, cnd_dt, cnd_df, cnd_true, cnd_false, Option.bind_some]
   refine (srch (len := g.bars.length) (ok := barAt g.n g.bars) (bad := some false) (fin := some true) (by omega) ?_ ?_).trans ?_
   ·intro n i hi _
    rw [I_IsGraph_l1]
    by_cases h0 : i = 0
    ·subst h0
     simp (disch := omega) only [Int.toNat_natCast, tk0, List.length_cons, List.length_nil, grd_pos, grd_T, grd_R, cnd_dt, cnd_df, cnd_true, cnd_false, Option.bind_some, compareBars_s, cmpBar_gt, cnd_or, cnd_and, succ_cast]
     refine cnd_congr' ?_ _ _
     simp only [barAt, barOkB]
     rw [Bool.eq_iff_iff]; simp; omega
    ·simp (disch := omega) only [Int.toNat_natCast, tk0, List.length_cons, List.length_nil, grd_pos, grd_T, grd_R, cnd_dt, cnd_df, cnd_true, cnd_false, Option.bind_some, compareBars_s, cmpBar_gt, cnd_or, cnd_and, succ_cast, show ((i : Int) - 1).toNat = i - 1 from by omega]
     refine cnd_congr' ?_ _ _
     simp only [barAt, barOkB, decide_eq_false h0, Bool.false_or]
     cases barLeB (g.bars.getD (i - 1) (0, 0)) (g.bars.getD i (0, 0)) <;> (rw [Bool.eq_iff_iff]; simp; try omega)
   ·intro n _
    rw [I_IsGraph_l1]
    simp (disch := omega) only [Int.toNat_natCast, tk0, List.length_cons, List.length_nil, grd_pos, grd_T, grd_R, cnd_dt, cnd_df, cnd_true, cnd_false, Option.bind_some]
   ·rw [cnd_some, cnd_bool]; simp [h2]
  ·simp (disch := omega) only [Int.toNat_natCast, tk0, List.length_cons, List.length_nil, grd_pos, grd_T, grd_R, cnd_dt, cnd_df, cnd_true, cnd_false, Option.bind_some]
   simp [h2]
end Go.Proofs.Ytmoamglpocjhgaa
namespace Go.Proofs.Ytmoamglpocjhgaa
variable {n : Nat} {N : Nat}
variable {g : Grf} (hN : 4000000 ≤ N) (hn : n ≤ 1000) (hg : g.n = n)
end Go.Proofs.Ytmoamglpocjhgaa
namespace Go.Proofs.Ytmoamglpocjhgaa
variable {n : Nat} {a b : Int} {N : Nat}
section
variable {bars : List (Int × Int)} {p : Pbl} (hN : 4000000 ≤ N) (hn : n ≤ 1000) (hp : PG n bars p)
end
section
variable {bars : List (Int × Int)} (hN : 4000000 ≤ N) (hn : n ≤ 1000)
end
end Go.Proofs.Ytmoamglpocjhgaa
namespace Go.Proofs.Ytmoamglpocjhgaa
variable (N : Nat)
theorem all_not_dbl (l : List (Int × Int)) : ((List.range l.length).all fun i => !doubleAt l i) = !hasDbl l := by
 simp only [hasDbl, List.not_any_eq_all_not]
theorem pair_eq (a b : Int × Int) : ((a.1 == b.1) && (a.2 == b.2)) = (a == b) := by
 obtain ⟨x, y⟩ := a; obtain ⟨u, v⟩ := b; rfl
theorem hasDoubles_s (hN : 4000000 ≤ N) {g : Grf} (hb : g.bars.length ≤ 3000000) : I_hasDoubles N g = some (hasDbl g.bars) := by
 unfold I_hasDoubles
 refine (srch1 (len := g.bars.length) (ok := fun i => !doubleAt g.bars i) (bad := some true) (fin := some false) (by omega) rfl ?_ ?_).trans ?_
 ·intro n i h0 hi
  rw [I_hasDoubles_l1]
  simp (disch := omega) only [Int.toNat_natCast, tk0, List.length_cons, List.length_nil, grd_pos, grd_T, grd_R, cnd_dt, cnd_df, cnd_true, cnd_false, Option.bind_some, succ_cast, pair_eq, show ((i : Int) - 1).toNat = i - 1 from by omega]
  refine cnd_congr' ?_ _ _
  simp [doubleAt, h0]
 ·intro n i hi
  rw [I_hasDoubles_l1]
  simp (disch := omega) only [Int.toNat_natCast, tk0, List.length_cons, List.length_nil, grd_pos, grd_T, grd_R, cnd_dt, cnd_df, cnd_true, cnd_false, Option.bind_some]
 ·rw [all_not_dbl, cnd_some]; cases hasDbl g.bars <;> rfl
theorem l17Simple_s (hN : 4000000 ≤ N) {g : Grf} (hb : g.bars.length ≤ 3000000) : S_l17Simple N g = some (isSimple g) := by
 unfold S_l17Simple isSimple
 refine (srch1 (len := g.bars.length) (ok := fun i => !doubleAt g.bars i) (bad := some false) (fin := some (isGraph g)) (by omega) rfl ?_ ?_).trans ?_
 ·intro n i h0 hi
  rw [S_l17Simple_l1]
  simp (disch := omega) only [Int.toNat_natCast, tk0, List.length_cons, List.length_nil, grd_pos, grd_T, grd_R, cnd_dt, cnd_df, cnd_true, cnd_false, Option.bind_some, succ_cast, pair_eq, show ((i : Int) - 1).toNat = i - 1 from by omega]
  refine cnd_congr' ?_ _ _
  simp [doubleAt, h0]
 ·intro n i hi
  rw [S_l17Simple_l1]
  simp (disch := omega) only [Int.toNat_natCast, tk0, List.length_cons, List.length_nil, grd_pos, grd_T, grd_R, cnd_dt, cnd_df, cnd_true, cnd_false, Option.bind_some, isGraphS_s N hN]
 ·rw [all_not_dbl, cnd_some]; cases hasDbl g.bars <;> cases isGraph g <;> rfl
theorem ghasW_s (g : Grf) (x : Int) : M_Graph_has N g x = some (inB x 0 (w64 (g.n - 1))) := by
 unfold M_Graph_has
 simp (disch := omega) only [Int.toNat_natCast, tk0, List.length_cons, List.length_nil, grd_pos, grd_T, grd_R, cnd_dt, cnd_df, cnd_true, cnd_false, Option.bind_some, within_s]
end Go.Proofs.Ytmoamglpocjhgaa
namespace Go.Proofs.Ytmoamglpocjhgaa
open Go.RowKit
end Go.Proofs.Ytmoamglpocjhgaa
namespace Go.Proofs.Ytmoamglpocjhgaa
variable (N : Nat)
end Go.Proofs.Ytmoamglpocjhgaa
namespace Go.Proofs.Ytmoamglpocjhgaa
variable {n : Nat} {N : Nat}
def Srt (L : List (Int × Int)) : Prop := L.Pairwise fun a b => barLeB a b = true
theorem le_total {a b : Int × Int} (h : barLeB a b = false) : barLeB b a = true := by
 simp only [barLeB, Bool.or_eq_false_iff, Bool.and_eq_false_iff, decide_eq_false_iff_not, Bool.or_eq_true, Bool.and_eq_true, decide_eq_true_eq, beq_iff_eq, beq_eq_false_iff_ne] at h ⊢
 omega
theorem le_trans' {a b c : Int × Int} (h1 : barLeB a b = true) (h2 : barLeB b c = true) : barLeB a c = true := by
 simp only [barLeB, Bool.or_eq_true, Bool.and_eq_true, decide_eq_true_eq, beq_iff_eq] at h1 h2 ⊢
 omega
theorem srt_put {A B : List (Int × Int)} {x : Int × Int} (h : Srt (A ++ B)) (hA : ∀ e ∈ A, barLeB e x = true) (hB : ∀ b l, B = b :: l → barLeB b x = false) : Srt (A ++ x :: B) := by
 obtain ⟨h1, h2, h3⟩ := List.pairwise_append.1 h
 have hx : ∀ b ∈ B, barLeB x b = true := by
  cases B with
  | nil => intro b hb; simp at hb
  | cons b0 l =>
   have h0 := le_total (hB b0 l rfl)
   intro b hb
   rcases List.mem_cons.1 hb with rfl | hb
   ·exact h0
   ·exact le_trans' h0 ((List.pairwise_cons.1 h2).1 b hb)
 refine List.pairwise_append.2 ⟨h1, List.pairwise_cons.2 ⟨hx, h2⟩, fun a ha b hb => ?_⟩
 rcases List.mem_cons.1 hb with rfl | hb
 ·exact hA a ha
 ·exact h3 a ha b hb
end Go.Proofs.Ytmoamglpocjhgaa
namespace Go.Proofs.Ytmoamglpocjhgaa
variable (N : Nat)
theorem isGraph_n {g : Grf} (h : isGraph g = true) : 1 ≤ g.n ∧ g.n ≤ 8 ∧ g.bars.length ≤ 24 := by
 have := isGraph_parts h; omega
def anchOk (g : Grf) (l : List Int) : Bool := isSimple g && asc g.n l
theorem anchS_s (hN : 4000000 ≤ N) {g : Grf} (hb : g.bars.length ≤ 3000000) {l : List Int} (hl : l.length ≤ 3000000) : S_l23Anchors N g l = some (anchOk g l) := by
 unfold S_l23Anchors anchOk
 refine (srch (len := l.length) (ok := ascAt g.n l) (bad := some false) (fin := some (isSimple g)) (by omega) ?_ ?_).trans ?_
 ·intro n i hi _
  rw [S_l23Anchors_l1]
  by_cases h0 : i = 0
  ·subst h0
   simp (disch := omega) only [Int.toNat_natCast, tk0, List.length_cons, List.length_nil, grd_pos, grd_T, grd_R, cnd_dt, cnd_df, cnd_true, cnd_false, Option.bind_some, cnd_or, succ_cast]
   refine cnd_congr' ?_ _ _
   simp only [ascAt, inB]
   rw [Bool.eq_iff_iff]; simp; omega
  ·simp (disch := omega) only [Int.toNat_natCast, tk0, List.length_cons, List.length_nil, grd_pos, grd_T, grd_R, cnd_dt, cnd_df, cnd_true, cnd_false, Option.bind_some, succ_cast, cnd_or, show ((i : Int) - 1).toNat = i - 1 from by omega]
   refine cnd_congr' ?_ _ _
   simp only [ascAt, inB, decide_eq_false h0, Bool.false_or]
   rw [Bool.eq_iff_iff]; simp; omega
 ·intro n _
  rw [S_l23Anchors_l1]
  simp (disch := omega) only [Int.toNat_natCast, tk0, List.length_cons, List.length_nil, grd_pos, grd_T, grd_R, cnd_dt, cnd_df, cnd_true, cnd_false, Option.bind_some, l17Simple_s N hN hb]
 ·rw [cnd_some, show (List.range l.length).all (ascAt g.n l) = asc g.n l from rfl]
  cases asc g.n l <;> cases isSimple g <;> rfl
theorem anchI_s (hN : 4000000 ≤ N) {g : Grf} (hb : g.bars.length ≤ 3000000) {l : List Int} (hl : l.length ≤ 3000000) : I_areAnchors N g l = some (anchOk g l) := by
 unfold I_areAnchors anchOk
 refine (srch (len := l.length) (ok := fun i => inB (l.getD i 0) 0 (w64 (g.n - 1)) && (decide (i = 0) || decide (l.getD (i - 1) 0 < l.getD i 0))) (bad := some false) (fin := some (isSimple g)) (by omega) ?_ ?_).trans ?_
 ·intro n i hi _
  rw [I_areAnchors_l1]
  by_cases h0 : i = 0
  ·subst h0
   simp (disch := omega) only [Int.toNat_natCast, tk0, List.length_cons, List.length_nil, grd_pos, grd_T, grd_R, cnd_dt, cnd_df, cnd_true, cnd_false, Option.bind_some, ghasW_s, cnd_not, succ_cast]
   refine cnd_congr ?_ _ _
   simp
  ·simp (disch := omega) only [Int.toNat_natCast, tk0, List.length_cons, List.length_nil, grd_pos, grd_T, grd_R, cnd_dt, cnd_df, cnd_true, cnd_false, Option.bind_some, ghasW_s, succ_cast, cnd_or, show ((i : Int) - 1).toNat = i - 1 from by omega]
   refine cnd_congr' ?_ _ _
   simp only [decide_eq_false h0, Bool.false_or]
   cases inB (l.getD i 0) 0 (w64 (g.n - 1)) <;> (rw [Bool.eq_iff_iff]; simp)
 ·intro n _
  rw [I_areAnchors_l1]
  simp (disch := omega) only [Int.toNat_natCast, tk0, List.length_cons, List.length_nil, grd_pos, grd_T, grd_R, cnd_dt, cnd_df, cnd_true, cnd_false, Option.bind_some, isGraphI_s N hN, hasDoubles_s N hN hb]
  unfold isSimple
  cases isGraph g <;> rfl
 ·rw [cnd_some]
  cases hg : isGraph g with
  | false =>
   have : isSimple g = false := by unfold isSimple; rw [hg]; rfl
   rw [this, cnd_same]; rfl
  | true =>
   have hn := isGraph_n hg
   rw [w64_id (by omega) (by omega)]
   rw [show ((List.range l.length).all fun i => inB (l.getD i 0) 0 (g.n - 1) && (decide (i = 0) || decide (l.getD (i - 1) 0 < l.getD i 0))) = asc g.n l from rfl]
   cases asc g.n l <;> cases isSimple g <;> rfl
end Go.Proofs.Ytmoamglpocjhgaa
namespace Go.Proofs.Ytmoamglpocjhgaa
open Go.RowKit Go.Deep
section
variable {C : Cx} {ops : Array Oper} {K : PS → Prop} {l : List Oper} {s s' : PS} {TT : List (Nat × Ty)} {tm : List (Nat × D)} {rw' : List (Nat × Option (TypeId × Sq))} {bx : List (Nat × Option (List D))}
end
section
end
section
variable {C : Cx} {ops : Array Oper} {K : PS → Prop} {l : List Oper} {s s' : PS} {TT : List (Nat × Ty)} {tm : List (Nat × D)} {rw' : List (Nat × Option (TypeId × Sq))} {bx : List (Nat × Option (List D))}
variable {o : Oper} {rest : List Oper} {rk rids bk bids pids : List Nat}
end
section
end
section
variable {C : Cx} {ops : Array Oper} {K : PS → Prop} {o : Oper} {rest : List Oper} {s s' : PS} {TT : List (Nat × Ty)} {tm : List (Nat × D)} {rw' : List (Nat × Option (TypeId × Sq))} {bx : List (Nat × Option (List D))} {cr B : List Nat} {j : Nat}
end
end Go.Proofs.Ytmoamglpocjhgaa
namespace Go.Proofs.Ytmoamglpocjhgaa
open Go.RowKit Go.Deep Go.Sort
structure RowPut (w w' : World) (blk m : Nat) (F' : Nat → Value) : Prop where
 os : w'.os = w.os
 tape : w'.tape = w.tape
 output : w'.output = w.output
 size : w.heap.size ≤ w'.heap.size
 else_ : ∀ k, k < w.heap.size → k ≠ blk → w'.heap[k]? = w.heap[k]?
 here : ∀ cur e fr, w.heap[blk]? = some (.cells cur e fr) → ∃ cur' : Array Value, w'.heap[blk]? = some (.cells cur' e fr) ∧ cur'.size = cur.size ∧ ∀ t, t < m → t < cur.size → cur'.getD t undef = F' t
theorem RowPut.to {w w' : World} {blk m m' : Nat} {F F' : Nat → Value} (h : RowPut w w' blk m F) (hm : m' = m) (hF : ∀ t, t < m → F t = F' t) : RowPut w w' blk m' F' :=
 ⟨h.os, h.tape, h.output, h.size, h.else_, fun cur e fr hb => by
  obtain ⟨c, h1, h2, h3⟩ := h.here cur e fr hb
  exact ⟨c, h1, h2, fun t h4 h5 => by rw [h3 t (by omega) h5, hF t (by omega)]⟩⟩
theorem rowPut_of {α : Type} [Inhabited α] {enc : α → Value} {w : World} {blk n : Nat} {d : Array α} {os : Array Obj} : RowPut w (grow (putRow enc (Sort.ahead w n) blk 0 d) os) blk d.size (fun t => enc d[t]!) := by
 refine ⟨rfl, rfl, rfl, by simp, fun k hk hne => ?_, fun cur e fr h => ?_⟩
 ·rw [heap_grow_old _ _ (by simpa using hk)]
  simp [putRow, mapBlock, Sort.ahead, Array.getElem?_modify, Ne.symm hne]
 ·refine ⟨putCells enc 0 d cur, ?_, by simp [putCells], fun t h1 h2 => ?_⟩
  ·have hg : blk < w.heap.size := (Array.getElem?_eq_some_iff.1 h).1
   rw [heap_grow_old _ _ (by simpa using hg)]
   simp [putRow, mapBlock, Sort.ahead, Array.getElem?_modify, h, onCells]
  ·simp [putCells, h1, h2]
def cellsQ : Sq → Nat → Value
 | .ints l, t => .int .i64 (l.getD t 0)
 | .pairs l, t => .int .i64 (match t % 2 with | 0 => (l.getD (t / 2) (0, 0)).1 | _ => (l.getD (t / 2) (0, 0)).2)
 | _, _ => undef
def isIP : Sq → Bool
 | .ints _ | .pairs _ => true
 | _ => false
theorem cellsQ_rel {q : Sq} (hq : isIP q = true) {M : Mp} {A : Bool → Nat → Prop} {w : World} {i j : Nat} {d : D} (hi : i < q.len) (hd : (q.relem i)[j]? = some d) : VR M A w d (cellsQ q (i * q.sz + j)) := by
 cases q <;> first | (cases hq; done) | skip
 ·rename_i l
  rcases j with _ | j <;> simp [Sq.relem, Sq.elem] at hd
  subst hd
  simp only [cellsQ, Sq.sz, Nat.mul_one, Nat.add_zero]
  simp only [List.getD_eq_getElem?_getD]
  exact .int _
 ·rename_i l
  rcases j with _ | _ | j <;> simp [Sq.relem, Sq.elem] at hd
  ·subst hd
   have e1 : (i * 2 + 0) % 2 = 0 := by omega
   have e2 : (i * 2 + 0) / 2 = i := by omega
   simp only [cellsQ, Sq.sz, e1, e2]
   simp only [List.getD_eq_getElem?_getD]
   exact .int _
  ·subst hd
   have e1 : (i * 2 + (0 + 1)) % 2 = 1 := by omega
   have e2 : (i * 2 + (0 + 1)) / 2 = i := by omega
   simp only [cellsQ, Sq.sz, e1, e2]
   simp only [List.getD_eq_getElem?_getD]
   exact .int _
theorem VR.int_val {M : Mp} {A : Bool → Nat → Prop} {w : World} {n : Int} {v : Value} (h : VR M A w (.int n) v) : v = .int .i64 n := by cases h; rfl
theorem cellsQ_read {q : Sq} (hq : isIP q = true) {M : Mp} {A : Bool → Nat → Prop} {w : World} {f : Nat → Value} (h : ∀ i j d, i < q.len → (q.relem i)[j]? = some d → VR M A w d (f (i * q.sz + j))) {t : Nat} (ht : t < q.len * q.sz) : f t = cellsQ q t := by
 cases q <;> first | (cases hq; done) | skip
 ·rename_i l
  simp only [Sq.len, Sq.sz, Nat.mul_one] at ht h
  have := (h t 0 (.int (l.getD t 0)) ht (by simp [Sq.relem, Sq.elem, List.getD_eq_getElem?_getD])).int_val
  simpa [cellsQ] using this
 ·rename_i l
  simp only [Sq.len, Sq.sz] at ht h
  have h0 : t / 2 < l.length := by omega
  rcases (by omega : t % 2 = 0 ∨ t % 2 = 1) with e | e
  ·have := (h (t / 2) 0 (.int (l.getD (t / 2) (0, 0)).1) h0 (by simp [Sq.relem, Sq.elem, List.getD_eq_getElem?_getD])).int_val
   rw [show t / 2 * 2 + 0 = t by omega] at this
   rw [this]; simp [cellsQ, e]
  ·have := (h (t / 2) 1 (.int (l.getD (t / 2) (0, 0)).2) h0 (by simp [Sq.relem, Sq.elem, List.getD_eq_getElem?_getD])).int_val
   rw [show t / 2 * 2 + 1 = t by omega] at this
   rw [this]; simp [cellsQ, e]
structure Lays1 (P : Program) (f : FuncId) (vs : List Value) (q q' : Sq) : Prop where
 some_ : ∀ (blk cap : Nat) (w : World), (∀ t, t < q.len * q.sz → w.cell? ⟨blk, t, none⟩ = some (cellsQ q t) ∧ w.frozen? ⟨blk, t, none⟩ = false) → blk < w.heap.size → q.len ≤ maxLen →
  Calls P f (Value.slice (some ⟨blk, 0, none⟩) q.len cap :: vs).toArray w fun e w' => e = .returned (.tuple #[]) ∧ RowPut w w' blk (q'.len * q'.sz) (cellsQ q')
 none_ : q.len = 0 → ∀ (p : Option Addr) (cap : Nat) (w : World), Calls P f (Value.slice p 0 cap :: vs).toArray w fun e w' => e = .returned (.tuple #[]) ∧ w' = w
theorem mcall_lays {P : Program} {f : FuncId} (en : ∀ args w, (callFunc f args).run P w = .ok (.enter f args) w) {ds : List D} {vs : List Value} {e : TypeId} {q q' : Sq} (hq : isIP q = true) (hq' : isIP q' = true) (hl : q'.len = q.len) (hz : q'.sz = q.sz)
  (hvs : ds.length = vs.length) (hds : ∀ M A w i d v, ds[i]? = some d → VR M A w d v → vs.getD i undef = v) (hL : Lays1 P f vs q q') :
  MCall P f (.row 1000000 0 q.len :: ds) [1000000] [] [(e, q)] [(e, q')] [] [] (.tup []) := by
 have hrf : q'.refF = none := by cases q' <;> first | (cases hq'; done) | rfl
 refine ⟨en, ⟨rfl, rfl, rfl, rfl⟩, rfl, rfl, by simp [conR, hrf], rfl, ⟨rfl, rfl⟩, fun w N args A hA1 hA2 hM hargs => ?_⟩
 obtain ⟨ha, hv⟩ := hargs
 have h0 := hv 0 _ rfl
 have hargs' : args = (args.getD 0 undef :: vs).toArray := by
  apply Array.ext
  ·simpa [hvs] using ha
  ·intro i h1 h2
   rcases i with _ | i
   ·simp [Array.getD_eq_getD_getElem?, h1]
   ·have hi : i < vs.length := by simpa using h2
    have hi' : i < ds.length := by omega
    have := hds N A w i ds[i] _ (by simp [hi']) (hv (i + 1) ds[i] (by simp [hi']))
    rw [Array.getD_eq_getD_getElem?, Array.getElem?_eq_getElem h1] at this
    simp [List.getD_eq_getElem?_getD, hi] at this
    simp [this]
 have hrow := hM.row 1000000 e q (by rfl)
 have hvr : ∀ x, N.γ 1000000 = some x → RowV x 0 q.len (args.getD 0 undef) := by cases h0 with | row _ _ _ _ _ h => exact h
 have hγ : ∀ r, r ≠ 1000000 → N.γ r = none := fun r hr => hM.rown r (by
  show PS.r ⟨[], [(1000000, some (e, q))], []⟩ r = none
  unfold PS.r
  cases hb : Nat.ble BIG r with
  | true =>
   simp only [PS.inn]
   have : look [(1000000, some (e, q))] (FK + unF r) = none := by rw [look_cons_ne (by have : FK = 8589934592 := rfl; omega)]; rfl
   rw [this]; rfl
  | false => simp only; rw [look_cons_ne (Ne.symm hr)]; rfl)
 rcases hrow with ⟨hn, h00⟩ | ⟨g, cap, cur, hg, hblk, hlc, hcm, hcs, hcells⟩
 ·have hv2 := hvr _ hn
  obtain ⟨⟨ao, hv3⟩, h3, _⟩ := hv2
  rw [hargs', hv3]
  refine (hL.none_ h00 ao 0 w).mono ?_
  rintro x w' ⟨rfl, rfl⟩
  refine ⟨_, rfl, N, ⟨?_, hM.boxn, fun r e' q'' hr => ?_, fun r hr => ?_, hM.inj1, hM.inj2, hM.inj3⟩, fun _ => rfl, fun _ _ _ => rfl, fun k hk => .inl hk, rfl, rfl, rfl, Nat.le_refl _, fun _ _ _ => rfl, ?_⟩
  ·intro b cs hb; cases hb
  ·by_cases hr1 : r = 1000000
   ·subst hr1
    have : (e, q') = (e', q'') := by simpa [PS.r, asL, look_cons_self, show Nat.ble BIG 1000000 = false from rfl] using hr
    cases this
    exact .inl ⟨hn, by omega⟩
   ·exfalso
    have : PS.r ⟨[], [(1000000, some (e, q'))], []⟩ r = none := by
     unfold PS.r
     cases hb : Nat.ble BIG r with
     | true =>
      simp only [PS.inn]
      have : look [(1000000, some (e, q'))] (FK + unF r) = none := by rw [look_cons_ne (by have : FK = 8589934592 := rfl; omega)]; rfl
      rw [this]; rfl
     | false => simp only; rw [look_cons_ne (Ne.symm hr1)]; rfl
    have hr' : PS.r ⟨[], [(1000000, some (e, q'))], []⟩ r = some (e', q'') := hr
    rw [this] at hr'; cases hr'
  ·by_cases hr1 : r = 1000000
   ·subst hr1
    have hr' : PS.r ⟨[], [(1000000, some (e, q'))], []⟩ 1000000 = none := hr
    simp [PS.r, look_cons_self, show Nat.ble BIG 1000000 = false from rfl] at hr'
   ·exact hγ r hr1
  ·exact .tup [] #[] rfl (fun i d h => by simp at h)
 ·obtain ⟨_, ao, hv3, hao⟩ := hvr _ hg
  have hao' := hao (.inr rfl)
  subst hao'
  have hgs : g < w.heap.size := heap_lt hblk
  have hlen : q.len ≤ maxLen := Nat.le_trans hlc hcm
  rw [Nat.zero_mul] at hv3
  rw [hargs', hv3]
  have hsz : q.len * q.sz ≤ cur.size := by rw [hcs]; exact Nat.mul_le_mul_right _ hlc
  have hcq : ∀ t, t < q.len * q.sz → cur.getD t undef = cellsQ q t := fun t ht => cellsQ_read hq (f := fun t => cur.getD t undef) hcells ht
  refine (hL.some_ g (cap - 0) w (fun t ht => ?_) hgs hlen).mono ?_
  ·have h1 := hcq t ht
   have ht2 : t < cur.size := by omega
   rw [Array.getD_eq_getD_getElem?, Array.getElem?_eq_getElem ht2] at h1
   refine ⟨?_, by simp [World.frozen?, hblk]⟩
   simp only [World.cell?, hblk]
   simp only [Option.isSome_none, Bool.false_eq_true, if_false]
   rw [Array.getElem?_eq_getElem ht2]
   simpa using h1
  rintro x w' ⟨rfl, hP⟩
  obtain ⟨cur', hb', hs', hc'⟩ := hP.here _ _ _ hblk
  refine ⟨_, rfl, N, ⟨?_, hM.boxn, fun r e' q'' hr => ?_, fun r hr => ?_, hM.inj1, hM.inj2, hM.inj3⟩, fun _ => rfl, fun _ _ _ => rfl, fun k hk => .inl hk, hP.os, hP.tape, hP.output, hP.size, fun k hk hno => hP.else_ k hk fun e1 => hno (.inr ⟨1000000, cap, q.sz, by rw [hg, e1]⟩), ?_⟩
  ·intro b cs hb; cases hb
  ·by_cases hr1 : r = 1000000
   ·subst hr1
    have : (e, q') = (e', q'') := by simpa [PS.r, asL, look_cons_self, show Nat.ble BIG 1000000 = false from rfl] using hr
    cases this
    refine .inr ⟨g, cap, cur', by rw [hg, hz], hb', by omega, hcm, by rw [hs', hcs, hz], fun i j d hi hd => ?_⟩
    have hj : j < q'.sz := by
     cases q' <;> first | (cases hq'; done) | skip
     ·rcases j with _ | j <;> simp [Sq.relem, Sq.elem] at hd; simp [Sq.sz]
     ·rcases j with _ | _ | j <;> simp [Sq.relem, Sq.elem] at hd <;> simp [Sq.sz]
    have hin : i * q'.sz + j < q'.len * q'.sz := by
     have h5 := Nat.mul_le_mul_right q'.sz (show i + 1 ≤ q'.len from hi)
     rw [Nat.add_mul, Nat.one_mul] at h5; omega
    rw [hc' _ hin (by rw [hl, hz] at hin; rw [hz]; omega)]
    exact cellsQ_rel hq' hi hd
   ·exfalso
    have : PS.r ⟨[], [(1000000, some (e, q'))], []⟩ r = none := by
     unfold PS.r
     cases hb : Nat.ble BIG r with
     | true =>
      simp only [PS.inn]
      have : look [(1000000, some (e, q'))] (FK + unF r) = none := by rw [look_cons_ne (by have : FK = 8589934592 := rfl; omega)]; rfl
      rw [this]; rfl
     | false => simp only; rw [look_cons_ne (Ne.symm hr1)]; rfl
    have hr' : PS.r ⟨[], [(1000000, some (e, q'))], []⟩ r = some (e', q'') := hr
    rw [this] at hr'; cases hr'
  ·by_cases hr1 : r = 1000000
   ·subst hr1
    have hr' : PS.r ⟨[], [(1000000, some (e, q'))], []⟩ 1000000 = none := hr
    simp [PS.r, look_cons_self, show Nat.ble BIG 1000000 = false from rfl] at hr'
   ·exact hγ r hr1
  ·exact .tup [] #[] rfl (fun i d h => by simp at h)
end Go.Proofs.Ytmoamglpocjhgaa
namespace Go.Proofs.Ytmoamglpocjhgaa
open Go.RowKit Go.Deep Go.Sort Go.Shelf
def cmpZ (a b : Int) : Int := if a < b then -1 else if a > b then 1 else 0
def cmpB (x y : Int × Int) : Int := if cmpZ x.1 y.1 ≠ 0 then cmpZ x.1 y.1 else cmpZ x.2 y.2
def encB (x : Int × Int) : List Value := [.int .i64 x.1, .int .i64 x.2]
theorem ltB (x y : Int × Int) : ltOf cmpB x y = decide (x.1 < y.1 ∨ (x.1 = y.1 ∧ x.2 < y.2)) := by
 unfold ltOf cmpB cmpZ
 apply decide_eq_decide.2
 by_cases h1 : x.1 < y.1
 ·simp [h1]
 ·by_cases h2 : x.1 > y.1
  ·simp [h1, h2]; omega
  ·by_cases h3 : x.2 < y.2
   ·simp [h1, h2, h3]; omega
   ·by_cases h4 : x.2 > y.2
    ·simp [h1, h2, h3, h4]
    ·simp [h1, h2, h3, h4]
theorem swoB : SWO (ltOf cmpB) where
 irrefl x := by rw [ltB]; simp
 trans x y z h1 h2 := by rw [ltB] at *; simp at *; omega
 ntrans x y z h1 h2 := by rw [ltB] at *; simp at *; omega
theorem totB (x y : Int × Int) (h1 : ltOf cmpB x y = false) (h2 : ltOf cmpB y x = false) : x = y := by
 rw [ltB] at *; simp at *
 have e1 : x.1 = y.1 := by omega
 have e2 : x.2 = y.2 := by omega
 exact Prod.ext e1 e2
def layB_ren : Go.Shelf.Ren := ⟨fun | 6 => 103 | 15 => 116 | 14 => 115 | 28 => 139 | 29 => 140 | 20 => 131 | 21 => 132 | 22 => 133 | 23 => 134 | 24 => 135 | 25 => 136 | 26 => 137 | 27 => 138 | 46 => 152 | 47 => 153 | 48 => 154 | 49 => 155 | 50 => 156 | 57 => 166 | n => n, fun | 22 => 32 | 24 => 97 | 25 => 111 | 3 => 3 | 39 => 115 | 0 => 0 | 53 => 131 | 55 => 133 | 4 => 4 | 46 => 124 | 45 => 123 | 50 => 128 | 5 => 5 | 9 => 9 | 66 => 142 | 70 => 146 | 76 => 154 | 77 => 155 | n => n, fun | n => n⟩
theorem layB : Go.Proofs.SlLaysF0.n6 Try.prog layB_ren := {
 mixed := by kernel_rfl
 f6 := ⟨Try.f103.name, by decide, Try.func103.trans (congrArg some (by kernel_rfl))⟩
 f14 := ⟨Try.f115.name, by decide, Try.func115.trans (congrArg some (by kernel_rfl))⟩
 f15 := Try.func116.trans (congrArg some (by kernel_rfl))
 f20 := ⟨Try.f131.name, by decide, Try.func131.trans (congrArg some (by kernel_rfl))⟩
 f21 := ⟨Try.f132.name, by decide, Try.func132.trans (congrArg some (by kernel_rfl))⟩
 f22 := ⟨Try.f133.name, by decide, Try.func133.trans (congrArg some (by kernel_rfl))⟩
 f23 := ⟨Try.f134.name, by decide, Try.func134.trans (congrArg some (by kernel_rfl))⟩
 f24 := ⟨Try.f135.name, by decide, Try.func135.trans (congrArg some (by kernel_rfl))⟩
 f25 := ⟨Try.f136.name, by decide, Try.func136.trans (congrArg some (by kernel_rfl))⟩
 f26 := ⟨Try.f137.name, by decide, Try.func137.trans (congrArg some (by kernel_rfl))⟩
 f27 := ⟨Try.f138.name, by decide, Try.func138.trans (congrArg some (by kernel_rfl))⟩
 f28 := Try.func139.trans (congrArg some (by kernel_rfl))
 f29 := Try.func140.trans (congrArg some (by kernel_rfl))
 f46 := ⟨Try.f152.name, by decide, Try.func152.trans (congrArg some (by kernel_rfl))⟩
 f47 := Try.func153.trans (congrArg some (by kernel_rfl))
 f48 := Try.func154.trans (congrArg some (by kernel_rfl))
 f49 := ⟨Try.f155.name, by decide, Try.func155.trans (congrArg some (by kernel_rfl))⟩
 f50 := ⟨Try.f156.name, by decide, Try.func156.trans (congrArg some (by kernel_rfl))⟩
 f57 := ⟨Try.f166.name, by decide, Try.func166.trans (congrArg some (by kernel_rfl))⟩
 t0 := Try.underlying0
 a0 := Try.isAgg0
 z0 := Try.sizeOf0
 v0 := Try.zeroValue0
 t3 := Try.underlying3
 a3 := Try.isAgg3
 z3 := Try.sizeOf3
 v3 := Try.zeroValue3
 t4 := Try.underlying4
 a4 := Try.isAgg4
 z4 := Try.sizeOf4
 v4 := Try.zeroValue4
 t5 := Try.underlying5
 a5 := Try.isAgg5
 z5 := Try.sizeOf5
 v5 := Try.zeroValue5
 t9 := Try.underlying9
 a9 := Try.isAgg9
 z9 := Try.sizeOf9
 v9 := Try.zeroValue9
 t22 := Try.underlying32
 a22 := Try.isAgg32
 z22 := Try.sizeOf32
 v22 := Try.zeroValue32
 t25 := Try.underlying111
 a25 := Try.isAgg111
 z25 := Try.sizeOf111
 v25 := Try.zeroValue111
 t39 := Try.underlying115
 a39 := Try.isAgg115
 z39 := Try.sizeOf115
 v39 := Try.zeroValue115
 t45 := Try.underlying123
 a45 := Try.isAgg123
 z45 := Try.sizeOf123
 v45 := Try.zeroValue123
 t46 := Try.underlying124
 a46 := Try.isAgg124
 z46 := Try.sizeOf124
 v46 := Try.zeroValue124
 t50 := Try.underlying128
 a50 := Try.isAgg128
 z50 := Try.sizeOf128
 v50 := Try.zeroValue128
 t53 := Try.underlying131
 a53 := Try.isAgg131
 z53 := Try.sizeOf131
 v53 := Try.zeroValue131
 t55 := Try.underlying133
 a55 := Try.isAgg133
 z55 := Try.sizeOf133
 v55 := Try.zeroValue133
 t66 := Try.underlying142
 a66 := Try.isAgg142
 z66 := Try.sizeOf142
 v66 := Try.zeroValue142
 t70 := Try.underlying146
 a70 := Try.isAgg146
 z70 := Try.sizeOf146
 v70 := Try.zeroValue146
 t76 := Try.underlying154
 a76 := Try.isAgg154
 z76 := Try.sizeOf154
 v76 := Try.zeroValue154
 t77 := Try.underlying155
 a77 := Try.isAgg155
 z77 := Try.sizeOf155
 v77 := Try.zeroValue155 }
set_option maxHeartbeats 1000000 in
theorem cmpInts_c (x y : Int) (W : World) : Calls Try.prog 117 #[.int .i64 x, .int .i64 y] W fun e w' => e = .returned (.int .i64 (cmpZ x y)) ∧ w' = W := by
 unfold cmpZ
 go_enter Try.func117, Try.ntmps117
 go_wp2
 all_goals (go_ret; exact ⟨rfl, rfl⟩)
set_option maxHeartbeats 1000000 in
theorem cmpBars_c (x y : Int × Int) (W : World) : Calls Try.prog 104 #[.agg #[.int .i64 x.1, .int .i64 x.2], .agg #[.int .i64 y.1, .int .i64 y.2]] W fun e w' => e = .returned (.int .i64 (cmpB x y)) ∧ ∃ q os', w' = grow (W.drewN q) os' := by
 have hcon := fun a b W' => cmpInts_c a b W'
 unfold cmpB
 generalize cmpZ = Z at hcon ⊢
 go_enter Try.func104, Try.ntmps104
 go_wp2_with (go_at_call 117; refine (hcon _ _ _).mono ?_; rintro e w' ⟨rfl, rfl⟩)
 all_goals first
  | (go_ret; exact ⟨rfl, 0, _, by rw [alloc_eq_grow, alloc_eq_grow, grow_grow]; rfl⟩)
  | (exfalso; simp_all; done)
def srtB (l : List (Int × Int)) : List (Int × Int) := l.mergeSort fun x y => !(ltOf cmpB) y x
theorem srtB_len (l : List (Int × Int)) : (srtB l).length = l.length := by simp [srtB]
def G_SortFunc_Bar (N : Nat) (a_0 : List (Int × Int)) : Option (List (Int × Int)) :=
 grd (a_0.length < 4611686018427387904) (some (srtB a_0))
theorem flatB (l : List (Int × Int)) {t : Nat} (ht : t < l.length * 2) : (flatK encB 2 l.toArray)[t]! = cellsQ (.pairs l) t := by
 have h1 : t / 2 < l.length := by omega
 rw [get_flatK encB 2 l.toArray t (by simpa using ht)]
 have e : l.toArray[t / 2]! = l.getD (t / 2) (0, 0) := by
  rw [getElem!_pos l.toArray (t / 2) (by simpa using h1), List.getD_eq_getElem?_getD, List.getElem?_eq_getElem h1]; rfl
 rw [e]
 rcases (by omega : t % 2 = 0 ∨ t % 2 = 1) with h | h <;> rw [h] <;> simp [cellsQ, encB, h]
theorem lays_bars (l : List (Int × Int)) (hl2 : l.length < 4611686018427387904) : Lays1 Try.prog 103 [.func (.func 104) #[] #[]] (.pairs l) (.pairs (srtB l)) := by
 refine ⟨fun blk cap w hc hb hl => ?_, fun h p cap w => ?_⟩
 ·have hH : HoldsK encB 2 w blk 0 l.toArray := fun j hj => by
   have hj' : j < l.length * 2 := by simpa using hj
   have := hc j hj'
   simp only [Nat.zero_add]
   refine ⟨?_, this.2⟩
   rw [this.1, ← flatB l hj']; rfl
  have hcon := AnyQ.slices_SortFunc_total layB 2 Try.isAgg97 Try.sizeOf97 encB (fun _ => rfl) (fun x v hv => by simp [encB] at hv; rcases hv with rfl | rfl <;> rfl) cmpB swoB 104 #[] blk 0 cap l.toArray w (enters_of Try.func104 (by kernel_rfl) rfl) (fun _ _ _ _ x y => cmpBars_c x y _) hH hb (by simpa using hl2) totB
  refine hcon.mono ?_
  rintro e w' ⟨rfl, n, os, rfl⟩
  refine ⟨rfl, ?_⟩
  have h := rowPut_of (enc := id) (w := w) (blk := blk) (n := n) (d := flatK encB 2 (srtB l).toArray) (os := os)
  refine h.to (by simp [Sq.len, Sq.sz]) fun t ht => ?_
  have ht' : t < (srtB l).length * 2 := by simpa using ht
  exact flatB (srtB l) ht'
 ·have := AnyF.slices_SortFunc_none { layB with } p cap (.func (.func 104) #[] #[]) w
  exact this
theorem G_SortFunc_Bar_w (N : Nat) (a_0 : List (Int × Int)) (r : List (Int × Int)) (h : G_SortFunc_Bar N a_0 = some r) : MCall Try.prog 103 [.row 1000000 0 a_0.length, .val (.func (.func 104) #[] #[])] [1000000] [] [(97, .pairs a_0)] [(97, .pairs r)] [] [] (.tup []) := by
 obtain ⟨h2, h⟩ := grd_inv h
 cases h
 exact mcall_lays (q := .pairs a_0) (q' := .pairs (srtB a_0)) (ds := [.val (.func (.func 104) #[] #[])]) (vs := [.func (.func 104) #[] #[]]) (enters_of Try.func103 (by kernel_rfl) rfl) rfl rfl (by show (srtB a_0).length = a_0.length; rw [srtB_len]) rfl rfl (fun M A w i d v h hv => by
  rcases i with _ | i
  ·simp at h; subst h; cases hv; rfl
  ·simp at h) (lays_bars a_0 h2)
end Go.Proofs.Ytmoamglpocjhgaa
namespace Go.Proofs.Ytmoamglpocjhgaa
open Go.RowKit
end Go.Proofs.Ytmoamglpocjhgaa
namespace Go.Proofs.Ytmoamglpocjhgaa
open Go.RowKit
end Go.Proofs.Ytmoamglpocjhgaa
namespace Go.Proofs.Ytmoamglpocjhgaa
open Go.RowKit Go.Deep
section
variable {M M' : Mp} {A A' : Bool → Nat → Prop} {w w' : World} {r : Nat} {s : PS}
end
def lone (s : PS) (R F : Nat) : Bool := s.row.all fun p => Nat.beq p.1 R || (match s.r p.1 with | some (_, q) => (match q.refF with | some G => !Nat.beq G F && Nat.blt G 4294967296 | none => true) | none => true)
section
variable {w0 : World} {O0 : Hd} {n : Nat} {M : Mp} {s : PS} {a : Act} {w : World}
end
end Go.Proofs.Ytmoamglpocjhgaa
namespace Go.Proofs.Ytmoamglpocjhgaa
open Go.RowKit Go.Deep
section
variable {w0 : World} {O0 : Hd} {n : Nat} {M : Mp} {s : PS} {a : Act} {w : World}
end
end Go.Proofs.Ytmoamglpocjhgaa
namespace Go.Proofs.Ytmoamglpocjhgaa
open Go.RowKit Go.Deep
section
variable {C : Cx} {tm : List (Nat × D)} {rw' : List (Nat × Option (TypeId × Sq))} {bx : List (Nat × Option (List D))} {s' : PS}
end
end Go.Proofs.Ytmoamglpocjhgaa
namespace Go.Proofs.Ytmoamglpocjhgaa
open Go.RowKit Go.Deep
section
variable {C : Cx} {tm : List (Nat × D)} {rw' : List (Nat × Option (TypeId × Sq))} {bx : List (Nat × Option (List D))} {s' : PS}
end
end Go.Proofs.Ytmoamglpocjhgaa
namespace Go.Proofs.Ytmoamglpocjhgaa
open Go.RowKit Go.Deep
section
variable {w0 : World} {O0 : Hd} {n : Nat} {M : Mp} {s : PS} {a : Act} {w : World}
end
section
variable {C : Cx} {ops : Array Oper} {K : PS → Prop} {o : Oper} {rest : List Oper} {s : PS} {TT : List (Nat × Ty)} {tm : List (Nat × D)} {rw' : List (Nat × Option (TypeId × Sq))} {bx : List (Nat × Option (List D))}
end
end Go.Proofs.Ytmoamglpocjhgaa
namespace Go.Proofs.Ytmoamglpocjhgaa
open Go.RowKit Go.Deep
section
variable {P : Program} {w0 : World} {O0 : Hd} {n : Nat} {M : Mp} {s : PS} {a : Act} {w w' : World}
end
section
variable {C : Cx} {ops : Array Oper} {K : PS → Prop} {o : Oper} {rest : List Oper} {s : PS} {TT : List (Nat × Ty)} {tm : List (Nat × D)} {rw' : List (Nat × Option (TypeId × Sq))} {bx : List (Nat × Option (List D))} {cr B : List Nat} {j : Nat}
end
end Go.Proofs.Ytmoamglpocjhgaa
namespace Go.Proofs.Ytmoamglpocjhgaa
open Go.RowKit Go.Deep
section
variable {C : Cx} {ops : Array Oper} {K : PS → Prop} {o : Oper} {rest : List Oper} {s : PS} {TT : List (Nat × Ty)} {tm : List (Nat × D)} {rw' : List (Nat × Option (TypeId × Sq))} {bx : List (Nat × Option (List D))}
end
end Go.Proofs.Ytmoamglpocjhgaa
namespace Go.Proofs.Ytmoamglpocjhgaa
open Go.RowKit Go.Deep
section
variable {C : Cx} {ops : Array Oper} {K : PS → Prop} {o : Oper} {rest : List Oper} {s s' : PS} {TT : List (Nat × Ty)} {tm : List (Nat × D)} {rw' : List (Nat × Option (TypeId × Sq))} {bx : List (Nat × Option (List D))}
end
end Go.Proofs.Ytmoamglpocjhgaa
namespace Go.Proofs.Ytmoamglpocjhgaa
open Go.RowKit Go.Deep
end Go.Proofs.Ytmoamglpocjhgaa
namespace Go.Proofs.Ytmoamglpocjhgaa
open Go.RowKit Go.Deep
section
variable {C : Cx} {ops : Array Oper} {K : PS → Prop} {o : Oper} {rest : List Oper} {s : PS} {TT : List (Nat × Ty)} {tm : List (Nat × D)} {rw' : List (Nat × Option (TypeId × Sq))} {bx : List (Nat × Option (List D))} {cr B : List Nat} {j : Nat}
end
end Go.Proofs.Ytmoamglpocjhgaa
namespace Go.Proofs.Ytmoamglpocjhgaa
open Go.RowKit Go.Deep
section
variable {C : Cx} {tm : List (Nat × D)} {rw' : List (Nat × Option (TypeId × Sq))} {bx : List (Nat × Option (List D))} {s' : PS}
end
section
variable {C : Cx} {ops : Array Oper} {K : PS → Prop} {o : Oper} {rest : List Oper} {s : PS} {TT : List (Nat × Ty)} {tm : List (Nat × D)} {rw' : List (Nat × Option (TypeId × Sq))} {bx : List (Nat × Option (List D))}
end
end Go.Proofs.Ytmoamglpocjhgaa
namespace Go.Proofs.Ytmoamglpocjhgaa
open Go.RowKit Go.Deep
section
variable {C : Cx} {ops : Array Oper} {K : PS → Prop} {o : Oper} {rest : List Oper} {TT : List (Nat × Ty)} {tm : List (Nat × D)} {rw' : List (Nat × Option (TypeId × Sq))} {bx : List (Nat × Option (List D))} {cr B : List Nat} {j : Nat}
end
end Go.Proofs.Ytmoamglpocjhgaa
namespace Go.Proofs.Ytmoamglpocjhgaa
open Go.RowKit Go.Deep
end Go.Proofs.Ytmoamglpocjhgaa
namespace Go.Proofs.Ytmoamglpocjhgaa
open Go.RowKit
end Go.Proofs.Ytmoamglpocjhgaa
namespace Go.Proofs.Ytmoamglpocjhgaa
open Go.RowKit
end Go.Proofs.Ytmoamglpocjhgaa
namespace Go.Proofs.Ytmoamglpocjhgaa
open Go.RowKit
def I_CountBar_l1 (N : Nat) (g_0 : Grf) (a_1 : Int) (b_2 : Int) (k : Int → Option (Int)) : Nat → (Int × Int) → Option (Int)
 | 0, _ => none
 | n + 1, (n5, x6) =>
  cnd (decide (x6 < (g_0.bars.length : Int))) (
   grd (0 ≤ x6 ∧ x6 < (g_0.bars.length : Int)) <|
   cnd (((g_0.bars.getD ((x6).toNat) (0, 0)).1) == a_1) (
    cnd (((g_0.bars.getD ((x6).toNat) (0, 0)).2) == b_2) (
     grd (Rg64 (n5 + (1 : Int))) <|
     grd (Rg64 (x6 + (1 : Int))) <|
     I_CountBar_l1 N g_0 a_1 b_2 k n ((n5 + (1 : Int)), (x6 + (1 : Int)))) (
     cnd (((g_0.bars.getD ((x6).toNat) (0, 0)).1) == b_2) (
      cnd (((g_0.bars.getD ((x6).toNat) (0, 0)).2) == a_1) (
       grd (Rg64 (n5 + (1 : Int))) <|
       grd (Rg64 (x6 + (1 : Int))) <|
       I_CountBar_l1 N g_0 a_1 b_2 k n ((n5 + (1 : Int)), (x6 + (1 : Int)))) (
       grd (Rg64 (x6 + (1 : Int))) <|
       I_CountBar_l1 N g_0 a_1 b_2 k n (n5, (x6 + (1 : Int))))) (
      grd (Rg64 (x6 + (1 : Int))) <|
      I_CountBar_l1 N g_0 a_1 b_2 k n (n5, (x6 + (1 : Int)))))) (
    cnd (((g_0.bars.getD ((x6).toNat) (0, 0)).1) == b_2) (
     cnd (((g_0.bars.getD ((x6).toNat) (0, 0)).2) == a_1) (
      grd (Rg64 (n5 + (1 : Int))) <|
      grd (Rg64 (x6 + (1 : Int))) <|
      I_CountBar_l1 N g_0 a_1 b_2 k n ((n5 + (1 : Int)), (x6 + (1 : Int)))) (
      grd (Rg64 (x6 + (1 : Int))) <|
      I_CountBar_l1 N g_0 a_1 b_2 k n (n5, (x6 + (1 : Int))))) (
     grd (Rg64 (x6 + (1 : Int))) <|
     I_CountBar_l1 N g_0 a_1 b_2 k n (n5, (x6 + (1 : Int)))))) (
   k n5)
def I_CountBar (N : Nat) (g_0 : Grf) (a_1 : Int) (b_2 : Int) : Option (Int) :=
 I_CountBar_l1 N g_0 a_1 b_2 (fun (n3 : Int) =>
    some n3) N ((0 : Int), (0 : Int))
set_option maxRecDepth 20000 in
set_option maxHeartbeats 1600000 in
theorem I_CountBar_w (N : Nat) (g_0 : Grf) (a_1 : Int) (b_2 : Int) (r : Int) (h : I_CountBar N g_0 a_1 b_2 = some r) : PCall Try.prog 77 [gD g_0, .int a_1, .int b_2] [] (.int r) := by
 unfold I_CountBar at h
 refine pcall_intro (TT := TT) tt Try.func77 rfl rfl Try.ntmps77 (congrArg Array.toList Try.results77) rfl rfl fun w0 => ?_
 refine vSeq ?_
 refine vRegion ?_
 refine oBox rfl rfl rfl rfl rfl rfl rfl rfl rfl ?_
 refine oVal tt rfl rfl rfl rfl rfl trivial ?_
 refine vNil ?_
 change VC _ _ _ _
 refine vSeq ?_
 refine vRegion ?_
 refine oVal tt rfl rfl rfl rfl rfl trivial ?_
 refine vNil ?_
 change VC _ _ _ _
 iterate 2 refine vSeq ?_
 refine vRegion ?_
 iterate 4 refine oVal tt rfl rfl rfl rfl rfl trivial ?_
 refine vNil ?_
 change VC _ _ _ _
 refine vJoin (F := fun k => I_CountBar_l1 N g_0 a_1 b_2 k) h (α := Int) (J := fun (n3 : Int) => (⟨[(7, .int n3)], [], []⟩ : PS)) ?_ ?_
 ·rintro n3 h
  show VC _ _ _ (⟨[(7, .int n3)], [], []⟩ : PS)
  refine vSeq ?_
  refine vRegion ?_
  iterate 2 refine oVal tt rfl rfl rfl rfl rfl trivial ?_
  refine vNil ?_
  change VC _ _ _ _
  refine vRet ?_
  change ∃ _, _
  cases h
  exact ⟨[], _, rfl, trivial, rfl, (.eq rfl), rfl⟩
 ·intro k h
  refine vBlock ?_
  refine vLoopS (α := Int × Int) (fun | (n5, x6) => (⟨[(1, .int a_1), (2, .int b_2), (7, .int n5), (11, .ro false (.pairs g_0.bars)), (12, .int (g_0.bars.length : Int)), (13, .int x6)], [], []⟩ : PS)) (I_CountBar_l1 N g_0 a_1 b_2 k) h (En.of ⟨rfl, rfl, rfl, rfl, rfl, rfl, trivial⟩ trivial trivial) (fun _ => rfl) ?_
  rintro n ⟨n5, x6⟩ h
  rw [I_CountBar_l1] at h
  show VC _ _ _ (⟨[(1, .int a_1), (2, .int b_2), (7, .int n5), (11, .ro false (.pairs g_0.bars)), (12, .int (g_0.bars.length : Int)), (13, .int x6)], [], []⟩ : PS)
  refine vSeq ?_
  refine vRegion ?_
  refine oVal tt rfl rfl rfl rfl rfl trivial ?_
  refine vNil ?_
  change VC _ _ _ _
  refine vSeq ?_
  refine vCond rfl (fun hb1 => ?_) (fun hb1 => ?_)
  ·replace h := cnd_t hb1 h
   refine vSkip ?_
   change VC _ _ _ _
   refine vSeq ?_
   refine vBlock ?_
   refine vSeq ?_
   refine vRegion ?_
   obtain ⟨hg2, h⟩ := grd_inv h
   refine oVal tt rfl rfl rfl rfl rfl hg2 ?_
   refine oVal tt rfl rfl rfl rfl rfl trivial ?_
   refine oAlloc tt rfl rfl rfl rfl rfl rfl rfl rfl rfl ?_
   refine oStore tt rfl rfl rfl rfl rfl rfl rfl rfl rfl rfl rfl ⟨trivial, trivial, trivial⟩ ?_
   refine vNil ?_
   change VC _ _ _ _
   refine vSeq ?_
   refine vRegion ?_
   iterate 5 refine oVal tt rfl rfl rfl rfl rfl trivial ?_
   refine oSplit rfl rfl rfl (fun hb3 => ?_) (fun hb3 => ?_)
   ·replace h := cnd_t hb3 h
    iterate 4 refine oValG tt rfl rfl rfl rfl rfl hb3 rfl rfl rfl trivial ?_
    refine oPick rfl rfl rfl rfl rfl hb3 rfl ?_
    refine oVal tt rfl rfl rfl rfl rfl trivial ?_
    refine oSplit rfl rfl rfl (fun hb4 => ?_) (fun hb4 => ?_)
    ·replace h := cnd_t hb4 h
     iterate 5 refine oNoF rfl rfl rfl rfl hb4 rfl rfl ?_
     iterate 4 refine oNoU rfl rfl rfl rfl rfl ?_
     refine oNoF rfl rfl rfl rfl hb4 rfl rfl ?_
     refine oPick rfl rfl rfl rfl rfl hb4 rfl ?_
     refine vNil ?_
     change VC _ _ _ _
     refine vCondT rfl rfl ?_
     refine vRegion ?_
     refine oVal tt rfl rfl rfl rfl rfl trivial ?_
     obtain ⟨hg5, h⟩ := grd_inv h
     refine oVal tt rfl rfl rfl rfl rfl hg5 ?_
     refine oVal tt rfl rfl rfl rfl rfl trivial ?_
     refine vNil ?_
     change VC _ _ _ _
     refine vRegion ?_
     obtain ⟨hg6, h⟩ := grd_inv h
     refine oVal tt rfl rfl rfl rfl rfl hg6 ?_
     refine oVal tt rfl rfl rfl rfl rfl trivial ?_
     refine vNil ?_
     change ∃ _, _
     exact ⟨((n5 + (1 : Int)), (x6 + (1 : Int))), (En.of ⟨rfl, rfl, rfl, rfl, rfl, rfl, trivial⟩ trivial trivial), h⟩
    ·replace h := cnd_f hb4 h
     iterate 5 refine oValG tt rfl rfl rfl rfl rfl hb4 rfl rfl rfl trivial ?_
     refine oSplit rfl rfl rfl (fun hb7 => ?_) (fun hb7 => ?_)
     ·replace h := cnd_t hb7 h
      iterate 4 refine oValG tt rfl rfl rfl rfl rfl hb7 rfl rfl rfl trivial ?_
      refine oPickGT rfl rfl rfl rfl hb4 rfl rfl rfl rfl hb7 rfl ?_
      refine oPickF rfl rfl rfl rfl rfl hb4 rfl ?_
      refine vNil ?_
      change VC _ _ _ _
      refine vCond rfl (fun hb8 => ?_) (fun hb8 => ?_)
      ·replace h := cnd_t hb8 h
       refine vRegion ?_
       refine oVal tt rfl rfl rfl rfl rfl trivial ?_
       obtain ⟨hg9, h⟩ := grd_inv h
       refine oVal tt rfl rfl rfl rfl rfl hg9 ?_
       refine oVal tt rfl rfl rfl rfl rfl trivial ?_
       refine vNil ?_
       change VC _ _ _ _
       refine vRegion ?_
       obtain ⟨hg10, h⟩ := grd_inv h
       refine oVal tt rfl rfl rfl rfl rfl hg10 ?_
       refine oVal tt rfl rfl rfl rfl rfl trivial ?_
       refine vNil ?_
       change ∃ _, _
       exact ⟨((n5 + (1 : Int)), (x6 + (1 : Int))), (En.of ⟨rfl, rfl, rfl, rfl, rfl, rfl, trivial⟩ trivial trivial), h⟩
      ·replace h := cnd_f hb8 h
       refine vSkip ?_
       change VC _ _ _ _
       refine vRegion ?_
       obtain ⟨hg11, h⟩ := grd_inv h
       refine oVal tt rfl rfl rfl rfl rfl hg11 ?_
       refine oVal tt rfl rfl rfl rfl rfl trivial ?_
       refine vNil ?_
       change ∃ _, _
       exact ⟨(n5, (x6 + (1 : Int))), (En.of ⟨rfl, rfl, rfl, rfl, rfl, rfl, trivial⟩ trivial trivial), h⟩
     ·replace h := cnd_f hb7 h
      iterate 4 refine oNoT rfl rfl rfl rfl hb7 rfl rfl ?_
      refine oPickGF rfl rfl rfl rfl hb4 rfl rfl rfl rfl hb7 rfl ?_
      refine oPickF rfl rfl rfl rfl rfl hb4 rfl ?_
      refine vNil ?_
      change VC _ _ _ _
      refine vCondF rfl rfl ?_
      refine vSkip ?_
      change VC _ _ _ _
      refine vRegion ?_
      obtain ⟨hg12, h⟩ := grd_inv h
      refine oVal tt rfl rfl rfl rfl rfl hg12 ?_
      refine oVal tt rfl rfl rfl rfl rfl trivial ?_
      refine vNil ?_
      change ∃ _, _
      exact ⟨(n5, (x6 + (1 : Int))), (En.of ⟨rfl, rfl, rfl, rfl, rfl, rfl, trivial⟩ trivial trivial), h⟩
   ·replace h := cnd_f hb3 h
    iterate 4 refine oNoT rfl rfl rfl rfl hb3 rfl rfl ?_
    refine oPickF rfl rfl rfl rfl rfl hb3 rfl ?_
    refine oVal tt rfl rfl rfl rfl rfl trivial ?_
    iterate 5 refine oValG tt rfl rfl rfl rfl rfl rfl rfl rfl rfl trivial ?_
    refine oSplit rfl rfl rfl (fun hb13 => ?_) (fun hb13 => ?_)
    ·replace h := cnd_t hb13 h
     iterate 4 refine oValG tt rfl rfl rfl rfl rfl hb13 rfl rfl rfl trivial ?_
     refine oPickGT rfl rfl rfl rfl rfl rfl rfl rfl rfl hb13 rfl ?_
     refine oPickF rfl rfl rfl rfl rfl rfl rfl ?_
     refine vNil ?_
     change VC _ _ _ _
     refine vCond rfl (fun hb14 => ?_) (fun hb14 => ?_)
     ·replace h := cnd_t hb14 h
      refine vRegion ?_
      refine oVal tt rfl rfl rfl rfl rfl trivial ?_
      obtain ⟨hg15, h⟩ := grd_inv h
      refine oVal tt rfl rfl rfl rfl rfl hg15 ?_
      refine oVal tt rfl rfl rfl rfl rfl trivial ?_
      refine vNil ?_
      change VC _ _ _ _
      refine vRegion ?_
      obtain ⟨hg16, h⟩ := grd_inv h
      refine oVal tt rfl rfl rfl rfl rfl hg16 ?_
      refine oVal tt rfl rfl rfl rfl rfl trivial ?_
      refine vNil ?_
      change ∃ _, _
      exact ⟨((n5 + (1 : Int)), (x6 + (1 : Int))), (En.of ⟨rfl, rfl, rfl, rfl, rfl, rfl, trivial⟩ trivial trivial), h⟩
     ·replace h := cnd_f hb14 h
      refine vSkip ?_
      change VC _ _ _ _
      refine vRegion ?_
      obtain ⟨hg17, h⟩ := grd_inv h
      refine oVal tt rfl rfl rfl rfl rfl hg17 ?_
      refine oVal tt rfl rfl rfl rfl rfl trivial ?_
      refine vNil ?_
      change ∃ _, _
      exact ⟨(n5, (x6 + (1 : Int))), (En.of ⟨rfl, rfl, rfl, rfl, rfl, rfl, trivial⟩ trivial trivial), h⟩
    ·replace h := cnd_f hb13 h
     iterate 4 refine oNoT rfl rfl rfl rfl hb13 rfl rfl ?_
     refine oPickGF rfl rfl rfl rfl rfl rfl rfl rfl rfl hb13 rfl ?_
     refine oPickF rfl rfl rfl rfl rfl rfl rfl ?_
     refine vNil ?_
     change VC _ _ _ _
     refine vCondF rfl rfl ?_
     refine vSkip ?_
     change VC _ _ _ _
     refine vRegion ?_
     obtain ⟨hg18, h⟩ := grd_inv h
     refine oVal tt rfl rfl rfl rfl rfl hg18 ?_
     refine oVal tt rfl rfl rfl rfl rfl trivial ?_
     refine vNil ?_
     change ∃ _, _
     exact ⟨(n5, (x6 + (1 : Int))), (En.of ⟨rfl, rfl, rfl, rfl, rfl, rfl, trivial⟩ trivial trivial), h⟩
  ·replace h := cnd_f hb1 h
   refine vExit ?_
   change ∃ _, _
   exact ⟨n5, (En.of ⟨rfl, trivial⟩ trivial trivial), h⟩
end Go.Proofs.Ytmoamglpocjhgaa
namespace Go.Proofs.Ytmoamglpocjhgaa
open Go.RowKit
def I_withBars (N : Nat) (g_0 : Grf) (l_1 : List (Int × Int)) : Option (Grf) :=
 (I_copyGraph N g_0).bind fun v1 =>
 grd (v1.bars.length + l_1.length ≤ 4294967296) <|
 (G_SortFunc_Bar N (v1.bars ++ l_1)).bind fun v2 =>
 grd ((v1.bars ++ l_1).length = v2.length) <|
 some (⟨v1.n, v2⟩ : Grf)
set_option maxRecDepth 20000 in
set_option maxHeartbeats 1600000 in
theorem I_withBars_w (N : Nat) (g_0 : Grf) (l_1 : List (Int × Int)) (r : Grf) (h : I_withBars N g_0 l_1 = some r) : PCall Try.prog 78 [gD g_0, .ro false (.pairs l_1)] [(97, .pairs r.bars)] (.agg [.int r.n, .row 0 0 r.bars.length]) := by
 unfold I_withBars at h
 refine pcall_intro (TT := TT) tt Try.func78 rfl rfl Try.ntmps78 (congrArg Array.toList Try.results78) rfl rfl fun w0 => ?_
 refine vSeq ?_
 refine vRegion ?_
 refine oBox rfl rfl rfl rfl rfl rfl rfl rfl rfl ?_
 refine oAlloc tt rfl rfl rfl rfl rfl rfl rfl rfl rfl ?_
 refine vNil ?_
 change VC _ _ _ _
 refine vSeq ?_
 refine vRegion ?_
 refine oVal tt rfl rfl rfl rfl rfl trivial ?_
 obtain ⟨v1, hc1, h⟩ := bind_inv h
 refine oCall (I_copyGraph_w N g_0 v1 hc1) rfl rfl rfl rfl rfl rfl rfl rfl ⟨⟨rfl, rfl, trivial⟩, trivial⟩ ?_
 refine oAlloc tt rfl rfl rfl rfl rfl rfl rfl rfl rfl ?_
 refine oStore tt rfl rfl rfl rfl rfl rfl rfl rfl rfl rfl rfl ⟨trivial, trivial, trivial⟩ ?_
 refine vNil ?_
 change VC _ _ _ _
 refine vSeq ?_
 refine vRegion ?_
 iterate 3 refine oVal tt rfl rfl rfl rfl rfl trivial ?_
 obtain ⟨hg2, h⟩ := grd_inv h
 refine oAppend tt rfl rfl rfl rfl rfl rfl rfl rfl rfl rfl rfl rfl rfl rfl rfl rfl trivial hg2 ?_
 refine oVal tt rfl rfl rfl rfl rfl trivial ?_
 refine oStore tt rfl rfl rfl rfl rfl rfl rfl rfl rfl rfl rfl ⟨trivial, trivial⟩ ?_
 refine vNil ?_
 change VC _ _ _ _
 refine vSeq ?_
 refine vRegion ?_
 iterate 2 refine oVal tt rfl rfl rfl rfl rfl trivial ?_
 obtain ⟨v2, hc3, h⟩ := bind_inv h
 refine oMCall (G_SortFunc_Bar_w N (v1.bars ++ l_1) v2 hc3) [1070] [] [1070] rfl rfl rfl rfl rfl rfl ⟨rfl, trivial⟩ trivial ⟨⟨rfl, rfl⟩, ⟨rfl, rfl⟩, trivial⟩ ?_
 refine vNil ?_
 change VC _ _ _ _
 refine vSeq ?_
 refine vRegion ?_
 refine oVal tt rfl rfl rfl rfl rfl trivial ?_
 refine oStore tt rfl rfl rfl rfl rfl rfl rfl rfl rfl rfl rfl ⟨trivial, trivial, trivial⟩ ?_
 refine vNil ?_
 change VC _ _ _ _
 obtain ⟨hg4, h⟩ := grd_inv h
 refine vRet ?_
 change ∃ _, _
 cases h
 exact ⟨[1070], _, rfl, ⟨rfl, trivial⟩, rfl, (.eq (by simp only [hg4]; rfl)), rfl⟩
def I_AnchoredGraph_l2 (N : Nat) (g_0 : Grf) (anchors_1 : List Int) (x119 : Int) (k : ((List (Int × Int)) × Int) → Option (Grf × Bool)) : Nat → ((List (Int × Int)) × Int × Int) → Option (Grf × Bool)
 | 0, _ => none
 | n + 1, (l166, x167, c168) =>
  cnd (decide (x167 < (((anchors_1.take anchors_1.length).drop (((x119 + (1 : Int))).toNat)).length : Int))) (
   grd (0 ≤ x167 ∧ x167 < (((anchors_1.take anchors_1.length).drop (((x119 + (1 : Int))).toNat)).length : Int)) <|
   (I_CountBar N g_0 (anchors_1.getD ((x119).toNat) 0) (((anchors_1.take anchors_1.length).drop (((x119 + (1 : Int))).toNat)).getD ((x167).toNat) 0)).bind fun v172 =>
   cnd (v172 == (0 : Int)) (
    (I_bar N (anchors_1.getD ((x119).toNat) 0) (((anchors_1.take anchors_1.length).drop (((x119 + (1 : Int))).toNat)).getD ((x167).toNat) 0)).bind fun v173 =>
    (I_withBars N (⟨c168, l166⟩ : Grf) ([(v173.1, v173.2)] : List (Int × Int))).bind fun v174 =>
    grd (Rg64 (x167 + (1 : Int))) <|
    I_AnchoredGraph_l2 N g_0 anchors_1 x119 k n (v174.bars, (x167 + (1 : Int)), v174.n)) (
    grd (Rg64 (x167 + (1 : Int))) <|
    I_AnchoredGraph_l2 N g_0 anchors_1 x119 k n (l166, (x167 + (1 : Int)), c168))) (
   k (l166, c168))
def I_AnchoredGraph_l1 (N : Nat) (g_0 : Grf) (anchors_1 : List Int) (k : ((List (Int × Int)) × Int) → Option (Grf × Bool)) : Nat → ((List (Int × Int)) × Int × Int) → Option (Grf × Bool)
 | 0, _ => none
 | n + 1, (l118, x119, c120) =>
  cnd (decide (x119 < (anchors_1.length : Int))) (
   grd (0 ≤ x119 ∧ x119 < (anchors_1.length : Int)) <|
   grd (Rg64 (x119 + (1 : Int))) <|
   grd (0 ≤ (x119 + (1 : Int)) ∧ (x119 + (1 : Int)) ≤ (anchors_1.length : Int)) <|
   I_AnchoredGraph_l2 N g_0 anchors_1 x119 (fun (x : (List (Int × Int)) × Int) =>
     match x with
     | (l160, c161) =>
      I_AnchoredGraph_l1 N g_0 anchors_1 k n (l160, (x119 + (1 : Int)), c161)) N (l118, (0 : Int), c120)) (
   k (l118, c120))
def I_AnchoredGraph (N : Nat) (g_0 : Grf) (anchors_1 : List Int) : Option (Grf × Bool) :=
 (I_areAnchors N g_0 anchors_1).bind fun v1 =>
 cnd (!v1) (
  some ((⟨(0 : Int), ([] : List (Int × Int))⟩ : Grf), false)) (
  (I_copyGraph N g_0).bind fun v2 =>
  I_AnchoredGraph_l1 N g_0 anchors_1 (fun (x : (List (Int × Int)) × Int) =>
    match x with
    | (l87, c88) =>
     (I_IsGraph N (⟨c88, l87⟩ : Grf)).bind fun v89 =>
     cnd (!v89) (
      some ((⟨(0 : Int), ([] : List (Int × Int))⟩ : Grf), false)) (
      some ((⟨c88, l87⟩ : Grf), true))) N (v2.bars, (0 : Int), v2.n))
set_option maxRecDepth 20000 in
set_option maxHeartbeats 1600000 in
theorem I_AnchoredGraph_w (N : Nat) (g_0 : Grf) (anchors_1 : List Int) (r : Grf × Bool) (h : I_AnchoredGraph N g_0 anchors_1 = some r) : PCall Try.prog 42 [gD g_0, .ro false (.ints anchors_1)] [(97, .pairs r.1.bars)] (.tup [.agg [.int r.1.n, .row 0 0 r.1.bars.length], .bool r.2]) := by
 unfold I_AnchoredGraph at h
 refine pcall_intro (TT := TT) tt Try.func42 rfl rfl Try.ntmps42 (congrArg Array.toList Try.results42) rfl rfl fun w0 => ?_
 refine vSeq ?_
 refine vRegion ?_
 refine oBox rfl rfl rfl rfl rfl rfl rfl rfl rfl ?_
 refine oAlloc tt rfl rfl rfl rfl rfl rfl rfl rfl rfl ?_
 refine oVal tt rfl rfl rfl rfl rfl trivial ?_
 refine vNil ?_
 change VC _ _ _ _
 iterate 2 refine vSeq ?_
 refine vRegion ?_
 iterate 2 refine oVal tt rfl rfl rfl rfl rfl trivial ?_
 obtain ⟨v1, hc1, h⟩ := bind_inv h
 refine oCall (I_areAnchors_w N g_0 anchors_1 v1 hc1) rfl rfl rfl rfl rfl rfl rfl rfl ⟨⟨rfl, rfl, trivial⟩, rfl, trivial⟩ ?_
 refine oVal tt rfl rfl rfl rfl rfl trivial ?_
 refine vNil ?_
 change VC _ _ _ _
 refine vCond rfl (fun hb2 => ?_) (fun hb2 => ?_)
 ·replace h := cnd_t hb2 h
  refine vSeq ?_
  refine vRegion ?_
  refine oPure (wNone rfl) (pBuild bld_impl_Graph rfl rfl) rfl rfl ?_
  refine oStore tt rfl rfl rfl rfl rfl rfl rfl rfl rfl rfl rfl ⟨trivial, trivial, trivial⟩ ?_
  refine oVal tt rfl rfl rfl rfl rfl trivial ?_
  refine vNil ?_
  change VC _ _ _ _
  refine vNilB 4 1 9001 97 (.pairs []) rfl rfl rfl rfl rfl ?_
  refine vRet ?_
  change ∃ _, _
  cases h
  exact ⟨[9001], _, rfl, ⟨rfl, trivial⟩, rfl, (.eq rfl), rfl⟩
 ·replace h := cnd_f hb2 h
  refine vSkip ?_
  change VC _ _ _ _
  refine vSeq ?_
  refine vRegion ?_
  refine oVal tt rfl rfl rfl rfl rfl trivial ?_
  obtain ⟨v2, hc3, h⟩ := bind_inv h
  refine oCall (I_copyGraph_w N g_0 v2 hc3) rfl rfl rfl rfl rfl rfl rfl rfl ⟨⟨rfl, rfl, trivial⟩, trivial⟩ ?_
  refine oAlloc tt rfl rfl rfl rfl rfl rfl rfl rfl rfl ?_
  refine oStore tt rfl rfl rfl rfl rfl rfl rfl rfl rfl rfl rfl ⟨trivial, trivial, trivial⟩ ?_
  refine vNil ?_
  change VC _ _ _ _
  iterate 2 refine vSeq ?_
  refine vRegion ?_
  iterate 3 refine oVal tt rfl rfl rfl rfl rfl trivial ?_
  refine vNil ?_
  change VC _ _ _ _
  refine vJoin (F := fun k => I_AnchoredGraph_l1 N g_0 anchors_1 k) h (α := (List (Int × Int)) × Int) (J := fun | (l87, c88) => (⟨[(4, .ptr 4 0), (6, .ptr 6 0)], [(1170, some (97, .pairs l87))], [(4, some [.int (0 : Int), .nil]), (6, some [.int c88, .row 1170 0 l87.length])]⟩ : PS)) ?_ ?_
  ·rintro ⟨l87, c88⟩ h
   show VC _ _ _ (⟨[(4, .ptr 4 0), (6, .ptr 6 0)], [(1170, some (97, .pairs l87))], [(4, some [.int (0 : Int), .nil]), (6, some [.int c88, .row 1170 0 l87.length])]⟩ : PS)
   iterate 2 refine vSeq ?_
   refine vRegion ?_
   refine oVal tt rfl rfl rfl rfl rfl trivial ?_
   obtain ⟨v89, hc4, h⟩ := bind_inv h
   refine oCall (I_IsGraph_w N (⟨c88, l87⟩ : Grf) v89 hc4) rfl rfl rfl rfl rfl rfl rfl rfl ⟨⟨rfl, (.inl ⟨rfl, rfl⟩), trivial⟩, trivial⟩ ?_
   refine oVal tt rfl rfl rfl rfl rfl trivial ?_
   refine vNil ?_
   change VC _ _ _ _
   refine vCond rfl (fun hb5 => ?_) (fun hb5 => ?_)
   ·replace h := cnd_t hb5 h
    refine vSeq ?_
    refine vRegion ?_
    refine oPure (wNone rfl) (pBuild bld_impl_Graph rfl rfl) rfl rfl ?_
    refine oStore tt rfl rfl rfl rfl rfl rfl rfl rfl rfl rfl rfl ⟨trivial, trivial, trivial⟩ ?_
    refine oVal tt rfl rfl rfl rfl rfl trivial ?_
    refine vNil ?_
    change VC _ _ _ _
    refine vNilB 4 1 9001 97 (.pairs []) rfl rfl rfl rfl rfl ?_
    refine vRet ?_
    change ∃ _, _
    cases h
    exact ⟨[9001], _, rfl, ⟨rfl, trivial⟩, rfl, (.eq rfl), rfl⟩
   ·replace h := cnd_f hb5 h
    refine vSkip ?_
    change VC _ _ _ _
    refine vSeq ?_
    refine vRegion ?_
    refine oVal tt rfl rfl rfl rfl rfl trivial ?_
    refine oStore tt rfl rfl rfl rfl rfl rfl rfl rfl rfl rfl rfl ⟨trivial, trivial, trivial⟩ ?_
    refine oVal tt rfl rfl rfl rfl rfl trivial ?_
    refine vNil ?_
    change VC _ _ _ _
    refine vRet ?_
    change ∃ _, _
    cases h
    exact ⟨[1170], _, rfl, ⟨rfl, trivial⟩, rfl, (.eq rfl), rfl⟩
  ·intro k h
   refine vBlock ?_
   refine vLoopS (α := (List (Int × Int)) × Int × Int) (fun | (l118, x119, c120) => (⟨[(1, .ro false (.ints anchors_1)), (2, .ptr 2 0), (4, .ptr 4 0), (6, .ptr 6 0), (18, .ro false (.ints anchors_1)), (19, .int (anchors_1.length : Int)), (20, .int x119)], [(1170, some (97, .pairs l118))], [(2, some [.int g_0.n, .ro false (.pairs g_0.bars)]), (4, some [.int (0 : Int), .nil]), (6, some [.int c120, .row 1170 0 l118.length])]⟩ : PS)) (I_AnchoredGraph_l1 N g_0 anchors_1 k) h (En.of ⟨rfl, rfl, rfl, rfl, rfl, rfl, rfl, trivial⟩ ⟨rfl, trivial⟩ ⟨rfl, rfl, rfl, trivial⟩) (fun _ => rfl) ?_
   rintro n ⟨l118, x119, c120⟩ h
   rw [I_AnchoredGraph_l1] at h
   show VC _ _ _ (⟨[(1, .ro false (.ints anchors_1)), (2, .ptr 2 0), (4, .ptr 4 0), (6, .ptr 6 0), (18, .ro false (.ints anchors_1)), (19, .int (anchors_1.length : Int)), (20, .int x119)], [(1170, some (97, .pairs l118))], [(2, some [.int g_0.n, .ro false (.pairs g_0.bars)]), (4, some [.int (0 : Int), .nil]), (6, some [.int c120, .row 1170 0 l118.length])]⟩ : PS)
   refine vSeq ?_
   refine vRegion ?_
   refine oVal tt rfl rfl rfl rfl rfl trivial ?_
   refine vNil ?_
   change VC _ _ _ _
   refine vSeq ?_
   refine vCond rfl (fun hb6 => ?_) (fun hb6 => ?_)
   ·replace h := cnd_t hb6 h
    refine vSkip ?_
    change VC _ _ _ _
    refine vSeq ?_
    refine vBlock ?_
    refine vSeq ?_
    refine vRegion ?_
    refine oVal tt rfl rfl rfl rfl rfl trivial ?_
    obtain ⟨hg7, h⟩ := grd_inv h
    refine oVal tt rfl rfl rfl rfl rfl hg7 ?_
    iterate 3 refine oVal tt rfl rfl rfl rfl rfl trivial ?_
    refine vNil ?_
    change VC _ _ _ _
    refine vSeq ?_
    refine vRegion ?_
    iterate 2 refine oVal tt rfl rfl rfl rfl rfl trivial ?_
    obtain ⟨hg8, h⟩ := grd_inv h
    refine oVal tt rfl rfl rfl rfl rfl hg8 ?_
    obtain ⟨hg9, h⟩ := grd_inv h
    refine oVal tt rfl rfl rfl rfl rfl hg9 ?_
    iterate 2 refine oVal tt rfl rfl rfl rfl rfl trivial ?_
    refine vNil ?_
    change VC _ _ _ _
    refine vJoin (F := fun k => I_AnchoredGraph_l2 N g_0 anchors_1 x119 k) h (α := (List (Int × Int)) × Int) (J := fun | (l160, c161) => (⟨[(1, .ro false (.ints anchors_1)), (2, .ptr 2 0), (4, .ptr 4 0), (6, .ptr 6 0), (18, .ro false (.ints anchors_1)), (19, .int (anchors_1.length : Int)), (20, .int x119)], [(1170, some (97, .pairs l160))], [(2, some [.int g_0.n, .ro false (.pairs g_0.bars)]), (4, some [.int (0 : Int), .nil]), (6, some [.int c161, .row 1170 0 l160.length])]⟩ : PS)) ?_ ?_
    ·rintro ⟨l160, c161⟩ h
     show VC _ _ _ (⟨[(1, .ro false (.ints anchors_1)), (2, .ptr 2 0), (4, .ptr 4 0), (6, .ptr 6 0), (18, .ro false (.ints anchors_1)), (19, .int (anchors_1.length : Int)), (20, .int x119)], [(1170, some (97, .pairs l160))], [(2, some [.int g_0.n, .ro false (.pairs g_0.bars)]), (4, some [.int (0 : Int), .nil]), (6, some [.int c161, .row 1170 0 l160.length])]⟩ : PS)
     refine vRegion ?_
     refine oVal tt rfl rfl rfl rfl rfl hg8 ?_
     refine oVal tt rfl rfl rfl rfl rfl trivial ?_
     refine vNil ?_
     change ∃ _, _
     exact ⟨(l160, (x119 + (1 : Int)), c161), (En.of ⟨rfl, rfl, rfl, rfl, rfl, rfl, rfl, trivial⟩ ⟨rfl, trivial⟩ ⟨rfl, rfl, rfl, trivial⟩), h⟩
    ·intro k h
     refine vBlock ?_
     refine vLoopS (α := (List (Int × Int)) × Int × Int) (fun | (l166, x167, c168) => (⟨[(1, .ro false (.ints anchors_1)), (2, .ptr 2 0), (4, .ptr 4 0), (6, .ptr 6 0), (8, .int (anchors_1.getD ((x119).toNat) 0)), (18, .ro false (.ints anchors_1)), (19, .int (anchors_1.length : Int)), (20, .int x119), (28, .ro false (.ints ((anchors_1.take anchors_1.length).drop (((x119 + (1 : Int))).toNat)))), (29, .int (((anchors_1.take anchors_1.length).drop (((x119 + (1 : Int))).toNat)).length : Int)), (30, .int x167)], [(1170, some (97, .pairs l166))], [(2, some [.int g_0.n, .ro false (.pairs g_0.bars)]), (4, some [.int (0 : Int), .nil]), (6, some [.int c168, .row 1170 0 l166.length])]⟩ : PS)) (I_AnchoredGraph_l2 N g_0 anchors_1 x119 k) h (En.of ⟨rfl, rfl, rfl, rfl, rfl, rfl, rfl, rfl, rfl, rfl, rfl, trivial⟩ ⟨rfl, trivial⟩ ⟨rfl, rfl, rfl, trivial⟩) (fun _ => rfl) ?_
     rintro n ⟨l166, x167, c168⟩ h
     rw [I_AnchoredGraph_l2] at h
     show VC _ _ _ (⟨[(1, .ro false (.ints anchors_1)), (2, .ptr 2 0), (4, .ptr 4 0), (6, .ptr 6 0), (8, .int (anchors_1.getD ((x119).toNat) 0)), (18, .ro false (.ints anchors_1)), (19, .int (anchors_1.length : Int)), (20, .int x119), (28, .ro false (.ints ((anchors_1.take anchors_1.length).drop (((x119 + (1 : Int))).toNat)))), (29, .int (((anchors_1.take anchors_1.length).drop (((x119 + (1 : Int))).toNat)).length : Int)), (30, .int x167)], [(1170, some (97, .pairs l166))], [(2, some [.int g_0.n, .ro false (.pairs g_0.bars)]), (4, some [.int (0 : Int), .nil]), (6, some [.int c168, .row 1170 0 l166.length])]⟩ : PS)
     refine vSeq ?_
     refine vRegion ?_
     refine oVal tt rfl rfl rfl rfl rfl trivial ?_
     refine vNil ?_
     change VC _ _ _ _
     refine vSeq ?_
     refine vCond rfl (fun hb10 => ?_) (fun hb10 => ?_)
     ·replace h := cnd_t hb10 h
      refine vSkip ?_
      change VC _ _ _ _
      refine vSeq ?_
      refine vBlock ?_
      refine vSeq ?_
      refine vRegion ?_
      obtain ⟨hg11, h⟩ := grd_inv h
      refine oVal tt rfl rfl rfl rfl rfl hg11 ?_
      iterate 2 refine oVal tt rfl rfl rfl rfl rfl trivial ?_
      refine vNil ?_
      change VC _ _ _ _
      refine vSeq ?_
      refine vRegion ?_
      iterate 3 refine oVal tt rfl rfl rfl rfl rfl trivial ?_
      obtain ⟨v172, hc12, h⟩ := bind_inv h
      refine oCall (I_CountBar_w N g_0 (anchors_1.getD ((x119).toNat) 0) (((anchors_1.take anchors_1.length).drop (((x119 + (1 : Int))).toNat)).getD ((x167).toNat) 0) v172 hc12) rfl rfl rfl rfl rfl rfl rfl rfl ⟨⟨rfl, rfl, trivial⟩, rfl, rfl, trivial⟩ ?_
      refine oVal tt rfl rfl rfl rfl rfl trivial ?_
      refine vNil ?_
      change VC _ _ _ _
      refine vCond rfl (fun hb13 => ?_) (fun hb13 => ?_)
      ·replace h := cnd_t hb13 h
       refine vRegionN 5 [4] [0, 0, 0, 6, 14, 31, 63] (by kernel_rfl) (by kernel_rfl) (by kernel_rfl) (by kernel_rfl) (by kernel_rfl) rfl (by rfl) ?_
       iterate 3 refine nVal tt rfl (wNone rfl) rfl rfl rfl rfl rfl trivial ?_
       obtain ⟨v173, hc14, h⟩ := bind_inv h
       refine nCall (I_bar_w N (anchors_1.getD ((x119).toNat) 0) (((anchors_1.take anchors_1.length).drop (((x119 + (1 : Int))).toNat)).getD ((x167).toNat) 0) v173 hc14) rfl (wNone rfl) rfl rfl rfl rfl rfl rfl rfl rfl ⟨rfl, rfl, trivial⟩ ?_
       refine nBuild tt (wNone rfl) rfl rfl rfl rfl rfl rfl rfl rfl rfl rfl rfl rfl ?_
       refine nNil ?_
       change VO _ _ _ _ _
       obtain ⟨v174, hc15, h⟩ := bind_inv h
       refine oCall (I_withBars_w N (⟨c168, l166⟩ : Grf) ([(v173.1, v173.2)] : List (Int × Int)) v174 hc15) rfl rfl rfl rfl rfl rfl rfl rfl ⟨⟨rfl, (.inl ⟨rfl, rfl⟩), trivial⟩, (.inl ⟨rfl, rfl⟩), trivial⟩ ?_
       refine oStore tt rfl rfl rfl rfl rfl rfl rfl rfl rfl rfl rfl ⟨trivial, trivial, trivial⟩ ?_
       refine vNil ?_
       change VC _ _ _ _
       refine vRegion ?_
       obtain ⟨hg16, h⟩ := grd_inv h
       refine oVal tt rfl rfl rfl rfl rfl hg16 ?_
       refine oVal tt rfl rfl rfl rfl rfl trivial ?_
       refine vNil ?_
       change ∃ _, _
       exact ⟨(v174.bars, (x167 + (1 : Int)), v174.n), (En.ren [1170] [1440] rfl ⟨.inr rfl, .inr rfl, .inr rfl, .inr rfl, .inr rfl, .inr rfl, .inr rfl, .inr rfl, .inr rfl, .inr rfl, .inr rfl, trivial⟩ ⟨.inr rfl, trivial⟩ ⟨.inr ⟨_, _, rfl, rfl, ⟨.inr rfl, .inr rfl, trivial⟩⟩, .inr ⟨_, _, rfl, rfl, ⟨.inr rfl, .inr rfl, trivial⟩⟩, .inr ⟨_, _, rfl, rfl, ⟨.inr rfl, .inr rfl, trivial⟩⟩, trivial⟩), h⟩
      ·replace h := cnd_f hb13 h
       refine vSkip ?_
       change VC _ _ _ _
       refine vRegion ?_
       obtain ⟨hg17, h⟩ := grd_inv h
       refine oVal tt rfl rfl rfl rfl rfl hg17 ?_
       refine oVal tt rfl rfl rfl rfl rfl trivial ?_
       refine vNil ?_
       change ∃ _, _
       exact ⟨(l166, (x167 + (1 : Int)), c168), (En.of ⟨rfl, rfl, rfl, rfl, rfl, rfl, rfl, rfl, rfl, rfl, rfl, trivial⟩ ⟨rfl, trivial⟩ ⟨rfl, rfl, rfl, trivial⟩), h⟩
     ·replace h := cnd_f hb10 h
      refine vExit ?_
      change ∃ _, _
      exact ⟨(l166, c168), (En.of ⟨rfl, rfl, rfl, rfl, rfl, rfl, rfl, trivial⟩ ⟨rfl, trivial⟩ ⟨rfl, rfl, rfl, trivial⟩), h⟩
   ·replace h := cnd_f hb6 h
    refine vExit ?_
    change ∃ _, _
    exact ⟨(l118, c120), (En.of ⟨rfl, rfl, trivial⟩ ⟨rfl, trivial⟩ ⟨rfl, rfl, trivial⟩), h⟩
end Go.Proofs.Ytmoamglpocjhgaa
namespace Go.Proofs.Ytmoamglpocjhgaa
open Go.RowKit
def S_CountBar_l1 (N : Nat) (g_0 : Grf) (a_1 : Int) (b_2 : Int) (k : Int → Option (Int)) : Nat → (Int × Int) → Option (Int)
 | 0, _ => none
 | n + 1, (n5, i6) =>
  cnd (decide (i6 < (g_0.bars.length : Int))) (
   grd (0 ≤ i6 ∧ i6 < (g_0.bars.length : Int)) <|
   cnd (((g_0.bars.getD ((i6).toNat) (0, 0)).1) == a_1) (
    cnd (((g_0.bars.getD ((i6).toNat) (0, 0)).2) == b_2) (
     grd (Rg64 (n5 + (1 : Int))) <|
     grd (Rg64 (i6 + (1 : Int))) <|
     S_CountBar_l1 N g_0 a_1 b_2 k n ((n5 + (1 : Int)), (i6 + (1 : Int)))) (
     cnd (((g_0.bars.getD ((i6).toNat) (0, 0)).1) == b_2) (
      cnd (((g_0.bars.getD ((i6).toNat) (0, 0)).2) == a_1) (
       grd (Rg64 (n5 + (1 : Int))) <|
       grd (Rg64 (i6 + (1 : Int))) <|
       S_CountBar_l1 N g_0 a_1 b_2 k n ((n5 + (1 : Int)), (i6 + (1 : Int)))) (
       grd (Rg64 (i6 + (1 : Int))) <|
       S_CountBar_l1 N g_0 a_1 b_2 k n (n5, (i6 + (1 : Int))))) (
      grd (Rg64 (i6 + (1 : Int))) <|
      S_CountBar_l1 N g_0 a_1 b_2 k n (n5, (i6 + (1 : Int)))))) (
    cnd (((g_0.bars.getD ((i6).toNat) (0, 0)).1) == b_2) (
     cnd (((g_0.bars.getD ((i6).toNat) (0, 0)).2) == a_1) (
      grd (Rg64 (n5 + (1 : Int))) <|
      grd (Rg64 (i6 + (1 : Int))) <|
      S_CountBar_l1 N g_0 a_1 b_2 k n ((n5 + (1 : Int)), (i6 + (1 : Int)))) (
      grd (Rg64 (i6 + (1 : Int))) <|
      S_CountBar_l1 N g_0 a_1 b_2 k n (n5, (i6 + (1 : Int))))) (
     grd (Rg64 (i6 + (1 : Int))) <|
     S_CountBar_l1 N g_0 a_1 b_2 k n (n5, (i6 + (1 : Int)))))) (
   k n5)
def S_CountBar (N : Nat) (g_0 : Grf) (a_1 : Int) (b_2 : Int) : Option (Int) :=
 S_CountBar_l1 N g_0 a_1 b_2 (fun (n3 : Int) =>
    some n3) N ((0 : Int), (0 : Int))
set_option maxRecDepth 20000 in
set_option maxHeartbeats 1600000 in
theorem S_CountBar_w (N : Nat) (g_0 : Grf) (a_1 : Int) (b_2 : Int) (r : Int) (h : S_CountBar N g_0 a_1 b_2 = some r) : PCall Try.prog 73 [gD g_0, .int a_1, .int b_2] [] (.int r) := by
 unfold S_CountBar at h
 refine pcall_intro (TT := TT) tt Try.func73 rfl rfl Try.ntmps73 (congrArg Array.toList Try.results73) rfl rfl fun w0 => ?_
 refine vSeq ?_
 refine vRegion ?_
 refine oBox rfl rfl rfl rfl rfl rfl rfl rfl rfl ?_
 refine oVal tt rfl rfl rfl rfl rfl trivial ?_
 refine vNil ?_
 change VC _ _ _ _
 refine vSeq ?_
 refine vRegion ?_
 refine oVal tt rfl rfl rfl rfl rfl trivial ?_
 refine vNil ?_
 change VC _ _ _ _
 iterate 2 refine vSeq ?_
 refine vRegion ?_
 refine oVal tt rfl rfl rfl rfl rfl trivial ?_
 refine vNil ?_
 change VC _ _ _ _
 refine vJoin (F := fun k => S_CountBar_l1 N g_0 a_1 b_2 k) h (α := Int) (J := fun (n3 : Int) => (⟨[(7, .int n3)], [], []⟩ : PS)) ?_ ?_
 ·rintro n3 h
  show VC _ _ _ (⟨[(7, .int n3)], [], []⟩ : PS)
  refine vSeq ?_
  refine vRegion ?_
  iterate 2 refine oVal tt rfl rfl rfl rfl rfl trivial ?_
  refine vNil ?_
  change VC _ _ _ _
  refine vRet ?_
  change ∃ _, _
  cases h
  exact ⟨[], _, rfl, trivial, rfl, (.eq rfl), rfl⟩
 ·intro k h
  refine vBlock ?_
  refine vLoopS (α := Int × Int) (fun | (n5, i6) => (⟨[(1, .int a_1), (2, .int b_2), (3, .ptr 3 0), (7, .int n5), (8, .int i6)], [], [(3, some [.int g_0.n, .ro false (.pairs g_0.bars)])]⟩ : PS)) (S_CountBar_l1 N g_0 a_1 b_2 k) h (En.of ⟨rfl, rfl, rfl, rfl, rfl, trivial⟩ trivial ⟨rfl, trivial⟩) (fun _ => rfl) ?_
  rintro n ⟨n5, i6⟩ h
  rw [S_CountBar_l1] at h
  show VC _ _ _ (⟨[(1, .int a_1), (2, .int b_2), (3, .ptr 3 0), (7, .int n5), (8, .int i6)], [], [(3, some [.int g_0.n, .ro false (.pairs g_0.bars)])]⟩ : PS)
  iterate 2 refine vSeq ?_
  refine vRegion ?_
  iterate 5 refine oVal tt rfl rfl rfl rfl rfl trivial ?_
  refine vNil ?_
  change VC _ _ _ _
  refine vCond rfl (fun hb1 => ?_) (fun hb1 => ?_)
  ·replace h := cnd_t hb1 h
   refine vSkip ?_
   change VC _ _ _ _
   refine vSeq ?_
   refine vBlock ?_
   refine vSeq ?_
   refine vRegion ?_
   iterate 3 refine oVal tt rfl rfl rfl rfl rfl trivial ?_
   obtain ⟨hg2, h⟩ := grd_inv h
   refine oVal tt rfl rfl rfl rfl rfl hg2 ?_
   iterate 5 refine oVal tt rfl rfl rfl rfl rfl trivial ?_
   refine oSplit rfl rfl rfl (fun hb3 => ?_) (fun hb3 => ?_)
   ·replace h := cnd_t hb3 h
    iterate 3 refine oValG tt rfl rfl rfl rfl rfl hb3 rfl rfl rfl trivial ?_
    refine oValG tt rfl rfl rfl rfl rfl hb3 rfl rfl rfl hg2 ?_
    iterate 4 refine oValG tt rfl rfl rfl rfl rfl hb3 rfl rfl rfl trivial ?_
    refine oPick rfl rfl rfl rfl rfl hb3 rfl ?_
    refine oVal tt rfl rfl rfl rfl rfl trivial ?_
    refine oSplit rfl rfl rfl (fun hb4 => ?_) (fun hb4 => ?_)
    ·replace h := cnd_t hb4 h
     iterate 9 refine oNoF rfl rfl rfl rfl hb4 rfl rfl ?_
     iterate 8 refine oNoU rfl rfl rfl rfl rfl ?_
     refine oNoF rfl rfl rfl rfl hb4 rfl rfl ?_
     refine oPick rfl rfl rfl rfl rfl hb4 rfl ?_
     refine vNil ?_
     change VC _ _ _ _
     refine vCondT rfl rfl ?_
     refine vRegion ?_
     refine oVal tt rfl rfl rfl rfl rfl trivial ?_
     obtain ⟨hg5, h⟩ := grd_inv h
     refine oVal tt rfl rfl rfl rfl rfl hg5 ?_
     refine oVal tt rfl rfl rfl rfl rfl trivial ?_
     refine vNil ?_
     change VC _ _ _ _
     refine vRegion ?_
     refine oVal tt rfl rfl rfl rfl rfl trivial ?_
     obtain ⟨hg6, h⟩ := grd_inv h
     refine oVal tt rfl rfl rfl rfl rfl hg6 ?_
     refine oVal tt rfl rfl rfl rfl rfl trivial ?_
     refine vNil ?_
     change ∃ _, _
     exact ⟨((n5 + (1 : Int)), (i6 + (1 : Int))), (En.of ⟨rfl, rfl, rfl, rfl, rfl, trivial⟩ trivial ⟨rfl, trivial⟩), h⟩
    ·replace h := cnd_f hb4 h
     iterate 3 refine oValG tt rfl rfl rfl rfl rfl hb4 rfl rfl rfl trivial ?_
     refine oValG tt rfl rfl rfl rfl rfl hb4 rfl rfl rfl hg2 ?_
     iterate 5 refine oValG tt rfl rfl rfl rfl rfl hb4 rfl rfl rfl trivial ?_
     refine oSplit rfl rfl rfl (fun hb7 => ?_) (fun hb7 => ?_)
     ·replace h := cnd_t hb7 h
      iterate 3 refine oValG tt rfl rfl rfl rfl rfl hb7 rfl rfl rfl trivial ?_
      refine oValG tt rfl rfl rfl rfl rfl hb7 rfl rfl rfl hg2 ?_
      iterate 4 refine oValG tt rfl rfl rfl rfl rfl hb7 rfl rfl rfl trivial ?_
      refine oPickGT rfl rfl rfl rfl hb4 rfl rfl rfl rfl hb7 rfl ?_
      refine oPickF rfl rfl rfl rfl rfl hb4 rfl ?_
      refine vNil ?_
      change VC _ _ _ _
      refine vCond rfl (fun hb8 => ?_) (fun hb8 => ?_)
      ·replace h := cnd_t hb8 h
       refine vRegion ?_
       refine oVal tt rfl rfl rfl rfl rfl trivial ?_
       obtain ⟨hg9, h⟩ := grd_inv h
       refine oVal tt rfl rfl rfl rfl rfl hg9 ?_
       refine oVal tt rfl rfl rfl rfl rfl trivial ?_
       refine vNil ?_
       change VC _ _ _ _
       refine vRegion ?_
       refine oVal tt rfl rfl rfl rfl rfl trivial ?_
       obtain ⟨hg10, h⟩ := grd_inv h
       refine oVal tt rfl rfl rfl rfl rfl hg10 ?_
       refine oVal tt rfl rfl rfl rfl rfl trivial ?_
       refine vNil ?_
       change ∃ _, _
       exact ⟨((n5 + (1 : Int)), (i6 + (1 : Int))), (En.of ⟨rfl, rfl, rfl, rfl, rfl, trivial⟩ trivial ⟨rfl, trivial⟩), h⟩
      ·replace h := cnd_f hb8 h
       refine vSkip ?_
       change VC _ _ _ _
       refine vRegion ?_
       refine oVal tt rfl rfl rfl rfl rfl trivial ?_
       obtain ⟨hg11, h⟩ := grd_inv h
       refine oVal tt rfl rfl rfl rfl rfl hg11 ?_
       refine oVal tt rfl rfl rfl rfl rfl trivial ?_
       refine vNil ?_
       change ∃ _, _
       exact ⟨(n5, (i6 + (1 : Int))), (En.of ⟨rfl, rfl, rfl, rfl, rfl, trivial⟩ trivial ⟨rfl, trivial⟩), h⟩
     ·replace h := cnd_f hb7 h
      iterate 8 refine oNoT rfl rfl rfl rfl hb7 rfl rfl ?_
      refine oPickGF rfl rfl rfl rfl hb4 rfl rfl rfl rfl hb7 rfl ?_
      refine oPickF rfl rfl rfl rfl rfl hb4 rfl ?_
      refine vNil ?_
      change VC _ _ _ _
      refine vCondF rfl rfl ?_
      refine vSkip ?_
      change VC _ _ _ _
      refine vRegion ?_
      refine oVal tt rfl rfl rfl rfl rfl trivial ?_
      obtain ⟨hg12, h⟩ := grd_inv h
      refine oVal tt rfl rfl rfl rfl rfl hg12 ?_
      refine oVal tt rfl rfl rfl rfl rfl trivial ?_
      refine vNil ?_
      change ∃ _, _
      exact ⟨(n5, (i6 + (1 : Int))), (En.of ⟨rfl, rfl, rfl, rfl, rfl, trivial⟩ trivial ⟨rfl, trivial⟩), h⟩
   ·replace h := cnd_f hb3 h
    iterate 8 refine oNoT rfl rfl rfl rfl hb3 rfl rfl ?_
    refine oPickF rfl rfl rfl rfl rfl hb3 rfl ?_
    refine oVal tt rfl rfl rfl rfl rfl trivial ?_
    iterate 3 refine oValG tt rfl rfl rfl rfl rfl rfl rfl rfl rfl trivial ?_
    refine oValG tt rfl rfl rfl rfl rfl rfl rfl rfl rfl hg2 ?_
    iterate 5 refine oValG tt rfl rfl rfl rfl rfl rfl rfl rfl rfl trivial ?_
    refine oSplit rfl rfl rfl (fun hb13 => ?_) (fun hb13 => ?_)
    ·replace h := cnd_t hb13 h
     iterate 3 refine oValG tt rfl rfl rfl rfl rfl hb13 rfl rfl rfl trivial ?_
     refine oValG tt rfl rfl rfl rfl rfl hb13 rfl rfl rfl hg2 ?_
     iterate 4 refine oValG tt rfl rfl rfl rfl rfl hb13 rfl rfl rfl trivial ?_
     refine oPickGT rfl rfl rfl rfl rfl rfl rfl rfl rfl hb13 rfl ?_
     refine oPickF rfl rfl rfl rfl rfl rfl rfl ?_
     refine vNil ?_
     change VC _ _ _ _
     refine vCond rfl (fun hb14 => ?_) (fun hb14 => ?_)
     ·replace h := cnd_t hb14 h
      refine vRegion ?_
      refine oVal tt rfl rfl rfl rfl rfl trivial ?_
      obtain ⟨hg15, h⟩ := grd_inv h
      refine oVal tt rfl rfl rfl rfl rfl hg15 ?_
      refine oVal tt rfl rfl rfl rfl rfl trivial ?_
      refine vNil ?_
      change VC _ _ _ _
      refine vRegion ?_
      refine oVal tt rfl rfl rfl rfl rfl trivial ?_
      obtain ⟨hg16, h⟩ := grd_inv h
      refine oVal tt rfl rfl rfl rfl rfl hg16 ?_
      refine oVal tt rfl rfl rfl rfl rfl trivial ?_
      refine vNil ?_
      change ∃ _, _
      exact ⟨((n5 + (1 : Int)), (i6 + (1 : Int))), (En.of ⟨rfl, rfl, rfl, rfl, rfl, trivial⟩ trivial ⟨rfl, trivial⟩), h⟩
     ·replace h := cnd_f hb14 h
      refine vSkip ?_
      change VC _ _ _ _
      refine vRegion ?_
      refine oVal tt rfl rfl rfl rfl rfl trivial ?_
      obtain ⟨hg17, h⟩ := grd_inv h
      refine oVal tt rfl rfl rfl rfl rfl hg17 ?_
      refine oVal tt rfl rfl rfl rfl rfl trivial ?_
      refine vNil ?_
      change ∃ _, _
      exact ⟨(n5, (i6 + (1 : Int))), (En.of ⟨rfl, rfl, rfl, rfl, rfl, trivial⟩ trivial ⟨rfl, trivial⟩), h⟩
    ·replace h := cnd_f hb13 h
     iterate 8 refine oNoT rfl rfl rfl rfl hb13 rfl rfl ?_
     refine oPickGF rfl rfl rfl rfl rfl rfl rfl rfl rfl hb13 rfl ?_
     refine oPickF rfl rfl rfl rfl rfl rfl rfl ?_
     refine vNil ?_
     change VC _ _ _ _
     refine vCondF rfl rfl ?_
     refine vSkip ?_
     change VC _ _ _ _
     refine vRegion ?_
     refine oVal tt rfl rfl rfl rfl rfl trivial ?_
     obtain ⟨hg18, h⟩ := grd_inv h
     refine oVal tt rfl rfl rfl rfl rfl hg18 ?_
     refine oVal tt rfl rfl rfl rfl rfl trivial ?_
     refine vNil ?_
     change ∃ _, _
     exact ⟨(n5, (i6 + (1 : Int))), (En.of ⟨rfl, rfl, rfl, rfl, rfl, trivial⟩ trivial ⟨rfl, trivial⟩), h⟩
  ·replace h := cnd_f hb1 h
   refine vExit ?_
   change ∃ _, _
   exact ⟨n5, (En.of ⟨rfl, trivial⟩ trivial trivial), h⟩
def S_AnchoredGraph_l2 (N : Nat) (anchors_1 : List Int) (i95 : Int) (k : ((List (Int × Int)) × Int) → Option (Grf × Bool)) : Nat → ((List (Int × Int)) × Int × Int) → Option (Grf × Bool)
 | 0, _ => none
 | n + 1, (l132, k133, c134) =>
  cnd (decide (k133 < (anchors_1.length : Int))) (
   grd (0 ≤ i95 ∧ i95 < (anchors_1.length : Int)) <|
   grd (0 ≤ k133 ∧ k133 < (anchors_1.length : Int)) <|
   (S_CountBar N (⟨c134, l132⟩ : Grf) (anchors_1.getD ((i95).toNat) 0) (anchors_1.getD ((k133).toNat) 0)).bind fun v137 =>
   cnd (v137 == (0 : Int)) (
    (S_l2Put N (⟨c134, l132⟩ : Grf) ((anchors_1.getD ((i95).toNat) 0), (anchors_1.getD ((k133).toNat) 0))).bind fun v138 =>
    grd (Rg64 (k133 + (1 : Int))) <|
    S_AnchoredGraph_l2 N anchors_1 i95 k n (v138.bars, (k133 + (1 : Int)), v138.n)) (
    grd (Rg64 (k133 + (1 : Int))) <|
    S_AnchoredGraph_l2 N anchors_1 i95 k n (l132, (k133 + (1 : Int)), c134))) (
   k (l132, c134))
def S_AnchoredGraph_l1 (N : Nat) (anchors_1 : List Int) (k : ((List (Int × Int)) × Int) → Option (Grf × Bool)) : Nat → ((List (Int × Int)) × Int × Int) → Option (Grf × Bool)
 | 0, _ => none
 | n + 1, (l94, i95, c96) =>
  cnd (decide (i95 < (anchors_1.length : Int))) (
   grd (Rg64 (i95 + (1 : Int))) <|
   S_AnchoredGraph_l2 N anchors_1 i95 (fun (x : (List (Int × Int)) × Int) =>
     match x with
     | (l127, c128) =>
      S_AnchoredGraph_l1 N anchors_1 k n (l127, (i95 + (1 : Int)), c128)) N (l94, (i95 + (1 : Int)), c96)) (
   k (l94, c96))
def S_AnchoredGraph (N : Nat) (g_0 : Grf) (anchors_1 : List Int) : Option (Grf × Bool) :=
 (S_l2Copy N g_0).bind fun v1 =>
 (S_l23Anchors N g_0 anchors_1).bind fun v2 =>
 cnd (!v2) (
  some ((⟨(0 : Int), ([] : List (Int × Int))⟩ : Grf), false)) (
  S_AnchoredGraph_l1 N anchors_1 (fun (x : (List (Int × Int)) × Int) =>
    match x with
    | (l69, c70) =>
     (S_IsGraph N (⟨c70, l69⟩ : Grf)).bind fun v71 =>
     cnd (!v71) (
      some ((⟨(0 : Int), ([] : List (Int × Int))⟩ : Grf), false)) (
      some ((⟨c70, l69⟩ : Grf), true))) N (v1.bars, (0 : Int), v1.n))
set_option maxRecDepth 20000 in
set_option maxHeartbeats 1600000 in
theorem S_AnchoredGraph_w (N : Nat) (g_0 : Grf) (anchors_1 : List Int) (r : Grf × Bool) (h : S_AnchoredGraph N g_0 anchors_1 = some r) : PCall Try.prog 40 [gD g_0, .ro false (.ints anchors_1)] [(97, .pairs r.1.bars)] (.tup [.agg [.int r.1.n, .row 0 0 r.1.bars.length], .bool r.2]) := by
 unfold S_AnchoredGraph at h
 refine pcall_intro (TT := TT) tt Try.func40 rfl rfl Try.ntmps40 (congrArg Array.toList Try.results40) rfl rfl fun w0 => ?_
 refine vSeq ?_
 refine vRegion ?_
 refine oBox rfl rfl rfl rfl rfl rfl rfl rfl rfl ?_
 refine oAlloc tt rfl rfl rfl rfl rfl rfl rfl rfl rfl ?_
 refine oVal tt rfl rfl rfl rfl rfl trivial ?_
 refine vNil ?_
 change VC _ _ _ _
 refine vSeq ?_
 refine vRegion ?_
 refine oVal tt rfl rfl rfl rfl rfl trivial ?_
 obtain ⟨v1, hc1, h⟩ := bind_inv h
 refine oCall (S_l2Copy_w N g_0 v1 hc1) rfl rfl rfl rfl rfl rfl rfl rfl ⟨⟨rfl, rfl, trivial⟩, trivial⟩ ?_
 refine oAlloc tt rfl rfl rfl rfl rfl rfl rfl rfl rfl ?_
 refine oStore tt rfl rfl rfl rfl rfl rfl rfl rfl rfl rfl rfl ⟨trivial, trivial, trivial⟩ ?_
 refine vNil ?_
 change VC _ _ _ _
 iterate 2 refine vSeq ?_
 refine vRegion ?_
 iterate 2 refine oVal tt rfl rfl rfl rfl rfl trivial ?_
 obtain ⟨v2, hc2, h⟩ := bind_inv h
 refine oCall (S_l23Anchors_w N g_0 anchors_1 v2 hc2) rfl rfl rfl rfl rfl rfl rfl rfl ⟨⟨rfl, rfl, trivial⟩, rfl, trivial⟩ ?_
 refine oVal tt rfl rfl rfl rfl rfl trivial ?_
 refine vNil ?_
 change VC _ _ _ _
 refine vCond rfl (fun hb3 => ?_) (fun hb3 => ?_)
 ·replace h := cnd_t hb3 h
  refine vSeq ?_
  refine vRegion ?_
  refine oPure (wNone rfl) (pBuild bld_impl_Graph rfl rfl) rfl rfl ?_
  refine oStore tt rfl rfl rfl rfl rfl rfl rfl rfl rfl rfl rfl ⟨trivial, trivial, trivial⟩ ?_
  refine oVal tt rfl rfl rfl rfl rfl trivial ?_
  refine vNil ?_
  change VC _ _ _ _
  refine vNilB 4 1 9001 97 (.pairs []) rfl rfl rfl rfl rfl ?_
  refine vRet ?_
  change ∃ _, _
  cases h
  exact ⟨[9001], _, rfl, ⟨rfl, trivial⟩, rfl, (.eq rfl), rfl⟩
 ·replace h := cnd_f hb3 h
  refine vSkip ?_
  change VC _ _ _ _
  iterate 2 refine vSeq ?_
  refine vRegion ?_
  refine oVal tt rfl rfl rfl rfl rfl trivial ?_
  refine vNil ?_
  change VC _ _ _ _
  refine vJoin (F := fun k => S_AnchoredGraph_l1 N anchors_1 k) h (α := (List (Int × Int)) × Int) (J := fun | (l69, c70) => (⟨[(4, .ptr 4 0), (6, .ptr 6 0)], [(1100, some (97, .pairs l69))], [(4, some [.int (0 : Int), .nil]), (6, some [.int c70, .row 1100 0 l69.length])]⟩ : PS)) ?_ ?_
  ·rintro ⟨l69, c70⟩ h
   show VC _ _ _ (⟨[(4, .ptr 4 0), (6, .ptr 6 0)], [(1100, some (97, .pairs l69))], [(4, some [.int (0 : Int), .nil]), (6, some [.int c70, .row 1100 0 l69.length])]⟩ : PS)
   iterate 2 refine vSeq ?_
   refine vRegion ?_
   refine oVal tt rfl rfl rfl rfl rfl trivial ?_
   obtain ⟨v71, hc4, h⟩ := bind_inv h
   refine oCall (S_IsGraph_w N (⟨c70, l69⟩ : Grf) v71 hc4) rfl rfl rfl rfl rfl rfl rfl rfl ⟨⟨rfl, (.inl ⟨rfl, rfl⟩), trivial⟩, trivial⟩ ?_
   refine oVal tt rfl rfl rfl rfl rfl trivial ?_
   refine vNil ?_
   change VC _ _ _ _
   refine vCond rfl (fun hb5 => ?_) (fun hb5 => ?_)
   ·replace h := cnd_t hb5 h
    refine vSeq ?_
    refine vRegion ?_
    refine oPure (wNone rfl) (pBuild bld_impl_Graph rfl rfl) rfl rfl ?_
    refine oStore tt rfl rfl rfl rfl rfl rfl rfl rfl rfl rfl rfl ⟨trivial, trivial, trivial⟩ ?_
    refine oVal tt rfl rfl rfl rfl rfl trivial ?_
    refine vNil ?_
    change VC _ _ _ _
    refine vNilB 4 1 9001 97 (.pairs []) rfl rfl rfl rfl rfl ?_
    refine vRet ?_
    change ∃ _, _
    cases h
    exact ⟨[9001], _, rfl, ⟨rfl, trivial⟩, rfl, (.eq rfl), rfl⟩
   ·replace h := cnd_f hb5 h
    refine vSkip ?_
    change VC _ _ _ _
    refine vSeq ?_
    refine vRegion ?_
    refine oVal tt rfl rfl rfl rfl rfl trivial ?_
    refine oStore tt rfl rfl rfl rfl rfl rfl rfl rfl rfl rfl rfl ⟨trivial, trivial, trivial⟩ ?_
    refine oVal tt rfl rfl rfl rfl rfl trivial ?_
    refine vNil ?_
    change VC _ _ _ _
    refine vRet ?_
    change ∃ _, _
    cases h
    exact ⟨[1100], _, rfl, ⟨rfl, trivial⟩, rfl, (.eq rfl), rfl⟩
  ·intro k h
   refine vBlock ?_
   refine vLoopS (α := (List (Int × Int)) × Int × Int) (fun | (l94, i95, c96) => (⟨[(1, .ro false (.ints anchors_1)), (4, .ptr 4 0), (6, .ptr 6 0), (7, .int i95)], [(1100, some (97, .pairs l94))], [(4, some [.int (0 : Int), .nil]), (6, some [.int c96, .row 1100 0 l94.length])]⟩ : PS)) (S_AnchoredGraph_l1 N anchors_1 k) h (En.of ⟨rfl, rfl, rfl, rfl, trivial⟩ ⟨rfl, trivial⟩ ⟨rfl, rfl, trivial⟩) (fun _ => rfl) ?_
   rintro n ⟨l94, i95, c96⟩ h
   rw [S_AnchoredGraph_l1] at h
   show VC _ _ _ (⟨[(1, .ro false (.ints anchors_1)), (4, .ptr 4 0), (6, .ptr 6 0), (7, .int i95)], [(1100, some (97, .pairs l94))], [(4, some [.int (0 : Int), .nil]), (6, some [.int c96, .row 1100 0 l94.length])]⟩ : PS)
   iterate 2 refine vSeq ?_
   refine vRegion ?_
   iterate 4 refine oVal tt rfl rfl rfl rfl rfl trivial ?_
   refine vNil ?_
   change VC _ _ _ _
   refine vCond rfl (fun hb6 => ?_) (fun hb6 => ?_)
   ·replace h := cnd_t hb6 h
    refine vSkip ?_
    change VC _ _ _ _
    refine vSeq ?_
    refine vBlock ?_
    refine vSeq ?_
    refine vRegion ?_
    refine oVal tt rfl rfl rfl rfl rfl trivial ?_
    obtain ⟨hg7, h⟩ := grd_inv h
    refine oVal tt rfl rfl rfl rfl rfl hg7 ?_
    refine oVal tt rfl rfl rfl rfl rfl trivial ?_
    refine vNil ?_
    change VC _ _ _ _
    refine vJoin (F := fun k => S_AnchoredGraph_l2 N anchors_1 i95 k) h (α := (List (Int × Int)) × Int) (J := fun | (l127, c128) => (⟨[(1, .ro false (.ints anchors_1)), (4, .ptr 4 0), (6, .ptr 6 0), (7, .int i95)], [(1100, some (97, .pairs l127))], [(4, some [.int (0 : Int), .nil]), (6, some [.int c128, .row 1100 0 l127.length])]⟩ : PS)) ?_ ?_
    ·rintro ⟨l127, c128⟩ h
     show VC _ _ _ (⟨[(1, .ro false (.ints anchors_1)), (4, .ptr 4 0), (6, .ptr 6 0), (7, .int i95)], [(1100, some (97, .pairs l127))], [(4, some [.int (0 : Int), .nil]), (6, some [.int c128, .row 1100 0 l127.length])]⟩ : PS)
     refine vRegion ?_
     refine oVal tt rfl rfl rfl rfl rfl trivial ?_
     refine oVal tt rfl rfl rfl rfl rfl hg7 ?_
     refine oVal tt rfl rfl rfl rfl rfl trivial ?_
     refine vNil ?_
     change ∃ _, _
     exact ⟨(l127, (i95 + (1 : Int)), c128), (En.of ⟨rfl, rfl, rfl, rfl, trivial⟩ ⟨rfl, trivial⟩ ⟨rfl, rfl, trivial⟩), h⟩
    ·intro k h
     refine vBlock ?_
     refine vLoopS (α := (List (Int × Int)) × Int × Int) (fun | (l132, k133, c134) => (⟨[(1, .ro false (.ints anchors_1)), (4, .ptr 4 0), (6, .ptr 6 0), (7, .int i95), (8, .int k133)], [(1100, some (97, .pairs l132))], [(4, some [.int (0 : Int), .nil]), (6, some [.int c134, .row 1100 0 l132.length])]⟩ : PS)) (S_AnchoredGraph_l2 N anchors_1 i95 k) h (En.of ⟨rfl, rfl, rfl, rfl, rfl, trivial⟩ ⟨rfl, trivial⟩ ⟨rfl, rfl, trivial⟩) (fun _ => rfl) ?_
     rintro n ⟨l132, k133, c134⟩ h
     rw [S_AnchoredGraph_l2] at h
     show VC _ _ _ (⟨[(1, .ro false (.ints anchors_1)), (4, .ptr 4 0), (6, .ptr 6 0), (7, .int i95), (8, .int k133)], [(1100, some (97, .pairs l132))], [(4, some [.int (0 : Int), .nil]), (6, some [.int c134, .row 1100 0 l132.length])]⟩ : PS)
     iterate 2 refine vSeq ?_
     refine vRegion ?_
     iterate 4 refine oVal tt rfl rfl rfl rfl rfl trivial ?_
     refine vNil ?_
     change VC _ _ _ _
     refine vCond rfl (fun hb8 => ?_) (fun hb8 => ?_)
     ·replace h := cnd_t hb8 h
      refine vSkip ?_
      change VC _ _ _ _
      refine vSeq ?_
      refine vBlock ?_
      refine vSeq ?_
      refine vRegionD (by kernel_rfl) (by kernel_rfl) ?_
      iterate 3 refine cVal tt rfl (wNone rfl) rfl rfl rfl trivial ?_
      obtain ⟨hg9, h⟩ := grd_inv h
      refine cVal tt rfl (wNone rfl) rfl rfl rfl hg9 ?_
      iterate 3 refine cVal tt rfl (wNone rfl) rfl rfl rfl trivial ?_
      obtain ⟨hg10, h⟩ := grd_inv h
      refine cVal tt rfl (wNone rfl) rfl rfl rfl hg10 ?_
      refine cVal tt rfl (wNone rfl) rfl rfl rfl trivial ?_
      obtain ⟨v137, hc11, h⟩ := bind_inv h
      refine cCall (S_CountBar_w N (⟨c134, l132⟩ : Grf) (anchors_1.getD ((i95).toNat) 0) (anchors_1.getD ((k133).toNat) 0) v137 hc11) rfl (wNone rfl) rfl rfl rfl rfl rfl rfl ⟨⟨rfl, (.inl ⟨rfl, rfl⟩), trivial⟩, rfl, rfl, trivial⟩ ?_
      refine cVal tt rfl (wNone rfl) rfl rfl rfl trivial ?_
      refine cNil ?_
      change VC _ _ _ _
      refine vCond rfl (fun hb12 => ?_) (fun hb12 => ?_)
      ·replace h := cnd_t hb12 h
       refine vRegionN 10 [] [0, 0, 0, 6, 14, 0, 0, 96, 224, 510, 1023, 2047] (by kernel_rfl) (by kernel_rfl) (by kernel_rfl) (by kernel_rfl) (by kernel_rfl) rfl (by rfl) ?_
       iterate 3 refine nVal tt rfl (wNone rfl) rfl rfl rfl rfl rfl trivial ?_
       refine nVal tt rfl (wNone rfl) rfl rfl rfl rfl rfl hg9 ?_
       iterate 3 refine nVal tt rfl (wNone rfl) rfl rfl rfl rfl rfl trivial ?_
       refine nVal tt rfl (wNone rfl) rfl rfl rfl rfl rfl hg10 ?_
       refine nVal tt rfl (wNone rfl) rfl rfl rfl rfl rfl trivial ?_
       refine nPure (wNone rfl) (pBuild bld_impl_Bar rfl rfl) rfl rfl rfl rfl ?_
       refine nNil ?_
       change VO _ _ _ _ _
       obtain ⟨v138, hc13, h⟩ := bind_inv h
       refine oCall (S_l2Put_w N (⟨c134, l132⟩ : Grf) ((anchors_1.getD ((i95).toNat) 0), (anchors_1.getD ((k133).toNat) 0)) v138 hc13) rfl rfl rfl rfl rfl rfl rfl rfl ⟨⟨rfl, (.inl ⟨rfl, rfl⟩), trivial⟩, ⟨rfl, rfl, trivial⟩, trivial⟩ ?_
       refine oStore tt rfl rfl rfl rfl rfl rfl rfl rfl rfl rfl rfl ⟨trivial, trivial, trivial⟩ ?_
       refine vNil ?_
       change VC _ _ _ _
       refine vRegion ?_
       refine oVal tt rfl rfl rfl rfl rfl trivial ?_
       obtain ⟨hg14, h⟩ := grd_inv h
       refine oVal tt rfl rfl rfl rfl rfl hg14 ?_
       refine oVal tt rfl rfl rfl rfl rfl trivial ?_
       refine vNil ?_
       change ∃ _, _
       exact ⟨(v138.bars, (k133 + (1 : Int)), v138.n), (En.ren [1100] [1510] rfl ⟨.inr rfl, .inr rfl, .inr rfl, .inr rfl, .inr rfl, trivial⟩ ⟨.inr rfl, trivial⟩ ⟨.inr ⟨_, _, rfl, rfl, ⟨.inr rfl, .inr rfl, trivial⟩⟩, .inr ⟨_, _, rfl, rfl, ⟨.inr rfl, .inr rfl, trivial⟩⟩, trivial⟩), h⟩
      ·replace h := cnd_f hb12 h
       refine vSkip ?_
       change VC _ _ _ _
       refine vRegion ?_
       refine oVal tt rfl rfl rfl rfl rfl trivial ?_
       obtain ⟨hg15, h⟩ := grd_inv h
       refine oVal tt rfl rfl rfl rfl rfl hg15 ?_
       refine oVal tt rfl rfl rfl rfl rfl trivial ?_
       refine vNil ?_
       change ∃ _, _
       exact ⟨(l132, (k133 + (1 : Int)), c134), (En.of ⟨rfl, rfl, rfl, rfl, rfl, trivial⟩ ⟨rfl, trivial⟩ ⟨rfl, rfl, trivial⟩), h⟩
     ·replace h := cnd_f hb8 h
      refine vExit ?_
      change ∃ _, _
      exact ⟨(l132, c134), (En.of ⟨rfl, rfl, rfl, rfl, trivial⟩ ⟨rfl, trivial⟩ ⟨rfl, rfl, trivial⟩), h⟩
   ·replace h := cnd_f hb6 h
    refine vExit ?_
    change ∃ _, _
    exact ⟨(l94, c96), (En.of ⟨rfl, rfl, trivial⟩ ⟨rfl, trivial⟩ ⟨rfl, rfl, trivial⟩), h⟩
end Go.Proofs.Ytmoamglpocjhgaa
namespace Go.Proofs.Ytmoamglpocjhgaa
variable {n : Nat} {N : Nat}
def sameB (a b : Int) (e : Int × Int) : Bool := (e.1 == a && e.2 == b) || (e.1 == b && e.2 == a)
def cntB (l : List (Int × Int)) (a b : Int) : Int := (l.countP (sameB a b) : Int)
theorem cntB_take {l : List (Int × Int)} {a b : Int} {i : Nat} (hi : i < l.length) : cntB (l.take (i + 1)) a b = cntB (l.take i) a b + (if sameB a b (l.getD i (0, 0)) then 1 else 0) := by
 have e : l.take (i + 1) = l.take i ++ [l.getD i (0, 0)] := by
  rw [List.take_add_one, List.getElem?_eq_getElem hi, List.getD_eq_getElem?_getD, List.getElem?_eq_getElem hi]; rfl
 rw [e]; unfold cntB
 rw [List.countP_append, List.countP_singleton]
 split <;> simp
theorem cntB_zero {l : List (Int × Int)} {a b : Int} : (cntB l a b == 0) = l.all fun e => !sameB a b e := by
 rw [Bool.eq_iff_iff, beq_iff_eq, List.all_eq_true]
 unfold cntB
 constructor
 ·intro h e he
  have h2 : l.countP (sameB a b) = 0 := by omega
  rw [List.countP_eq_zero] at h2
  have := h2 e he
  simpa using this
 ·intro h
  have h2 : l.countP (sameB a b) = 0 := List.countP_eq_zero.2 fun e he => by have := h e he; simpa using this
  omega
theorem countS_s (hN : 4000000 ≤ N) {g : Grf} (hb : g.bars.length ≤ 3000000) (a b : Int) : S_CountBar N g a b = some (cntB g.bars a b) := by
 unfold S_CountBar
 refine Eq.trans ?_ ((fold (N := N) (len := g.bars.length) (σ := Int) (st := fun i => cntB (g.bars.take i) a b) (F := fun m s => S_CountBar_l1 N g a b (fun n3 => some n3) m (s.1, s.2)) (fin := some (cntB g.bars a b)) (by omega) (fun m i hi => ?_) fun m => ?_))
 ·simp [cntB]
 ·show S_CountBar_l1 N g a b _ (m + 1) (cntB (g.bars.take i) a b, (i : Int)) = S_CountBar_l1 N g a b _ m (cntB (g.bars.take (i + 1)) a b, ((i + 1 : Nat) : Int))
  have hc := cntB_take (a := a) (b := b) hi
  have hn : 0 ≤ cntB (g.bars.take i) a b ∧ cntB (g.bars.take i) a b ≤ 3000000 := by
   unfold cntB
   have h1 := List.countP_le_length (p := sameB a b) (l := g.bars.take i)
   have h2 : (g.bars.take i).length ≤ g.bars.length := by rw [List.length_take]; omega
   omega
  rw [S_CountBar_l1, cnd_dt (by omega), grd_pos (by omega), show ((i : Int)).toNat = i from by omega, hc]
  generalize g.bars.getD i (0, 0) = e
  generalize cntB (g.bars.take i) a b = c at hn
  have g1 : ∀ x : Option Int, grd (Rg64 (c + 1)) x = x := fun x => grd_R (by omega) (by omega) x
  have g2 : ∀ x : Option Int, grd (Rg64 ((i : Int) + 1)) x = x := fun x => grd_R (by omega) (by omega) x
  have e9 : (((i + 1 : Nat)) : Int) = (i : Int) + 1 := by omega
  simp only [g1, g2, sameB, e9]
  rcases Bool.eq_false_or_eq_true (e.1 == a) with h1 | h1 <;> rcases Bool.eq_false_or_eq_true (e.2 == b) with h2 | h2 <;> rcases Bool.eq_false_or_eq_true (e.1 == b) with h3 | h3 <;> rcases Bool.eq_false_or_eq_true (e.2 == a) with h4 | h4 <;>
   simp only [h1, h2, h3, h4, cnd_true, cnd_false, Bool.and_true, Bool.and_false, Bool.true_and, Bool.false_and, Bool.or_true, Bool.or_false, Bool.true_or, Bool.false_or, Bool.and_self, Bool.or_self, if_true, Bool.false_eq_true, if_false, Int.add_zero]
 ·show S_CountBar_l1 N g a b _ (m + 1) (cntB (g.bars.take g.bars.length) a b, (g.bars.length : Int)) = _
  rw [S_CountBar_l1, cnd_df (by omega), List.take_length]
theorem countI_s (hN : 4000000 ≤ N) {g : Grf} (hb : g.bars.length ≤ 3000000) (a b : Int) : I_CountBar N g a b = some (cntB g.bars a b) := by
 unfold I_CountBar
 refine Eq.trans ?_ ((fold (N := N) (len := g.bars.length) (σ := Int) (st := fun i => cntB (g.bars.take i) a b) (F := fun m s => I_CountBar_l1 N g a b (fun n3 => some n3) m (s.1, s.2)) (fin := some (cntB g.bars a b)) (by omega) (fun m i hi => ?_) fun m => ?_))
 ·simp [cntB]
 ·show I_CountBar_l1 N g a b _ (m + 1) (cntB (g.bars.take i) a b, (i : Int)) = I_CountBar_l1 N g a b _ m (cntB (g.bars.take (i + 1)) a b, ((i + 1 : Nat) : Int))
  have hc := cntB_take (a := a) (b := b) hi
  have hn : 0 ≤ cntB (g.bars.take i) a b ∧ cntB (g.bars.take i) a b ≤ 3000000 := by
   unfold cntB
   have h1 := List.countP_le_length (p := sameB a b) (l := g.bars.take i)
   have h2 : (g.bars.take i).length ≤ g.bars.length := by rw [List.length_take]; omega
   omega
  rw [I_CountBar_l1, cnd_dt (by omega), grd_pos (by omega), show ((i : Int)).toNat = i from by omega, hc]
  generalize g.bars.getD i (0, 0) = e
  generalize cntB (g.bars.take i) a b = c at hn
  have g1 : ∀ x : Option Int, grd (Rg64 (c + 1)) x = x := fun x => grd_R (by omega) (by omega) x
  have g2 : ∀ x : Option Int, grd (Rg64 ((i : Int) + 1)) x = x := fun x => grd_R (by omega) (by omega) x
  have e9 : (((i + 1 : Nat)) : Int) = (i : Int) + 1 := by omega
  simp only [g1, g2, sameB, e9]
  rcases Bool.eq_false_or_eq_true (e.1 == a) with h1 | h1 <;> rcases Bool.eq_false_or_eq_true (e.2 == b) with h2 | h2 <;> rcases Bool.eq_false_or_eq_true (e.1 == b) with h3 | h3 <;> rcases Bool.eq_false_or_eq_true (e.2 == a) with h4 | h4 <;>
   simp only [h1, h2, h3, h4, cnd_true, cnd_false, Bool.and_true, Bool.and_false, Bool.true_and, Bool.false_and, Bool.or_true, Bool.or_false, Bool.true_or, Bool.false_or, Bool.and_self, Bool.or_self, if_true, Bool.false_eq_true, if_false, Int.add_zero]
 ·show I_CountBar_l1 N g a b _ (m + 1) (cntB (g.bars.take g.bars.length) a b, (g.bars.length : Int)) = _
  rw [I_CountBar_l1, cnd_df (by omega), List.take_length]
theorem putP_s (hN : 4000000 ≤ N) {g : Grf} (hl : g.bars.length ≤ 1000) (x : Int × Int) (hs : Srt g.bars) : ∃ L, S_l2Put N g x = some ⟨g.n, L⟩ ∧ Srt L ∧ L.Perm (x :: g.bars) := by
 have keyT : ∀ {kk : (List (Int × Int) × Bool) → Option Grf} (fuel i : Nat) (l : List (Int × Int)), i ≤ g.bars.length → g.bars.length < fuel + i → l.length ≤ i + 1 →
   S_l2Put_l1 N g x kk fuel (l, true, (i : Int)) = kk (l ++ g.bars.drop i, true) := by
  intro kk fuel
  induction fuel with
  | zero => intro i l h1 h2; omega
  | succ fuel ih =>
   intro i l h1 h2 h3
   rw [S_l2Put_l1]
   by_cases hi : i < g.bars.length
   ·have e : g.bars.drop i = g.bars.getD i (0, 0) :: g.bars.drop (i + 1) := by
     rw [List.drop_eq_getElem_cons hi]
     simp [List.getD_eq_getElem?_getD, List.getElem?_eq_getElem hi]
    have := ih (i + 1) (l ++ [g.bars.getD i (0, 0)]) (by omega) (by omega) (by simp; omega)
    rw [e]
    simp (disch := omega) only [Int.toNat_natCast, tk0, List.length_cons, List.length_nil, grd_pos, grd_T, grd_R, cnd_dt, cnd_df, cnd_true, cnd_false, Option.bind_some, Bool.not_true, succ_cast]
    refine this.trans ?_
    simp
   ·have e : i = g.bars.length := by omega
    subst e
    simp (disch := omega) only [Int.toNat_natCast, tk0, List.length_cons, List.length_nil, grd_pos, grd_T, grd_R, cnd_dt, cnd_df, cnd_true, cnd_false, Option.bind_some]
    simp
 have keyF : ∀ {kk : (List (Int × Int) × Bool) → Option Grf} (fuel i : Nat), i ≤ g.bars.length → g.bars.length < fuel + i → (∀ e ∈ g.bars.take i, barLeB e x = true) →
   (∃ A B, g.bars = A ++ B ∧ (∀ e ∈ A, barLeB e x = true) ∧ (∀ b l, B = b :: l → barLeB b x = false) ∧ S_l2Put_l1 N g x kk fuel (g.bars.take i, false, (i : Int)) = kk (A ++ x :: B, true)) ∨
   ((∀ e ∈ g.bars, barLeB e x = true) ∧ S_l2Put_l1 N g x kk fuel (g.bars.take i, false, (i : Int)) = kk (g.bars, false)) := by
  intro kk fuel
  induction fuel with
  | zero => intro i h1 h2; omega
  | succ fuel ih =>
   intro i h1 h2 h3
   by_cases hi : i < g.bars.length
   ·have hd : g.bars.getD i (0, 0) = g.bars[i] := by simp [List.getD_eq_getElem?_getD, List.getElem?_eq_getElem hi]
    have htl : (g.bars.take i).length = i := by simp; omega
    have etk : g.bars.take i ++ [g.bars.getD i (0, 0)] = g.bars.take (i + 1) := by
     rw [List.take_add_one, List.getElem?_eq_getElem hi, hd]; rfl
    cases hb : barLeB (g.bars.getD i (0, 0)) x with
    | false =>
     left
     refine ⟨g.bars.take i, g.bars.drop i, (List.take_append_drop i g.bars).symm, h3, fun b l e => ?_, ?_⟩
     ·rw [List.drop_eq_getElem_cons hi] at e
      cases e
      rw [← hd]; exact hb
     ·rw [S_l2Put_l1]
      have := keyT (kk := kk) fuel (i + 1) (g.bars.take i ++ [x] ++ [g.bars.getD i (0, 0)]) (by omega) (by omega) (by simp; omega)
      simp (disch := omega) only [Int.toNat_natCast, tk0, List.length_cons, List.length_nil, grd_pos, grd_T, grd_R, cnd_dt, cnd_df, cnd_true, cnd_false, Option.bind_some, Bool.not_false, l2After_s, hb, List.length_append, succ_cast, htl]
      refine this.trans ?_
      congr 2
      have : g.bars.drop i = g.bars.getD i (0, 0) :: g.bars.drop (i + 1) := by rw [List.drop_eq_getElem_cons hi, hd]
      rw [this]; simp
    | true =>
     have step : S_l2Put_l1 N g x kk (fuel + 1) (g.bars.take i, false, (i : Int)) = S_l2Put_l1 N g x kk fuel (g.bars.take (i + 1), false, ((i + 1 : Nat) : Int)) := by
      rw [S_l2Put_l1]
      simp (disch := omega) only [Int.toNat_natCast, tk0, List.length_cons, List.length_nil, grd_pos, grd_T, grd_R, cnd_dt, cnd_df, cnd_true, cnd_false, Option.bind_some, Bool.not_false, Bool.not_true, l2After_s, hb, succ_cast, htl]
      rw [show ((g.bars.getD i (0, 0)).1, (g.bars.getD i (0, 0)).2) = g.bars.getD i (0, 0) from rfl, etk]
     rw [step]
     refine ih (i + 1) (by omega) (by omega) fun e he => ?_
     rw [← etk] at he
     rcases List.mem_append.1 he with he | he
     ·exact h3 e he
     ·rw [List.mem_singleton] at he; subst he; exact hb
   ·have e : i = g.bars.length := by omega
    subst e
    right
    rw [List.take_length] at h3 ⊢
    refine ⟨h3, ?_⟩
    rw [S_l2Put_l1]
    simp (disch := omega) only [Int.toNat_natCast, tk0, List.length_cons, List.length_nil, grd_pos, grd_T, grd_R, cnd_dt, cnd_df, cnd_true, cnd_false, Option.bind_some]
 have e0 : S_l2Put N g x = S_l2Put_l1 N g x (fun (x_ : (List (Int × Int)) × Bool) =>
   match x_ with
   | (l10, placed11) =>
    cnd (!placed11) (
     grd (l10.length + 1 ≤ 4294967296) <|
     some (⟨g.n, (l10 ++ ([(x.1, x.2)] : List (Int × Int)))⟩ : Grf)) (
     some (⟨g.n, l10⟩ : Grf))) N (g.bars.take 0, false, ((0 : Nat) : Int)) := rfl
 rcases keyF (kk := fun (x_ : (List (Int × Int)) × Bool) =>
   match x_ with
   | (l10, placed11) =>
    cnd (!placed11) (
     grd (l10.length + 1 ≤ 4294967296) <|
     some (⟨g.n, (l10 ++ ([(x.1, x.2)] : List (Int × Int)))⟩ : Grf)) (
     some (⟨g.n, l10⟩ : Grf))) N 0 (by omega) (by omega) (fun e he => by simp at he) with ⟨A, B, h1, h2, h3, h4⟩ | ⟨h1, h2⟩
 ·refine ⟨A ++ x :: B, e0.trans (h4.trans rfl), srt_put (by rw [← h1]; exact hs) h2 h3, ?_⟩
  rw [h1]; exact List.perm_middle
 ·refine ⟨g.bars ++ [x], e0.trans (h2.trans ?_), ?_, List.perm_append_singleton x g.bars⟩
  ·simp (disch := omega) only [Int.toNat_natCast, tk0, List.length_cons, List.length_nil, grd_pos, grd_T, grd_R, cnd_dt, cnd_df, cnd_true, cnd_false, Option.bind_some, Bool.not_false]
  ·have := srt_put (A := g.bars) (B := []) (x := x) (by simpa using hs) h1 (fun b l h => by cases h)
   exact this
theorem srtB_srt (l : List (Int × Int)) : Srt (srtB l) := by
 have h := List.pairwise_mergeSort (le := fun x y : Int × Int => !(ltOf cmpB) y x) (fun a b c h1 h2 => by rw [ltB] at *; simp at *; omega) (fun a b => by rw [ltB, ltB]; simp; omega) l
 refine h.imp fun {a b} h => ?_
 rw [ltB] at h
 simp only [barLeB, Bool.or_eq_true, Bool.and_eq_true, decide_eq_true_eq, beq_iff_eq]
 simp at h
 omega
theorem srt_uniq {l l' : List (Int × Int)} (h : Srt l) (h' : Srt l') (hp : l.Perm l') : l = l' :=
 List.Perm.eq_of_pairwise (le := fun x y => barLeB x y = true) (fun a b _ _ h1 h2 => by
  simp only [barLeB, Bool.or_eq_true, Bool.and_eq_true, decide_eq_true_eq, beq_iff_eq] at h1 h2
  exact Prod.ext (by omega) (by omega)) h h' hp
theorem put_srt (hN : 4000000 ≤ N) {c : Int} {L : List (Int × Int)} (hl : L.length ≤ 1000) (hs : Srt L) (x : Int × Int) : S_l2Put N ⟨c, L⟩ x = some ⟨c, srtB (L ++ [x])⟩ := by
 obtain ⟨L', h1, h2, h3⟩ := putP_s hN (g := ⟨c, L⟩) hl x hs
 rw [h1, srt_uniq h2 (srtB_srt (L ++ [x])) (h3.trans ?_)]
 exact ((List.perm_append_singleton x L).symm.trans (List.mergeSort_perm _ _).symm)
theorem withBars_s (hN : 4000000 ≤ N) {c : Int} {L : List (Int × Int)} (hl : L.length ≤ 1000) (x : Int × Int) : I_withBars N ⟨c, L⟩ [x] = some ⟨c, srtB (L ++ [x])⟩ := by
 unfold I_withBars I_copyGraph
 have hl2 : (L ++ [x]).length ≤ 1001 := by simp; omega
 rw [grd_pos (by show L.length ≤ _; omega), Option.bind_some]
 show grd ((([] : List (Int × Int)) ++ L).length + [x].length ≤ 4294967296) ((G_SortFunc_Bar N (([] ++ L) ++ [x])).bind _) = _
 rw [List.nil_append, grd_pos (by simp; omega)]
 unfold G_SortFunc_Bar
 rw [grd_pos (by omega), Option.bind_some]
 show grd (([] ++ L ++ [x]).length = (srtB (L ++ [x])).length) _ = _
 rw [grd_pos (by rw [srtB_len, List.nil_append])]
theorem graph_srt {g : Grf} (h : isGraph g = true) : Srt g.bars := by
 have hp := (isGraph_parts h).2.2
 have ad : ∀ i, i + 1 < g.bars.length → barLeB (g.bars.getD i (0, 0)) (g.bars.getD (i + 1) (0, 0)) = true := by
  intro i hi
  have := hp (i + 1) hi
  simp only [barAt, Bool.and_eq_true, Bool.or_eq_true, decide_eq_true_eq, Nat.add_sub_cancel] at this
  rcases this.2 with h | h
  ·omega
  ·exact h
 have key : ∀ d i, i + d + 1 < g.bars.length → barLeB (g.bars.getD i (0, 0)) (g.bars.getD (i + d + 1) (0, 0)) = true := by
  intro d
  induction d with
  | zero => intro i hi; exact ad i hi
  | succ d ih => intro i hi; exact le_trans' (ih i (by omega)) (ad (i + d + 1) (by omega))
 unfold Srt
 rw [List.pairwise_iff_getElem]
 intro i j hi hj hij
 have := key (j - i - 1) i (by omega)
 rw [show i + (j - i - 1) + 1 = j from by omega] at this
 simpa [List.getD_eq_getElem?_getD, hi, hj] using this
theorem asc_lt {n : Int} {A : List Int} (h : asc n A = true) : ∀ p q : Nat, p < q → q < A.length → A.getD p 0 < A.getD q 0 := by
 have h1 : ∀ i, i < A.length → ascAt n A i = true := by
  simpa [asc, List.all_eq_true] using h
 have h2 : ∀ d p, p + d + 1 < A.length → A.getD p 0 < A.getD (p + d + 1) 0 := by
  intro d
  induction d with
  | zero =>
   intro p hp
   have := h1 (p + 1) hp
   simp only [ascAt, Bool.and_eq_true, Bool.or_eq_true, decide_eq_true_eq, Nat.add_sub_cancel] at this
   show A.getD p 0 < A.getD (p + 1) 0
   rcases this.2 with h | h
   ·omega
   ·exact h
  | succ d ih =>
   intro p hp
   have a1 := ih p (by omega)
   have := h1 (p + d + 1 + 1) (by omega)
   simp only [ascAt, Bool.and_eq_true, Bool.or_eq_true, decide_eq_true_eq, Nat.add_sub_cancel] at this
   show A.getD p 0 < A.getD (p + d + 1 + 1) 0
   rcases this.2 with h | h
   ·omega
   ·omega
 intro p q hpq hq
 have := h2 (q - p - 1) p (by omega)
 rwa [show p + (q - p - 1) + 1 = q from by omega] at this
theorem asc_len8 {n : Int} {A : List Int} (h : asc n A = true) (hn : n ≤ 8) : A.length ≤ 8 := by
 have h1 : ∀ i, i < A.length → ascAt n A i = true := by
  simpa [asc, List.all_eq_true] using h
 have h2 : ∀ i, i < A.length → (i : Int) ≤ A.getD i 0 := by
  intro i
  induction i with
  | zero =>
   intro hi
   have := h1 0 hi
   simp only [ascAt, inB, Bool.and_eq_true, decide_eq_true_eq] at this
   omega
  | succ i ih =>
   intro hi
   have := ih (by omega)
   have := asc_lt h i (i + 1) (by omega) hi
   omega
 by_cases h0 : A.length = 0
 ·omega
 ·have a := h2 (A.length - 1) (by omega)
  have b := h1 (A.length - 1) (by omega)
  simp only [ascAt, inB, Bool.and_eq_true, decide_eq_true_eq] at b
  omega
structure AInv (g : Grf) (A : List Int) (i k : Nat) (L : List (Int × Int)) : Prop where
 srt : Srt L
 len : L.length ≤ 24 + 10 * i + k
 sub : ∀ e ∈ g.bars, e ∈ L
 orig : ∀ e ∈ L, e ∈ g.bars ∨ ∃ p q : Nat, p < q ∧ q < A.length ∧ (p < i ∨ (p = i ∧ q < k)) ∧ e = (A.getD p 0, A.getD q 0)
theorem AInv.cnt {g : Grf} {A : List Int} {i k : Nat} {L : List (Int × Int)} (h : AInv g A i k L) (ha : ∀ p q : Nat, p < q → q < A.length → A.getD p 0 < A.getD q 0) (hik : i < k) (hk : k < A.length) :
  (cntB L (A.getD i 0) (A.getD k 0) == 0) = (cntB g.bars (A.getD i 0) (A.getD k 0) == 0) := by
 rw [cntB_zero, cntB_zero, Bool.eq_iff_iff, List.all_eq_true, List.all_eq_true]
 constructor
 ·intro h2 e he; exact h2 e (h.sub e he)
 ·intro h2 e he
  rcases h.orig e he with he | ⟨p, q, h3, h4, h5, rfl⟩
  ·exact h2 e he
  ·have a1 := ha p q h3 h4
   have a2 := ha i k hik hk
   simp only [sameB, Bool.not_eq_true', Bool.or_eq_false_iff, Bool.and_eq_false_iff, beq_eq_false_iff_ne]
   rcases h5 with h5 | ⟨rfl, h5⟩
   ·have a3 := ha p i h5 (by omega)
    exact ⟨.inl (by omega), .inl (by omega)⟩
   ·have a3 := ha q k h5 hk
    exact ⟨.inr (by omega), .inl (by omega)⟩
def aStep (g : Grf) (A : List Int) (i k : Nat) (L : List (Int × Int)) : List (Int × Int) := cnd (cntB g.bars (A.getD i 0) (A.getD k 0) == 0) (srtB (L ++ [(A.getD i 0, A.getD k 0)])) L
theorem AInv.step {g : Grf} {A : List Int} {i k : Nat} {L : List (Int × Int)} (h : AInv g A i k L) (hik : i < k) (hk : k < A.length) : AInv g A i (k + 1) (aStep g A i k L) := by
 unfold aStep
 cases (cntB g.bars (A.getD i 0) (A.getD k 0) == 0) with
 | true =>
  rw [cnd_true]
  have hm : ∀ e, e ∈ srtB (L ++ [(A.getD i 0, A.getD k 0)]) ↔ e ∈ L ∨ e = (A.getD i 0, A.getD k 0) := fun e => by simp [srtB]
  refine ⟨srtB_srt _, ?_, fun e he => (hm e).2 (.inl (h.sub e he)), fun e he => ?_⟩
  ·rw [srtB_len]; have := h.len; simp; omega
  ·rcases (hm e).1 he with he | rfl
   ·rcases h.orig e he with he | ⟨p, q, h3, h4, h5, rfl⟩
    ·exact .inl he
    ·exact .inr ⟨p, q, h3, h4, by omega, rfl⟩
   ·exact .inr ⟨i, k, hik, hk, by omega, rfl⟩
 | false =>
  rw [cnd_false]
  refine ⟨h.srt, by have := h.len; omega, h.sub, fun e he => ?_⟩
  rcases h.orig e he with he | ⟨p, q, h3, h4, h5, rfl⟩
  ·exact .inl he
  ·exact .inr ⟨p, q, h3, h4, by omega, rfl⟩
theorem AInv.next {g : Grf} {A : List Int} {i : Nat} {L : List (Int × Int)} (h8 : A.length ≤ 8) (h : AInv g A i A.length L) : AInv g A (i + 1) (i + 2) L :=
 ⟨h.srt, by have := h.len; omega, h.sub, fun e he => by
  rcases h.orig e he with he | ⟨p, q, h3, h4, h5, rfl⟩
  ·exact .inl he
  ·exact .inr ⟨p, q, h3, h4, by omega, rfl⟩⟩
theorem anch_l2 (hN : 4000000 ≤ N) {g : Grf} (hb : g.bars.length ≤ 24) {A : List Int} (h8 : A.length ≤ 8) (ha : ∀ p q : Nat, p < q → q < A.length → A.getD p 0 < A.getD q 0) {i : Nat} (hi : i < A.length) {kS kI : List (Int × Int) × Int → Option (Grf × Bool)} :
  ∀ (fuel x : Nat) (L : List (Int × Int)), i + 1 + x ≤ A.length → A.length < fuel + (i + 1 + x) → AInv g A i (i + 1 + x) L →
  ∃ L', AInv g A i A.length L' ∧ S_AnchoredGraph_l2 N A (i : Int) kS fuel (L, ((i + 1 + x : Nat) : Int), g.n) = kS (L', g.n) ∧ I_AnchoredGraph_l2 N g A (i : Int) kI fuel (L, (x : Int), g.n) = kI (L', g.n) := by
 intro fuel
 induction fuel with
 | zero => intro x L h1 h2; omega
 | succ fuel ih =>
  intro x L h1 h2 hI
  have et : (A.take A.length).drop (((i : Int) + 1).toNat) = A.drop (i + 1) := by rw [List.take_length, show ((i : Int) + 1).toNat = i + 1 from by omega]
  have el : (A.drop (i + 1)).length = A.length - (i + 1) := List.length_drop
  have eg : (A.drop (i + 1)).getD x 0 = A.getD (i + 1 + x) 0 := by rw [List.getD_eq_getElem?_getD, List.getElem?_drop, ← List.getD_eq_getElem?_getD]
  have ei : ((i : Int)).toNat = i := by omega
  have ex : ((x : Int)).toNat = x := by omega
  have ek : (((i + 1 + x : Nat) : Int)).toNat = i + 1 + x := by omega
  have hlL := hI.len
  rw [S_AnchoredGraph_l2, I_AnchoredGraph_l2, et, el, ei, ex, ek, eg]
  by_cases hk : i + 1 + x < A.length
  ·have hst := hI.step (by omega) hk
   have hc := hI.cnt ha (by omega) hk
   have hab := ha i (i + 1 + x) (by omega) hk
   rw [cnd_dt (by omega), cnd_dt (by omega), grd_pos (by omega), grd_pos (by omega), grd_pos (p := 0 ≤ (x : Int) ∧ (x : Int) < ((A.length - (i + 1) : Nat) : Int)) (by omega), countS_s hN (g := ⟨g.n, L⟩) (by show L.length ≤ _; omega), countI_s hN (by omega), Option.bind_some, Option.bind_some]
   rw [show cntB (Grf.mk g.n L).bars (A.getD i 0) (A.getD (i + 1 + x) 0) = cntB L (A.getD i 0) (A.getD (i + 1 + x) 0) from rfl, hc]
   have ebar : I_bar N (A.getD i 0) (A.getD (i + 1 + x) 0) = some (A.getD i 0, A.getD (i + 1 + x) 0) := by
    unfold I_bar; rw [show min (A.getD i 0) (A.getD (i + 1 + x) 0) = A.getD i 0 from by omega, show max (A.getD i 0) (A.getD (i + 1 + x) 0) = A.getD (i + 1 + x) 0 from by omega]
   rw [ebar, Option.bind_some, put_srt hN (by omega) hI.srt, withBars_s hN (by omega), Option.bind_some, Option.bind_some]
   obtain ⟨L', g1, g2, g3⟩ := ih (x + 1) (aStep g A i (i + 1 + x) L) (by omega) (by omega) hst
   refine ⟨L', g1, ?_, ?_⟩
   ·rw [← g2]
    unfold aStep
    cases (cntB g.bars (A.getD i 0) (A.getD (i + 1 + x) 0) == 0) with
    | true => rw [cnd_true, cnd_true, grd_R (by omega) (by omega)]; rfl
    | false => rw [cnd_false, cnd_false, grd_R (by omega) (by omega)]; rfl
   ·rw [← g3]
    unfold aStep
    cases (cntB g.bars (A.getD i 0) (A.getD (i + 1 + x) 0) == 0) with
    | true => rw [cnd_true, cnd_true, grd_R (by omega) (by omega)]; rfl
    | false => rw [cnd_false, cnd_false, grd_R (by omega) (by omega)]; rfl
  ·have e : i + 1 + x = A.length := by omega
   rw [cnd_df (by omega), cnd_df (by omega)]
   exact ⟨L, by rw [← e]; exact hI, rfl, rfl⟩
theorem anch_l1 (hN : 4000000 ≤ N) {g : Grf} (hb : g.bars.length ≤ 24) {A : List Int} (h8 : A.length ≤ 8) (ha : ∀ p q : Nat, p < q → q < A.length → A.getD p 0 < A.getD q 0) {kS kI : List (Int × Int) × Int → Option (Grf × Bool)} :
  ∀ (fuel i : Nat) (L : List (Int × Int)), i ≤ A.length → A.length < fuel + i → AInv g A i (i + 1) L →
  ∃ L', L'.length ≤ 1000 ∧ S_AnchoredGraph_l1 N A kS fuel (L, (i : Int), g.n) = kS (L', g.n) ∧ I_AnchoredGraph_l1 N g A kI fuel (L, (i : Int), g.n) = kI (L', g.n) := by
 intro fuel
 induction fuel with
 | zero => intro i L h1 h2; omega
 | succ fuel ih =>
  intro i L h1 h2 hI
  rw [S_AnchoredGraph_l1, I_AnchoredGraph_l1]
  by_cases hi : i < A.length
  ·rw [cnd_dt (by omega), cnd_dt (by omega), grd_R (by omega) (by omega), grd_pos (by omega), grd_R (by omega) (by omega), grd_pos (by omega)]
   obtain ⟨L1, g1, g2, g3⟩ := anch_l2 hN hb h8 ha hi (kS := fun x => match x with | (l127, c128) => S_AnchoredGraph_l1 N A kS fuel (l127, ((i : Int) + 1), c128)) (kI := fun x => match x with | (l160, c161) => I_AnchoredGraph_l1 N g A kI fuel (l160, ((i : Int) + 1), c161)) N 0 L (by omega) (by omega) hI
   obtain ⟨L', k1, k2, k3⟩ := ih (i + 1) L1 (by omega) (by omega) (g1.next h8)
   exact ⟨L', k1, g2.trans k2, g3.trans k3⟩
  ·rw [cnd_df (by omega), cnd_df (by omega)]
   exact ⟨L, by have := hI.len; omega, rfl, rfl⟩
theorem anch_x (hN : 4000000 ≤ N) {g : Grf} (hb : g.bars.length ≤ 3000000) {A : List Int} (hA : A.length ≤ 3000000) : ∃ (r : Grf) (b : Bool), r.bars.length ≤ 1000 ∧ S_AnchoredGraph N g A = some (r, b) ∧ I_AnchoredGraph N g A = some (r, b) := by
 unfold S_AnchoredGraph I_AnchoredGraph S_l2Copy I_copyGraph
 rw [grd_pos (by omega), Option.bind_some, anchS_s N hN hb hA, anchI_s N hN hb hA, Option.bind_some, Option.bind_some]
 cases ho : anchOk g A with
 | false => exact ⟨⟨0, []⟩, false, by simp, rfl, rfl⟩
 | true =>
  rw [Bool.not_true, cnd_false, cnd_false, Option.bind_some]
  simp only [anchOk, isSimple, Bool.and_eq_true] at ho
  have hg := ho.1.1
  have hn := isGraph_n hg
  have h8 := asc_len8 ho.2 (by omega)
  have hs := graph_srt hg
  obtain ⟨L', k1, k2, k3⟩ := anch_l1 hN (by omega) h8 (asc_lt ho.2) (kS := fun x => match x with | (l69, c70) => (S_IsGraph N (⟨c70, l69⟩ : Grf)).bind fun v71 => cnd (!v71) (some ((⟨(0 : Int), ([] : List (Int × Int))⟩ : Grf), false)) (some ((⟨c70, l69⟩ : Grf), true)))
   (kI := fun x => match x with | (l87, c88) => (I_IsGraph N (⟨c88, l87⟩ : Grf)).bind fun v89 => cnd (!v89) (some ((⟨(0 : Int), ([] : List (Int × Int))⟩ : Grf), false)) (some ((⟨c88, l87⟩ : Grf), true))) N 0 g.bars (by omega) (by omega) ⟨hs, by omega, fun e he => he, fun e he => .inl he⟩
  have e : ∀ X : Option (Grf × Bool), X = X := fun _ => rfl
  by_cases h2 : isGraph ⟨g.n, L'⟩ = true
  ·refine ⟨⟨g.n, L'⟩, true, k1, k2.trans ?_, k3.trans ?_⟩
   ·show (S_IsGraph N ⟨g.n, L'⟩).bind _ = _
    rw [isGraphS_s N hN, h2]; rfl
   ·show (I_IsGraph N ⟨g.n, L'⟩).bind _ = _
    rw [isGraphI_s N hN, h2]; rfl
  ·have h2 : isGraph ⟨g.n, L'⟩ = false := by simpa using h2
   refine ⟨⟨0, []⟩, false, by simp, k2.trans ?_, k3.trans ?_⟩
   ·show (S_IsGraph N ⟨g.n, L'⟩).bind _ = _
    rw [isGraphS_s N hN, h2]; rfl
   ·show (I_IsGraph N ⟨g.n, L'⟩).bind _ = _
    rw [isGraphI_s N hN, h2]; rfl
end Go.Proofs.Ytmoamglpocjhgaa
namespace Go.Proofs.Ytmoamglpocjhgaa
open Go.RowKit
def L_FnExactAnchoredGraph (N : Nat) (aG_0 : Grf) (aAnchors_1 : List Int) : Option (Bool) :=
 cnd (decide ((aAnchors_1.length : Int) > (1048576 : Int))) (
  some true) (
  (L_szGraph N aG_0 (1048576 : Int)).bind fun v1 =>
  cnd (decide (v1 < (0 : Int))) (
   some true) (
   (L_toGraph N aG_0).bind fun v2 =>
   (L_toIntS N aAnchors_1).bind fun v3 =>
   (S_AnchoredGraph N v2 v3).bind fun v4 =>
   (L_toGraph N aG_0).bind fun v5 =>
   (L_toIntS N aAnchors_1).bind fun v6 =>
   (I_AnchoredGraph N v5 v6).bind fun v7 =>
   (L_eqGraph N v7.1 v4.1).bind fun v8 =>
   cnd (!v8) (
    some false) (
    cnd (v7.2 != v4.2) (
     some false) (
     (L_toGraph N aG_0).bind fun v9 =>
     (L_eqGraph N v5 v9).bind fun v10 =>
     cnd (!v10) (
      some false) (
      (L_toIntS N aAnchors_1).bind fun v11 =>
      (L_eqIntS N v6 v11).bind fun v12 =>
      cnd (!v12) (
       some false) (
       (L_markGraph N (⟨v5.n, v5.bars⟩ : Grf) (1 : Int)).bind fun v13 =>
       (L_markIntS N v6 v13.1).bind fun v14 =>
       cnd (decide (v14.1 < (0 : Int))) (
        some false) (
        (L_eqGraph N v7.1 v4.1).bind fun v15 =>
        cnd (!v15) (
         some false) (
         (L_markGraph N (⟨v7.1.n, v7.1.bars⟩ : Grf) (1 : Int)).bind fun v16 =>
         grd (v7.1.bars.length = v16.2.length) <|
         (L_heldGraph N (⟨v7.1.n, v16.2⟩ : Grf) (1 : Int)).bind fun v17 =>
         cnd (decide (v17 < (0 : Int))) (
          some false) (
          cnd (v17 != v16.1) (
           some false) (
           (L_toGraph N aG_0).bind fun v18 =>
           (L_toIntS N aAnchors_1).bind fun v19 =>
           (I_AnchoredGraph N v18 v19).bind fun v20 =>
           (L_eqGraph N v20.1 v4.1).bind fun v21 =>
           cnd (!v21) (
            some false) (
            cnd (v20.2 != v4.2) (
             some false) (
             (L_heldGraph N (⟨v7.1.n, v16.2⟩ : Grf) (1 : Int)).bind fun v22 =>
             cnd (decide (v22 < (0 : Int))) (
              some false) (
              cnd (v22 != v16.1) (
               some false) (
               some true))))))))))))))
set_option maxRecDepth 20000 in
set_option maxHeartbeats 1600000 in
theorem L_FnExactAnchoredGraph_w (N : Nat) (aG_0 : Grf) (aAnchors_1 : List Int) (r : Bool) (h : L_FnExactAnchoredGraph N aG_0 aAnchors_1 = some r) : PCall Try.prog 9 [gD aG_0, .ro false (.ints aAnchors_1)] [] (.bool r) := by
 unfold L_FnExactAnchoredGraph at h
 refine pcall_intro (TT := TT) tt Try.func9 rfl rfl Try.ntmps9 (congrArg Array.toList Try.results9) rfl rfl fun w0 => ?_
 refine vSeq ?_
 refine vRegion ?_
 refine oBox rfl rfl rfl rfl rfl rfl rfl rfl rfl ?_
 refine oVal tt rfl rfl rfl rfl rfl trivial ?_
 refine vNil ?_
 change VC _ _ _ _
 iterate 2 refine vSeq ?_
 refine vRegion ?_
 iterate 3 refine oVal tt rfl rfl rfl rfl rfl trivial ?_
 refine vNil ?_
 change VC _ _ _ _
 refine vCond rfl (fun hb1 => ?_) (fun hb1 => ?_)
 ·replace h := cnd_t hb1 h
  refine vSeq ?_
  refine vRegion ?_
  refine oVal tt rfl rfl rfl rfl rfl trivial ?_
  refine vNil ?_
  change VC _ _ _ _
  refine vRet ?_
  change ∃ _, _
  cases h
  exact ⟨[], _, rfl, trivial, rfl, (.eq rfl), rfl⟩
 ·replace h := cnd_f hb1 h
  refine vSkip ?_
  change VC _ _ _ _
  refine vSeq ?_
  refine vRegion ?_
  refine oVal tt rfl rfl rfl rfl rfl trivial ?_
  refine vNil ?_
  change VC _ _ _ _
  refine vSeq ?_
  refine vRegion ?_
  iterate 2 refine oVal tt rfl rfl rfl rfl rfl trivial ?_
  obtain ⟨v1, hc2, h⟩ := bind_inv h
  refine oCall (L_szGraph_w N aG_0 (1048576 : Int) v1 hc2) rfl rfl rfl rfl rfl rfl rfl rfl ⟨⟨rfl, rfl, trivial⟩, rfl, trivial⟩ ?_
  refine oVal tt rfl rfl rfl rfl rfl trivial ?_
  refine vNil ?_
  change VC _ _ _ _
  iterate 2 refine vSeq ?_
  refine vRegion ?_
  iterate 2 refine oVal tt rfl rfl rfl rfl rfl trivial ?_
  refine vNil ?_
  change VC _ _ _ _
  refine vCond rfl (fun hb3 => ?_) (fun hb3 => ?_)
  ·replace h := cnd_t hb3 h
   refine vSeq ?_
   refine vRegion ?_
   refine oVal tt rfl rfl rfl rfl rfl trivial ?_
   refine vNil ?_
   change VC _ _ _ _
   refine vRet ?_
   change ∃ _, _
   cases h
   exact ⟨[], _, rfl, trivial, rfl, (.eq rfl), rfl⟩
  ·replace h := cnd_f hb3 h
   refine vSkip ?_
   change VC _ _ _ _
   refine vSeq ?_
   refine vRegion ?_
   refine oVal tt rfl rfl rfl rfl rfl trivial ?_
   obtain ⟨v2, hc4, h⟩ := bind_inv h
   refine oCall (L_toGraph_w N aG_0 v2 hc4) rfl rfl rfl rfl rfl rfl rfl rfl ⟨⟨rfl, rfl, trivial⟩, trivial⟩ ?_
   refine oVal tt rfl rfl rfl rfl rfl trivial ?_
   obtain ⟨v3, hc5, h⟩ := bind_inv h
   refine oCall (L_toIntS_w N aAnchors_1 v3 hc5) rfl rfl rfl rfl rfl rfl rfl rfl ⟨rfl, trivial⟩ ?_
   obtain ⟨v4, hc6, h⟩ := bind_inv h
   refine oCall (S_AnchoredGraph_w N v2 v3 v4 hc6) rfl rfl rfl rfl rfl rfl rfl rfl ⟨⟨rfl, (.inl ⟨rfl, rfl⟩), trivial⟩, (.inl ⟨rfl, rfl⟩), trivial⟩ ?_
   iterate 3 refine oVal tt rfl rfl rfl rfl rfl trivial ?_
   refine oAlloc tt rfl rfl rfl rfl rfl rfl rfl rfl rfl ?_
   refine oStore tt rfl rfl rfl rfl rfl rfl rfl rfl rfl rfl rfl ⟨trivial, trivial, trivial⟩ ?_
   refine oVal tt rfl rfl rfl rfl rfl trivial ?_
   refine vNil ?_
   change VC _ _ _ _
   refine vSeq ?_
   refine vRegion ?_
   refine oVal tt rfl rfl rfl rfl rfl trivial ?_
   obtain ⟨v5, hc7, h⟩ := bind_inv h
   refine oCall (L_toGraph_w N aG_0 v5 hc7) rfl rfl rfl rfl rfl rfl rfl rfl ⟨⟨rfl, rfl, trivial⟩, trivial⟩ ?_
   refine oAlloc tt rfl rfl rfl rfl rfl rfl rfl rfl rfl ?_
   refine oStore tt rfl rfl rfl rfl rfl rfl rfl rfl rfl rfl rfl ⟨trivial, trivial, trivial⟩ ?_
   refine vNil ?_
   change VC _ _ _ _
   refine vSeq ?_
   refine vRegion ?_
   refine oVal tt rfl rfl rfl rfl rfl trivial ?_
   obtain ⟨v6, hc8, h⟩ := bind_inv h
   refine oCall (L_toIntS_w N aAnchors_1 v6 hc8) rfl rfl rfl rfl rfl rfl rfl rfl ⟨rfl, trivial⟩ ?_
   refine oVal tt rfl rfl rfl rfl rfl trivial ?_
   refine vNil ?_
   change VC _ _ _ _
   refine vSeq ?_
   refine vRegion ?_
   iterate 2 refine oVal tt rfl rfl rfl rfl rfl trivial ?_
   obtain ⟨v7, hc9, h⟩ := bind_inv h
   refine oCall (I_AnchoredGraph_w N v5 v6 v7 hc9) rfl rfl rfl rfl rfl rfl rfl rfl ⟨⟨rfl, (.inl ⟨rfl, rfl⟩), trivial⟩, (.inl ⟨rfl, rfl⟩), trivial⟩ ?_
   iterate 3 refine oVal tt rfl rfl rfl rfl rfl trivial ?_
   refine oAlloc tt rfl rfl rfl rfl rfl rfl rfl rfl rfl ?_
   refine oStore tt rfl rfl rfl rfl rfl rfl rfl rfl rfl rfl rfl ⟨trivial, trivial, trivial⟩ ?_
   refine oVal tt rfl rfl rfl rfl rfl trivial ?_
   refine vNil ?_
   change VC _ _ _ _
   iterate 2 refine vSeq ?_
   refine vRegion ?_
   iterate 2 refine oVal tt rfl rfl rfl rfl rfl trivial ?_
   obtain ⟨v8, hc10, h⟩ := bind_inv h
   refine oCall (L_eqGraph_w N v7.1 v4.1 v8 hc10) rfl rfl rfl rfl rfl rfl rfl rfl ⟨⟨rfl, (.inl ⟨rfl, rfl⟩), trivial⟩, ⟨rfl, (.inl ⟨rfl, rfl⟩), trivial⟩, trivial⟩ ?_
   iterate 2 refine oVal tt rfl rfl rfl rfl rfl trivial ?_
   refine oSplit rfl rfl rfl (fun hb11 => ?_) (fun hb11 => ?_)
   ·replace h := cnd_t hb11 h
    iterate 3 refine oNoF rfl rfl rfl rfl hb11 rfl rfl ?_
    refine oPick rfl rfl rfl rfl rfl hb11 rfl ?_
    refine vNil ?_
    change VC _ _ _ _
    refine vCondT rfl rfl ?_
    refine vSeq ?_
    refine vRegion ?_
    refine oVal tt rfl rfl rfl rfl rfl trivial ?_
    refine vNil ?_
    change VC _ _ _ _
    refine vRet ?_
    change ∃ _, _
    cases h
    exact ⟨[], _, rfl, trivial, rfl, (.eq rfl), rfl⟩
   ·replace h := cnd_f hb11 h
    iterate 2 refine oValG tt rfl rfl rfl rfl rfl hb11 rfl rfl rfl trivial ?_
    refine oPure (wSome rfl rfl rfl rfl hb11) (pNeB Try.underlying4 rfl rfl rfl) rfl rfl ?_
    refine oPickF rfl rfl rfl rfl rfl hb11 rfl ?_
    refine vNil ?_
    change VC _ _ _ _
    refine vCond rfl (fun hb12 => ?_) (fun hb12 => ?_)
    ·replace h := cnd_t hb12 h
     refine vSeq ?_
     refine vRegion ?_
     refine oVal tt rfl rfl rfl rfl rfl trivial ?_
     refine vNil ?_
     change VC _ _ _ _
     refine vRet ?_
     change ∃ _, _
     cases h
     exact ⟨[], _, rfl, trivial, rfl, (.eq rfl), rfl⟩
    ·replace h := cnd_f hb12 h
     refine vSkip ?_
     change VC _ _ _ _
     iterate 2 refine vSeq ?_
     refine vRegionN 3 [2] [0, 0, 2, 7, 15] (by kernel_rfl) (by kernel_rfl) (by kernel_rfl) (by kernel_rfl) (by kernel_rfl) rfl (by rfl) ?_
     iterate 2 refine nVal tt rfl (wNone rfl) rfl rfl rfl rfl rfl trivial ?_
     obtain ⟨v9, hc13, h⟩ := bind_inv h
     refine nCallR (L_toGraph_w N aG_0 v9 hc13) rfl (wNone rfl) rfl rfl rfl rfl rfl rfl (by first | rfl | kernel_rfl | (simp [nrL, nm, gdst, nmT, rowB]; done)) rfl (by first | rfl | kernel_rfl | (simp [chkE, nrL, nm, gdst, nmT, rowB, hid, ment, mentA, mentS]; done) | (simp [chkE, nrL, nm, gdst, nmT, rowB, hid, ment, mentA, mentS]; decide)) ⟨⟨rfl, rfl, trivial⟩, trivial⟩ ?_
     refine nNil ?_
     change VO _ _ _ _ _
     obtain ⟨v10, hc14, h⟩ := bind_inv h
     refine oCall (L_eqGraph_w N v5 v9 v10 hc14) rfl rfl rfl rfl rfl rfl rfl rfl ⟨⟨rfl, (.inl ⟨rfl, rfl⟩), trivial⟩, ⟨rfl, (.inl ⟨rfl, rfl⟩), trivial⟩, trivial⟩ ?_
     refine oVal tt rfl rfl rfl rfl rfl trivial ?_
     refine vNil ?_
     change VC _ _ _ _
     refine vCond rfl (fun hb15 => ?_) (fun hb15 => ?_)
     ·replace h := cnd_t hb15 h
      refine vSeq ?_
      refine vRegion ?_
      refine oVal tt rfl rfl rfl rfl rfl trivial ?_
      refine vNil ?_
      change VC _ _ _ _
      refine vRet ?_
      change ∃ _, _
      cases h
      exact ⟨[], _, rfl, trivial, rfl, (.eq rfl), rfl⟩
     ·replace h := cnd_f hb15 h
      refine vSkip ?_
      change VC _ _ _ _
      iterate 2 refine vSeq ?_
      refine vRegion ?_
      iterate 2 refine oVal tt rfl rfl rfl rfl rfl trivial ?_
      obtain ⟨v11, hc16, h⟩ := bind_inv h
      refine oCall (L_toIntS_w N aAnchors_1 v11 hc16) rfl rfl rfl rfl rfl rfl rfl rfl ⟨rfl, trivial⟩ ?_
      obtain ⟨v12, hc17, h⟩ := bind_inv h
      refine oCall (L_eqIntS_w N v6 v11 v12 hc17) rfl rfl rfl rfl rfl rfl rfl rfl ⟨(.inl ⟨rfl, rfl⟩), (.inl ⟨rfl, rfl⟩), trivial⟩ ?_
      refine oVal tt rfl rfl rfl rfl rfl trivial ?_
      refine vNil ?_
      change VC _ _ _ _
      refine vCond rfl (fun hb18 => ?_) (fun hb18 => ?_)
      ·replace h := cnd_t hb18 h
       refine vSeq ?_
       refine vRegion ?_
       refine oVal tt rfl rfl rfl rfl rfl trivial ?_
       refine vNil ?_
       change VC _ _ _ _
       refine vRet ?_
       change ∃ _, _
       cases h
       exact ⟨[], _, rfl, trivial, rfl, (.eq rfl), rfl⟩
      ·replace h := cnd_f hb18 h
       refine vSkip ?_
       change VC _ _ _ _
       refine vSeq ?_
       refine vRegion ?_
       refine oVal tt rfl rfl rfl rfl rfl trivial ?_
       refine vNil ?_
       change VC _ _ _ _
       refine vSeq ?_
       refine vRegion ?_
       iterate 2 refine oVal tt rfl rfl rfl rfl rfl trivial ?_
       obtain ⟨v13, hc19, h⟩ := bind_inv h
       refine oMCall (L_markGraph_w N (⟨v5.n, v5.bars⟩ : Grf) (1 : Int) v13 hc19) [1340] [] [1340] rfl rfl rfl rfl rfl rfl ⟨rfl, trivial⟩ trivial ⟨⟨⟨rfl, rfl⟩, ⟨rfl, rfl⟩, trivial⟩, ⟨rfl, rfl⟩, trivial⟩ ?_
       refine oVal tt rfl rfl rfl rfl rfl trivial ?_
       refine vNil ?_
       change VC _ _ _ _
       refine vSeq ?_
       refine vRegion ?_
       iterate 2 refine oVal tt rfl rfl rfl rfl rfl trivial ?_
       obtain ⟨v14, hc20, h⟩ := bind_inv h
       refine oMCall (L_markIntS_w N v6 v13.1 v14 hc20) [1360] [] [1360] rfl rfl rfl rfl rfl rfl ⟨rfl, trivial⟩ trivial ⟨⟨rfl, rfl⟩, ⟨rfl, rfl⟩, trivial⟩ ?_
       refine oVal tt rfl rfl rfl rfl rfl trivial ?_
       refine vNil ?_
       change VC _ _ _ _
       iterate 2 refine vSeq ?_
       refine vRegion ?_
       iterate 3 refine oVal tt rfl rfl rfl rfl rfl trivial ?_
       refine oSplit rfl rfl rfl (fun hb21 => ?_) (fun hb21 => ?_)
       ·replace h := cnd_t hb21 h
        iterate 4 refine oNoF rfl rfl rfl rfl hb21 rfl rfl ?_
        refine oPick rfl rfl rfl rfl rfl hb21 rfl ?_
        refine oVal tt rfl rfl rfl rfl rfl trivial ?_
        iterate 3 refine oNoF rfl rfl rfl rfl rfl rfl rfl ?_
        refine oPick rfl rfl rfl rfl rfl rfl rfl ?_
        refine vNil ?_
        change VC _ _ _ _
        refine vCondT rfl rfl ?_
        refine vSeq ?_
        refine vRegion ?_
        refine oVal tt rfl rfl rfl rfl rfl trivial ?_
        refine vNil ?_
        change VC _ _ _ _
        refine vRet ?_
        change ∃ _, _
        cases h
        exact ⟨[], _, rfl, trivial, rfl, (.eq rfl), rfl⟩
       ·replace h := cnd_f hb21 h
        iterate 2 refine oValG tt rfl rfl rfl rfl rfl hb21 rfl rfl rfl trivial ?_
        obtain ⟨v15, hc22, h⟩ := bind_inv h
        refine oCallG (L_eqGraph_w N v7.1 v4.1 v15 hc22) rfl rfl rfl rfl hb21 rfl rfl rfl rfl rfl rfl rfl ⟨⟨rfl, (.inl ⟨rfl, rfl⟩), trivial⟩, ⟨rfl, (.inl ⟨rfl, rfl⟩), trivial⟩, trivial⟩ ?_
        refine oValG tt rfl rfl rfl rfl rfl hb21 rfl rfl rfl trivial ?_
        refine oPickF rfl rfl rfl rfl rfl hb21 rfl ?_
        refine oVal tt rfl rfl rfl rfl rfl trivial ?_
        refine oSplit rfl rfl rfl (fun hb23 => ?_) (fun hb23 => ?_)
        ·replace h := cnd_t hb23 h
         iterate 3 refine oNoF rfl rfl rfl rfl hb23 rfl rfl ?_
         refine oPick rfl rfl rfl rfl rfl hb23 rfl ?_
         refine vNil ?_
         change VC _ _ _ _
         refine vCondT rfl rfl ?_
         refine vSeq ?_
         refine vRegion ?_
         refine oVal tt rfl rfl rfl rfl rfl trivial ?_
         refine vNil ?_
         change VC _ _ _ _
         refine vRet ?_
         change ∃ _, _
         cases h
         exact ⟨[], _, rfl, trivial, rfl, (.eq rfl), rfl⟩
        ·replace h := cnd_f hb23 h
         iterate 2 refine oValG tt rfl rfl rfl rfl rfl hb23 rfl rfl rfl trivial ?_
         refine oPure (wSome rfl rfl rfl rfl hb23) (pNeB Try.underlying4 rfl rfl rfl) rfl rfl ?_
         refine oPickF rfl rfl rfl rfl rfl hb23 rfl ?_
         refine vNil ?_
         change VC _ _ _ _
         refine vCondF rfl hb12 ?_
         refine vSkip ?_
         change VC _ _ _ _
         refine vSeq ?_
         refine vRegion ?_
         refine oVal tt rfl rfl rfl rfl rfl trivial ?_
         refine vNil ?_
         change VC _ _ _ _
         refine vSeq ?_
         refine vRegion ?_
         iterate 2 refine oVal tt rfl rfl rfl rfl rfl trivial ?_
         obtain ⟨v16, hc24, h⟩ := bind_inv h
         refine oMCall (L_markGraph_w N (⟨v7.1.n, v7.1.bars⟩ : Grf) (1 : Int) v16 hc24) [1400] [] [1400] rfl rfl rfl rfl rfl rfl ⟨rfl, trivial⟩ trivial ⟨⟨⟨rfl, rfl⟩, ⟨rfl, rfl⟩, trivial⟩, ⟨rfl, rfl⟩, trivial⟩ ?_
         refine oVal tt rfl rfl rfl rfl rfl trivial ?_
         refine vNil ?_
         change VC _ _ _ _
         refine vSeq ?_
         refine vRegion ?_
         refine oVal tt rfl rfl rfl rfl rfl trivial ?_
         refine vNil ?_
         change VC _ _ _ _
         refine vSeq ?_
         refine vRegion ?_
         iterate 2 refine oVal tt rfl rfl rfl rfl rfl trivial ?_
         obtain ⟨hg25, h⟩ := grd_inv h
         obtain ⟨v17, hc26, h⟩ := bind_inv h
         refine oCall (L_heldGraph_w N (⟨v7.1.n, v16.2⟩ : Grf) (1 : Int) v17 hc26) rfl rfl rfl rfl rfl rfl rfl rfl ⟨⟨rfl, (.inl ⟨hg25, rfl⟩), trivial⟩, rfl, trivial⟩ ?_
         refine oVal tt rfl rfl rfl rfl rfl trivial ?_
         refine vNil ?_
         change VC _ _ _ _
         iterate 2 refine vSeq ?_
         refine vRegion ?_
         iterate 2 refine oVal tt rfl rfl rfl rfl rfl trivial ?_
         refine vNil ?_
         change VC _ _ _ _
         refine vCond rfl (fun hb27 => ?_) (fun hb27 => ?_)
         ·replace h := cnd_t hb27 h
          refine vSeq ?_
          refine vRegion ?_
          refine oVal tt rfl rfl rfl rfl rfl trivial ?_
          refine vNil ?_
          change VC _ _ _ _
          refine vRet ?_
          change ∃ _, _
          cases h
          exact ⟨[], _, rfl, trivial, rfl, (.eq rfl), rfl⟩
         ·replace h := cnd_f hb27 h
          refine vSkip ?_
          change VC _ _ _ _
          iterate 2 refine vSeq ?_
          refine vRegion ?_
          iterate 3 refine oVal tt rfl rfl rfl rfl rfl trivial ?_
          refine vNil ?_
          change VC _ _ _ _
          refine vCond rfl (fun hb28 => ?_) (fun hb28 => ?_)
          ·replace h := cnd_t hb28 h
           refine vSeq ?_
           refine vRegion ?_
           refine oVal tt rfl rfl rfl rfl rfl trivial ?_
           refine vNil ?_
           change VC _ _ _ _
           refine vRet ?_
           change ∃ _, _
           cases h
           exact ⟨[], _, rfl, trivial, rfl, (.eq rfl), rfl⟩
          ·replace h := cnd_f hb28 h
           refine vSkip ?_
           change VC _ _ _ _
           refine vSeq ?_
           refine vRegion ?_
           refine oVal tt rfl rfl rfl rfl rfl trivial ?_
           obtain ⟨v18, hc29, h⟩ := bind_inv h
           refine oCall (L_toGraph_w N aG_0 v18 hc29) rfl rfl rfl rfl rfl rfl rfl rfl ⟨⟨rfl, rfl, trivial⟩, trivial⟩ ?_
           refine oVal tt rfl rfl rfl rfl rfl trivial ?_
           obtain ⟨v19, hc30, h⟩ := bind_inv h
           refine oCall (L_toIntS_w N aAnchors_1 v19 hc30) rfl rfl rfl rfl rfl rfl rfl rfl ⟨rfl, trivial⟩ ?_
           obtain ⟨v20, hc31, h⟩ := bind_inv h
           refine oCall (I_AnchoredGraph_w N v18 v19 v20 hc31) rfl rfl rfl rfl rfl rfl rfl rfl ⟨⟨rfl, (.inl ⟨rfl, rfl⟩), trivial⟩, (.inl ⟨rfl, rfl⟩), trivial⟩ ?_
           iterate 3 refine oVal tt rfl rfl rfl rfl rfl trivial ?_
           refine oAlloc tt rfl rfl rfl rfl rfl rfl rfl rfl rfl ?_
           refine oStore tt rfl rfl rfl rfl rfl rfl rfl rfl rfl rfl rfl ⟨trivial, trivial, trivial⟩ ?_
           refine oVal tt rfl rfl rfl rfl rfl trivial ?_
           refine vNil ?_
           change VC _ _ _ _
           iterate 2 refine vSeq ?_
           refine vRegion ?_
           iterate 2 refine oVal tt rfl rfl rfl rfl rfl trivial ?_
           obtain ⟨v21, hc32, h⟩ := bind_inv h
           refine oCall (L_eqGraph_w N v20.1 v4.1 v21 hc32) rfl rfl rfl rfl rfl rfl rfl rfl ⟨⟨rfl, (.inl ⟨rfl, rfl⟩), trivial⟩, ⟨rfl, (.inl ⟨rfl, rfl⟩), trivial⟩, trivial⟩ ?_
           iterate 2 refine oVal tt rfl rfl rfl rfl rfl trivial ?_
           refine oSplit rfl rfl rfl (fun hb33 => ?_) (fun hb33 => ?_)
           ·replace h := cnd_t hb33 h
            iterate 3 refine oNoF rfl rfl rfl rfl hb33 rfl rfl ?_
            refine oPick rfl rfl rfl rfl rfl hb33 rfl ?_
            refine vNil ?_
            change VC _ _ _ _
            refine vCondT rfl rfl ?_
            refine vSeq ?_
            refine vRegion ?_
            refine oVal tt rfl rfl rfl rfl rfl trivial ?_
            refine vNil ?_
            change VC _ _ _ _
            refine vRet ?_
            change ∃ _, _
            cases h
            exact ⟨[], _, rfl, trivial, rfl, (.eq rfl), rfl⟩
           ·replace h := cnd_f hb33 h
            iterate 2 refine oValG tt rfl rfl rfl rfl rfl hb33 rfl rfl rfl trivial ?_
            refine oPure (wSome rfl rfl rfl rfl hb33) (pNeB Try.underlying4 rfl rfl rfl) rfl rfl ?_
            refine oPickF rfl rfl rfl rfl rfl hb33 rfl ?_
            refine vNil ?_
            change VC _ _ _ _
            refine vCond rfl (fun hb34 => ?_) (fun hb34 => ?_)
            ·replace h := cnd_t hb34 h
             refine vSeq ?_
             refine vRegion ?_
             refine oVal tt rfl rfl rfl rfl rfl trivial ?_
             refine vNil ?_
             change VC _ _ _ _
             refine vRet ?_
             change ∃ _, _
             cases h
             exact ⟨[], _, rfl, trivial, rfl, (.eq rfl), rfl⟩
            ·replace h := cnd_f hb34 h
             refine vSkip ?_
             change VC _ _ _ _
             refine vSeq ?_
             refine vRegion ?_
             refine oVal tt rfl rfl rfl rfl rfl trivial ?_
             refine vNil ?_
             change VC _ _ _ _
             refine vSeq ?_
             refine vRegion ?_
             iterate 2 refine oVal tt rfl rfl rfl rfl rfl trivial ?_
             obtain ⟨v22, hc35, h⟩ := bind_inv h
             refine oCall (L_heldGraph_w N (⟨v7.1.n, v16.2⟩ : Grf) (1 : Int) v22 hc35) rfl rfl rfl rfl rfl rfl rfl rfl ⟨⟨rfl, (.inl ⟨hg25, rfl⟩), trivial⟩, rfl, trivial⟩ ?_
             refine oVal tt rfl rfl rfl rfl rfl trivial ?_
             refine vNil ?_
             change VC _ _ _ _
             iterate 2 refine vSeq ?_
             refine vRegion ?_
             iterate 2 refine oVal tt rfl rfl rfl rfl rfl trivial ?_
             refine vNil ?_
             change VC _ _ _ _
             refine vCond rfl (fun hb36 => ?_) (fun hb36 => ?_)
             ·replace h := cnd_t hb36 h
              refine vSeq ?_
              refine vRegion ?_
              refine oVal tt rfl rfl rfl rfl rfl trivial ?_
              refine vNil ?_
              change VC _ _ _ _
              refine vRet ?_
              change ∃ _, _
              cases h
              exact ⟨[], _, rfl, trivial, rfl, (.eq rfl), rfl⟩
             ·replace h := cnd_f hb36 h
              refine vSkip ?_
              change VC _ _ _ _
              iterate 2 refine vSeq ?_
              refine vRegion ?_
              iterate 3 refine oVal tt rfl rfl rfl rfl rfl trivial ?_
              refine vNil ?_
              change VC _ _ _ _
              refine vCond rfl (fun hb37 => ?_) (fun hb37 => ?_)
              ·replace h := cnd_t hb37 h
               refine vSeq ?_
               refine vRegion ?_
               refine oVal tt rfl rfl rfl rfl rfl trivial ?_
               refine vNil ?_
               change VC _ _ _ _
               refine vRet ?_
               change ∃ _, _
               cases h
               exact ⟨[], _, rfl, trivial, rfl, (.eq rfl), rfl⟩
              ·replace h := cnd_f hb37 h
               refine vSkip ?_
               change VC _ _ _ _
               refine vSeq ?_
               refine vRegion ?_
               refine oVal tt rfl rfl rfl rfl rfl trivial ?_
               refine vNil ?_
               change VC _ _ _ _
               refine vRet ?_
               change ∃ _, _
               cases h
               exact ⟨[], _, rfl, trivial, rfl, (.eq rfl), rfl⟩
end Go.Proofs.Ytmoamglpocjhgaa
