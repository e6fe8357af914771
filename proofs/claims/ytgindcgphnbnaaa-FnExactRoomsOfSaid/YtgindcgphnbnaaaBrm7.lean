/- Texts that the proof needs, put together: G32 G31 G33 G34 G35 G38 G56 G71 G80 G87 Pmd Pme G94. -/
import Derived.Test.YtgindcgphnbnaaaBrm3
import Derived.Test.YtgindcgphnbnaaaBrm4
import Derived.Test.YtgindcgphnbnaaaBrm5
import Derived.Test.YtgindcgphnbnaaaBrm6
set_option linter.unusedVariables false
set_option linter.unusedSimpArgs false
namespace Go.Proofs.Ytgindcgphnbnaaa
open Go.RowKit
end Go.Proofs.Ytgindcgphnbnaaa
namespace Go.Proofs.Ytgindcgphnbnaaa
open Go.RowKit
end Go.Proofs.Ytgindcgphnbnaaa
namespace Go.Proofs.Ytgindcgphnbnaaa
open Go.RowKit
end Go.Proofs.Ytgindcgphnbnaaa
namespace Go.Proofs.Ytgindcgphnbnaaa
open Go.RowKit
end Go.Proofs.Ytgindcgphnbnaaa
namespace Go.Proofs.Ytgindcgphnbnaaa
open Go.RowKit
end Go.Proofs.Ytgindcgphnbnaaa
namespace Go.Proofs.Ytgindcgphnbnaaa
open Go.RowKit
end Go.Proofs.Ytgindcgphnbnaaa
namespace Go.Proofs.Ytgindcgphnbnaaa
open Go.RowKit
end Go.Proofs.Ytgindcgphnbnaaa
namespace Go.Proofs.Ytgindcgphnbnaaa
open Go.RowKit Go.Deep
end Go.Proofs.Ytgindcgphnbnaaa
namespace Go.Proofs.Ytgindcgphnbnaaa
open Go.RowKit Go.Deep
def L_markIntSS_l1 (N : Nat) (a_0 : List (List Int)) (k : ((List (List Int)) × Int) → Option (Int × (List (List Int)))) : Nat → ((List (List Int)) × Int × Int) → Option (Int × (List (List Int)))
 | 0, _ => none
 | n + 1, (l11, k12, i13) =>
  cnd (decide (i13 < (a_0.length : Int))) (
   grd (0 ≤ i13 ∧ i13 < (a_0.length : Int)) <|
   grd (0 ≤ i13 ∧ i13 < (l11.length : Int)) <|
   (L_markIntS N (l11.getD ((i13).toNat) []) k12).bind fun v15 =>
   grd (v15.2.length = (l11.getD ((i13).toNat) []).length) <|
   grd (Rg64 (i13 + (1 : Int))) <|
   L_markIntSS_l1 N a_0 k n ((l11.set ((i13).toNat) v15.2), v15.1, (i13 + (1 : Int)))) (
   k (l11, k12))
def L_markIntSS (N : Nat) (a_0 : List (List Int)) (k_1 : Int) : Option (Int × (List (List Int))) :=
 L_markIntSS_l1 N a_0 (fun (x : (List (List Int)) × Int) =>
   match x with
   | (l7, k8) =>
    some (k8, l7)) N (a_0, k_1, (0 : Int))
set_option maxRecDepth 20000 in
set_option maxHeartbeats 1600000 in
theorem L_markIntSS_w (N : Nat) (a_0 : List (List Int)) (k_1 : Int) (r : Int × (List (List Int))) (h : L_markIntSS N a_0 k_1 = some r) : MCall Try.prog 56 [.row 1000000 0 a_0.length, .int k_1] [1000000, 8589934602] [] [(22, dR 10 (.intss a_0)), (3, dF (.intss a_0))] [(22, dR 10 (.intss r.2)), (3, dF (.intss r.2))] [] [] (.int r.1) := by
 unfold L_markIntSS at h
 refine mcall_intro (TT := TT) tt Try.func56 rfl rfl Try.ntmps56 (congrArg Array.toList Try.results56) rfl rfl rfl rfl rfl fun w0 O0 => ?_
 refine vSeq ?_
 refine vRegion ?_
 refine oVal tt rfl rfl rfl rfl rfl trivial ?_
 refine vNil ?_
 change VC _ _ _ _
 iterate 2 refine vSeq ?_
 refine vRegion ?_
 refine oVal tt rfl rfl rfl rfl rfl trivial ?_
 refine vNil ?_
 change VC _ _ _ _
 refine vJoin (F := fun k => L_markIntSS_l1 N a_0 k) h (α := (List (List Int)) × Int) (J := fun | (l7, k8) => (⟨[(1, .int k8)], [(1000000, some (22, dR 10 (.intss l7))), (8589934602, some (3, dF (.intss l7)))], []⟩ : PS)) ?_ ?_
 ·rintro ⟨l7, k8⟩ h
  show VC _ _ _ (⟨[(1, .int k8)], [(1000000, some (22, dR 10 (.intss l7))), (8589934602, some (3, dF (.intss l7)))], []⟩ : PS)
  refine vSeq ?_
  refine vRegion ?_
  iterate 2 refine oVal tt rfl rfl rfl rfl rfl trivial ?_
  refine vNil ?_
  change VC _ _ _ _
  refine vRet ?_
  change ∃ _, _
  cases h
  exact ⟨[1000000, 8589934602], rfl, ⟨rfl, rfl, trivial⟩, trivial, rfl⟩
 ·intro k h
  refine vBlock ?_
  refine vLoopS (α := (List (List Int)) × Int × Int) (fun | (l11, k12, i13) => (⟨[(0, .row 1000000 0 a_0.length), (1, .int k12), (5, .int i13)], [(1000000, some (22, dR 10 (.intss l11))), (8589934602, some (3, dF (.intss l11)))], []⟩ : PS)) (L_markIntSS_l1 N a_0 k) h (En.of ⟨rfl, rfl, rfl, trivial⟩ ⟨rfl, rfl, trivial⟩ trivial) (fun _ => rfl) ?_
  rintro n ⟨l11, k12, i13⟩ h
  rw [L_markIntSS_l1] at h
  show VC _ _ _ (⟨[(0, .row 1000000 0 a_0.length), (1, .int k12), (5, .int i13)], [(1000000, some (22, dR 10 (.intss l11))), (8589934602, some (3, dF (.intss l11)))], []⟩ : PS)
  iterate 2 refine vSeq ?_
  refine vRegion ?_
  iterate 4 refine oVal tt rfl rfl rfl rfl rfl trivial ?_
  refine vNil ?_
  change VC _ _ _ _
  refine vCond rfl (fun hb1 => ?_) (fun hb1 => ?_)
  ·replace h := cnd_t hb1 h
   refine vSkip ?_
   change VC _ _ _ _
   refine vSeq ?_
   refine vBlock ?_
   refine vRegion ?_
   iterate 2 refine oVal tt rfl rfl rfl rfl rfl trivial ?_
   obtain ⟨hg2, h⟩ := grd_inv h
   refine oVal tt rfl rfl rfl rfl rfl hg2 ?_
   obtain ⟨hg3, h⟩ := grd_inv h
   refine oLoadD tt (wNone rfl) (.intss l11) rfl rfl rfl rfl rfl rfl rfl rfl rfl hg3 ?_
   refine oVal tt rfl rfl rfl rfl rfl trivial ?_
   obtain ⟨v15, hc4, h⟩ := bind_inv h
   obtain ⟨hg5, h⟩ := grd_inv h
   refine oMCallI 1000000 (.intss (l11.set ((i13).toNat) v15.2)) (L_markIntS_w N (l11.getD ((i13).toNat) []) k12 v15 hc4) rfl rfl rfl rfl rfl rfl rfl rfl rfl (by simp only [Sq.len, List.length_set, List.length_append, List.length_replicate] at *; omega) (inI _ _ _ _ (by first | omega | (simp only [List.length_set, List.length_append, List.length_replicate] at *; omega)) hg5) hg5 rfl rfl ?_
   refine oVal tt rfl rfl rfl rfl rfl trivial ?_
   refine vNil ?_
   change VC _ _ _ _
   refine vRegion ?_
   refine oVal tt rfl rfl rfl rfl rfl trivial ?_
   obtain ⟨hg6, h⟩ := grd_inv h
   refine oVal tt rfl rfl rfl rfl rfl hg6 ?_
   refine oVal tt rfl rfl rfl rfl rfl trivial ?_
   refine vNil ?_
   change ∃ _, _
   exact ⟨((l11.set ((i13).toNat) v15.2), v15.1, (i13 + (1 : Int))), (En.of ⟨rfl, rfl, rfl, trivial⟩ ⟨rfl, rfl, trivial⟩ trivial), h⟩
  ·replace h := cnd_f hb1 h
   refine vExit ?_
   change ∃ _, _
   exact ⟨(l11, k12), (En.of ⟨rfl, trivial⟩ ⟨rfl, rfl, trivial⟩ trivial), h⟩
end Go.Proofs.Ytgindcgphnbnaaa
namespace Go.Proofs.Ytgindcgphnbnaaa
open Go.RowKit Go.Deep
end Go.Proofs.Ytgindcgphnbnaaa
namespace Go.Proofs.Ytgindcgphnbnaaa
variable {N : Nat}
def mkR (k : Int) : List Nat → List (Int × List Int)
 | [] => []
 | m :: l => (k, mkI (k + 1) m) :: mkR (k + 1 + (m : Int)) l
def mkII (k : Int) : List Nat → List (List Int)
 | [] => []
 | m :: l => mkI k m :: mkII (k + (m : Int)) l
theorem mkII_len (k : Int) (l : List Nat) : (mkII k l).length = l.length := by
 induction l generalizing k with
 | nil => rfl
 | cons m l ih => simp [mkII, ih]
theorem getD_at {α : Type} {a : List α} {x d : α} {b : List α} {i : Nat} (h : a.length = i) : (a ++ x :: b).getD i d = x := by subst h; simp
theorem set_at {α : Type} {a : List α} {x y : α} {b : List α} {i : Nat} (h : a.length = i) : (a ++ x :: b).set i y = a ++ y :: b := by subst h; simp
theorem app_shift {α : Type} (a b : List α) (x : α) : a ++ x :: b = (a ++ [x]) ++ b := by simp
end Go.Proofs.Ytgindcgphnbnaaa
namespace Go.Proofs.Ytgindcgphnbnaaa
variable {N : Nat}
def lnSS {α : Type} (a : List (List α)) : Nat := (a.map List.length).sum
theorem lnSS_bd {α : Type} {m : Nat} : ∀ {a : List (List α)}, (∀ x ∈ a, x.length ≤ m) → lnSS a ≤ a.length * m
 | [], _ => by simp [lnSS]
 | x :: a, h => by
  have h1 := h x (by simp)
  have h2 := lnSS_bd (a := a) fun y hy => h y (by simp [hy])
  have e : lnSS (x :: a) = x.length + lnSS a := by simp [lnSS]
  rw [e, List.length_cons, Nat.succ_mul]; omega
theorem markIntSS_l (hN : 4000000 ≤ N) {a : List (List Int)} (ha : a.length ≤ 1048576) (kk : List (List Int) × Int → Option (Int × List (List Int))) : ∀ (rest : List (List Int)) (pre : List (List Int)) (k : Int) (n : Nat), pre.length + rest.length = a.length → rest.length < n → 0 ≤ k → k + (lnSS rest : Int) ≤ 100000000 → lnSS rest ≤ 1048576 →
  L_markIntSS_l1 N a kk n (pre ++ rest, k, (pre.length : Int)) = kk (pre ++ mkII k (rest.map List.length), k + (lnSS rest : Int)) := by
 intro rest
 induction rest with
 | nil =>
  intro pre k n h1 h2 h3 h4 h5
  cases n with
  | zero => simp at h2
  | succ n =>
   simp at h1
   rw [L_markIntSS_l1, cnd_df (by omega)]
   simp [lnSS, mkII]
 | cons r rest ih =>
  intro pre k n h1 h2 h3 h4 h5
  cases n with
  | zero => simp at h2
  | succ n =>
   simp at h1 h2
   have e0 : lnSS (r :: rest) = r.length + lnSS rest := by simp [lnSS]
   have e : ((pre.length : Int)).toNat = pre.length := by omega
   have g1 : 0 ≤ (pre.length : Int) ∧ (pre.length : Int) < (a.length : Int) := by omega
   have g2 : 0 ≤ (pre.length : Int) ∧ (pre.length : Int) < ((pre ++ r :: rest).length : Int) := by simp; omega
   have hr : r.length ≤ 1048576 := by omega
   rw [L_markIntSS_l1, cnd_dt (by omega), grd_pos g1, grd_pos g2, e, getD_at rfl, markIntS_s hN (by omega) hr, Option.bind_some]
   simp only
   rw [grd_pos (mkI_len _ _), grd_R (by omega) (by omega), set_at rfl, succ_cast, app_shift]
   have h6 : ((pre.length + 1 : Nat) : Int) = ((pre ++ [mkI k r.length]).length : Int) := by simp
   rw [h6, ih _ _ _ (by simp; omega) (by omega) (by omega) (by omega) (by omega)]
   rw [List.map_cons, mkII, e0, ← app_shift]
   congr 2
   omega
theorem markIntSS_s (hN : 4000000 ≤ N) {a : List (List Int)} {k0 : Int} (hk : 0 ≤ k0 ∧ k0 ≤ 50000000) (hl : a.length ≤ 1048576) (ha : lnSS a ≤ 1048576) : L_markIntSS N a k0 = some (k0 + (lnSS a : Int), mkII k0 (a.map List.length)) := by
 unfold L_markIntSS
 exact markIntSS_l hN hl _ a [] k0 N (by simp) (by omega) (by omega) (by omega) ha
theorem heldIntSS_l (hN : 4000000 ≤ N) (kk : Int → Option Int) (a : List (List Int)) : ∀ (ls : List Nat) (pre : List (List Int)) (k : Int) (n : Nat), a = pre ++ mkII k ls → a.length ≤ 1048576 → ls.length < n → 0 ≤ k → k + ((ls.sum : Nat) : Int) ≤ 100000000 → ls.sum ≤ 1048576 →
  L_heldIntSS_l1 N a kk n (k, (pre.length : Int)) = kk (k + ((ls.sum : Nat) : Int)) := by
 intro ls
 induction ls with
 | nil =>
  intro pre k n h1 h2 h3 h4 h5 h6
  cases n with
  | zero => simp at h3
  | succ n =>
   have : a.length = pre.length := by rw [h1]; simp [mkII]
   rw [L_heldIntSS_l1, cnd_df (by omega)]
   simp
 | cons m ls ih =>
  intro pre k n h1 h2 h3 h4 h5 h6
  cases n with
  | zero => simp at h3
  | succ n =>
   simp at h3 h5 h6
   have hl : a.length = pre.length + (1 + ls.length) := by rw [h1]; simp [mkII, mkII_len]; omega
   have e : ((pre.length : Int)).toNat = pre.length := by omega
   have g1 : 0 ≤ (pre.length : Int) ∧ (pre.length : Int) < (a.length : Int) := by omega
   have hg : a.getD pre.length [] = mkI k m := by rw [h1, mkII, getD_at rfl]
   rw [L_heldIntSS_l1, cnd_dt (by omega), grd_pos g1, e, hg, heldIntS_s hN (by omega) (by omega), Option.bind_some, cnd_df (by omega), grd_R (by omega) (by omega), succ_cast]
   have h7 : ((pre.length + 1 : Nat) : Int) = ((pre ++ [mkI k m]).length : Int) := by simp
   rw [h7, ih _ _ n (by rw [h1, mkII, app_shift]) h2 (by omega) (by omega) (by omega) (by omega)]
   congr 1
   simp
   omega
theorem heldIntSS_s (hN : 4000000 ≤ N) {ls : List Nat} {k0 : Int} (hk : 0 ≤ k0 ∧ k0 ≤ 50000000) (h1 : ls.length ≤ 1048576) (h2 : ls.sum ≤ 1048576) : L_heldIntSS N (mkII k0 ls) k0 = some (k0 + ((ls.sum : Nat) : Int)) := by
 unfold L_heldIntSS
 exact heldIntSS_l hN _ (mkII k0 ls) ls [] k0 N rfl (by rw [mkII_len]; exact h1) (by omega) (by omega) (by omega) h2
theorem eqIntSS_l (hN : 4000000 ≤ N) {a : List (List Int)} (ha : a.length ≤ 1048576) (hi : ∀ x ∈ a, x.length ≤ 1048576) (k : Unit → Option Bool) : ∀ n i : Nat, i ≤ a.length → a.length < n + i → L_eqIntSS_l1 N a a k n (i : Int) = k () := by
 intro n
 induction n with
 | zero => intro i h1 h2; omega
 | succ n ih =>
  intro i h1 h2
  rw [L_eqIntSS_l1]
  by_cases hl : i < a.length
  ·have hg : a.getD i [] = a[i] := by simp [hl]
   have e : ((i : Int)).toNat = i := by omega
   rw [cnd_dt (by omega), grd_pos (by omega), grd_pos (by omega), e, hg, eqIntS_s N hN (hi _ (List.getElem_mem hl)), Option.bind_some, Bool.not_true, cnd_false, grd_R (by omega) (by omega), succ_cast]
   exact ih (i + 1) (by omega) (by omega)
  ·rw [cnd_df (by omega)]
theorem eqIntSS_s (hN : 4000000 ≤ N) {a : List (List Int)} (ha : a.length ≤ 1048576) (hi : ∀ x ∈ a, x.length ≤ 1048576) : L_eqIntSS N a a = some true := by
 unfold L_eqIntSS
 rw [bne_self_eq_false, cnd_false]
 exact eqIntSS_l hN ha hi _ N 0 (by omega) (by omega)
end Go.Proofs.Ytgindcgphnbnaaa
namespace Go.Proofs.Ytgindcgphnbnaaa
open Go.RowKit
def L_FnExactRoomsOf (N : Nat) (aL_0 : Lnk) : Option (Bool) :=
 (L_szLinkage N aL_0 (1048576 : Int)).bind fun v1 =>
 cnd (decide (v1 < (0 : Int))) (
  some true) (
  (L_toLinkage N aL_0).bind fun v2 =>
  (S_RoomsOf N v2).bind fun v3 =>
  (L_toLinkage N aL_0).bind fun v4 =>
  (I_RoomsOf N v4).bind fun v5 =>
  (L_eqIntSS N v5.1 v3.1).bind fun v6 =>
  cnd (!v6) (
   some false) (
   cnd (v5.2 != v3.2) (
    some false) (
    (L_toLinkage N aL_0).bind fun v7 =>
    (L_eqLinkage N v4 v7).bind fun v8 =>
    cnd (!v8) (
     some false) (
     (L_markLinkage N (⟨⟨⟨v4.f.g.n, v4.f.g.bars⟩, v4.f.places⟩, v4.ground⟩ : Lnk) (1 : Int)).bind fun v9 =>
     cnd (decide (v9.1 < (0 : Int))) (
      some false) (
      (L_eqIntSS N v5.1 v3.1).bind fun v10 =>
      cnd (!v10) (
       some false) (
       (L_markIntSS N v5.1 (1 : Int)).bind fun v11 =>
       grd (v5.1.length = v11.2.length) <|
       (L_heldIntSS N v11.2 (1 : Int)).bind fun v12 =>
       cnd (decide (v12 < (0 : Int))) (
        some false) (
        cnd (v12 != v11.1) (
         some false) (
         (L_toLinkage N aL_0).bind fun v13 =>
         (I_RoomsOf N v13).bind fun v14 =>
         (L_eqIntSS N v14.1 v3.1).bind fun v15 =>
         cnd (!v15) (
          some false) (
          cnd (v14.2 != v3.2) (
           some false) (
           (L_heldIntSS N v11.2 (1 : Int)).bind fun v16 =>
           cnd (decide (v16 < (0 : Int))) (
            some false) (
            cnd (v16 != v11.1) (
             some false) (
             some true))))))))))))
set_option maxRecDepth 20000 in
set_option maxHeartbeats 1600000 in
theorem L_FnExactRoomsOf_w (N : Nat) (aL_0 : Lnk) (r : Bool) (h : L_FnExactRoomsOf N aL_0 = some r) : PCall Try.prog 12 [lD aL_0] [] (.bool r) := by
 unfold L_FnExactRoomsOf at h
 refine pcall_intro (TT := TT) tt Try.func12 rfl rfl Try.ntmps12 (congrArg Array.toList Try.results12) rfl rfl fun w0 => ?_
 refine vSeq ?_
 refine vRegion ?_
 refine oBox rfl rfl rfl rfl rfl rfl rfl rfl rfl ?_
 refine oVal tt rfl rfl rfl rfl rfl trivial ?_
 refine vNil ?_
 change VC _ _ _ _
 refine vSeq ?_
 refine vRegion ?_
 refine oVal tt rfl rfl rfl rfl rfl trivial ?_
 refine vNil ?_
 change VC _ _ _ _
 refine vSeq ?_
 refine vRegion ?_
 iterate 2 refine oVal tt rfl rfl rfl rfl rfl trivial ?_
 obtain ⟨v1, hc1, h⟩ := bind_inv h
 refine oCall (L_szLinkage_w N aL_0 (1048576 : Int) v1 hc1) rfl rfl rfl rfl rfl rfl rfl rfl ⟨⟨rfl, rfl, rfl, rfl, trivial⟩, rfl, trivial⟩ ?_
 refine oVal tt rfl rfl rfl rfl rfl trivial ?_
 refine vNil ?_
 change VC _ _ _ _
 iterate 2 refine vSeq ?_
 refine vRegion ?_
 iterate 2 refine oVal tt rfl rfl rfl rfl rfl trivial ?_
 refine vNil ?_
 change VC _ _ _ _
 refine vCond rfl (fun hb2 => ?_) (fun hb2 => ?_)
 ·replace h := cnd_t hb2 h
  refine vSeq ?_
  refine vRegion ?_
  refine oVal tt rfl rfl rfl rfl rfl trivial ?_
  refine vNil ?_
  change VC _ _ _ _
  refine vRet ?_
  change ∃ _, _
  cases h
  exact ⟨[], _, rfl, trivial, rfl, (.eq rfl), rfl⟩
 ·replace h := cnd_f hb2 h
  refine vSkip ?_
  change VC _ _ _ _
  refine vSeq ?_
  refine vRegion ?_
  refine oVal tt rfl rfl rfl rfl rfl trivial ?_
  obtain ⟨v2, hc3, h⟩ := bind_inv h
  refine oCall (L_toLinkage_w N aL_0 v2 hc3) rfl rfl rfl rfl rfl rfl rfl rfl ⟨⟨rfl, rfl, rfl, rfl, trivial⟩, trivial⟩ ?_
  obtain ⟨v3, hc4, h⟩ := bind_inv h
  refine oCall (S_RoomsOf_w N v2 v3 hc4) rfl rfl rfl rfl rfl rfl rfl rfl ⟨⟨rfl, (.inl ⟨rfl, rfl⟩), (.inl ⟨rfl, rfl⟩), (.inl ⟨rfl, rfl⟩), trivial⟩, trivial⟩ ?_
  iterate 5 refine oVal tt rfl rfl rfl rfl rfl trivial ?_
  refine vNil ?_
  change VC _ _ _ _
  refine vSeq ?_
  refine vRegion ?_
  refine oVal tt rfl rfl rfl rfl rfl trivial ?_
  obtain ⟨v4, hc5, h⟩ := bind_inv h
  refine oCall (L_toLinkage_w N aL_0 v4 hc5) rfl rfl rfl rfl rfl rfl rfl rfl ⟨⟨rfl, rfl, rfl, rfl, trivial⟩, trivial⟩ ?_
  refine oAlloc tt rfl rfl rfl rfl rfl rfl rfl rfl rfl ?_
  refine oStore tt rfl rfl rfl rfl rfl rfl rfl rfl rfl rfl rfl ⟨trivial, trivial, trivial, trivial, trivial⟩ ?_
  refine vNil ?_
  change VC _ _ _ _
  refine vSeq ?_
  refine vRegion ?_
  refine oVal tt rfl rfl rfl rfl rfl trivial ?_
  obtain ⟨v5, hc6, h⟩ := bind_inv h
  refine oCallD 10 (I_RoomsOf_w N v4 v5 hc6) rfl rfl rfl rfl rfl rfl rfl rfl rfl rfl rfl (fun _ h => by cases h) ⟨⟨rfl, (.inl ⟨rfl, rfl⟩), (.inl ⟨rfl, rfl⟩), (.inl ⟨rfl, rfl⟩), trivial⟩, trivial⟩ ?_
  iterate 5 refine oVal tt rfl rfl rfl rfl rfl trivial ?_
  refine vNil ?_
  change VC _ _ _ _
  iterate 2 refine vSeq ?_
  refine vRegion ?_
  iterate 2 refine oVal tt rfl rfl rfl rfl rfl trivial ?_
  obtain ⟨v6, hc7, h⟩ := bind_inv h
  refine oCall (L_eqIntSS_w N v5.1 v3.1 v6 hc7) rfl rfl rfl rfl rfl rfl rfl rfl ⟨(.inr (.inr ⟨10, _, by decide, rfl, rfl, rfl, rfl⟩)), (.inl ⟨rfl, rfl⟩), trivial⟩ ?_
  iterate 2 refine oVal tt rfl rfl rfl rfl rfl trivial ?_
  refine oSplit rfl rfl rfl (fun hb8 => ?_) (fun hb8 => ?_)
  ·replace h := cnd_t hb8 h
   iterate 3 refine oNoF rfl rfl rfl rfl hb8 rfl rfl ?_
   refine oPick rfl rfl rfl rfl rfl hb8 rfl ?_
   refine vNil ?_
   change VC _ _ _ _
   refine vCondT rfl rfl ?_
   refine vSeq ?_
   refine vRegion ?_
   refine oVal tt rfl rfl rfl rfl rfl trivial ?_
   refine vNil ?_
   change VC _ _ _ _
   refine vRet ?_
   change ∃ _, _
   cases h
   exact ⟨[], _, rfl, trivial, rfl, (.eq rfl), rfl⟩
  ·replace h := cnd_f hb8 h
   iterate 2 refine oValG tt rfl rfl rfl rfl rfl hb8 rfl rfl rfl trivial ?_
   refine oPure (wSome rfl rfl rfl rfl hb8) (pNeB Try.underlying4 rfl rfl rfl) rfl rfl ?_
   refine oPickF rfl rfl rfl rfl rfl hb8 rfl ?_
   refine vNil ?_
   change VC _ _ _ _
   refine vCond rfl (fun hb9 => ?_) (fun hb9 => ?_)
   ·replace h := cnd_t hb9 h
    refine vSeq ?_
    refine vRegion ?_
    refine oVal tt rfl rfl rfl rfl rfl trivial ?_
    refine vNil ?_
    change VC _ _ _ _
    refine vRet ?_
    change ∃ _, _
    cases h
    exact ⟨[], _, rfl, trivial, rfl, (.eq rfl), rfl⟩
   ·replace h := cnd_f hb9 h
    refine vSkip ?_
    change VC _ _ _ _
    iterate 2 refine vSeq ?_
    refine vRegionN 3 [2] [0, 0, 2, 7, 15] (by kernel_rfl) (by kernel_rfl) (by kernel_rfl) (by kernel_rfl) (by kernel_rfl) rfl (by rfl) ?_
    iterate 2 refine nVal tt rfl (wNone rfl) rfl rfl rfl rfl rfl trivial ?_
    obtain ⟨v7, hc10, h⟩ := bind_inv h
    refine nCallR (L_toLinkage_w N aL_0 v7 hc10) rfl (wNone rfl) rfl rfl rfl rfl rfl rfl (by first | rfl | kernel_rfl | (simp [nrL, nm, gdst, nmT, rowB]; done)) rfl (by first | rfl | kernel_rfl | (simp [chkE, nrL, nm, gdst, nmT, rowB, hid, ment, mentA, mentS]; done) | (simp [chkE, nrL, nm, gdst, nmT, rowB, hid, ment, mentA, mentS]; decide)) ⟨⟨rfl, rfl, rfl, rfl, trivial⟩, trivial⟩ ?_
    refine nNil ?_
    change VO _ _ _ _ _
    obtain ⟨v8, hc11, h⟩ := bind_inv h
    refine oCall (L_eqLinkage_w N v4 v7 v8 hc11) rfl rfl rfl rfl rfl rfl rfl rfl ⟨⟨rfl, (.inl ⟨rfl, rfl⟩), (.inl ⟨rfl, rfl⟩), (.inl ⟨rfl, rfl⟩), trivial⟩, ⟨rfl, (.inl ⟨rfl, rfl⟩), (.inl ⟨rfl, rfl⟩), (.inl ⟨rfl, rfl⟩), trivial⟩, trivial⟩ ?_
    refine oVal tt rfl rfl rfl rfl rfl trivial ?_
    refine vNil ?_
    change VC _ _ _ _
    refine vCond rfl (fun hb12 => ?_) (fun hb12 => ?_)
    ·replace h := cnd_t hb12 h
     refine vSeq ?_
     refine vRegion ?_
     refine oVal tt rfl rfl rfl rfl rfl trivial ?_
     refine vNil ?_
     change VC _ _ _ _
     refine vRet ?_
     change ∃ _, _
     cases h
     exact ⟨[], _, rfl, trivial, rfl, (.eq rfl), rfl⟩
    ·replace h := cnd_f hb12 h
     refine vSkip ?_
     change VC _ _ _ _
     refine vSeq ?_
     refine vRegion ?_
     refine oVal tt rfl rfl rfl rfl rfl trivial ?_
     refine vNil ?_
     change VC _ _ _ _
     refine vSeq ?_
     refine vRegion ?_
     iterate 2 refine oVal tt rfl rfl rfl rfl rfl trivial ?_
     obtain ⟨v9, hc13, h⟩ := bind_inv h
     refine oMCall (L_markLinkage_w N (⟨⟨⟨v4.f.g.n, v4.f.g.bars⟩, v4.f.places⟩, v4.ground⟩ : Lnk) (1 : Int) v9 hc13) [1260, 1261, 1262] [] [1260, 1261, 1262] rfl rfl rfl rfl rfl rfl ⟨rfl, rfl, rfl, trivial⟩ trivial ⟨⟨⟨rfl, rfl⟩, ⟨rfl, rfl⟩, ⟨rfl, rfl⟩, ⟨rfl, rfl⟩, trivial⟩, ⟨rfl, rfl⟩, trivial⟩ ?_
     refine oVal tt rfl rfl rfl rfl rfl trivial ?_
     refine vNil ?_
     change VC _ _ _ _
     iterate 2 refine vSeq ?_
     refine vRegion ?_
     iterate 3 refine oVal tt rfl rfl rfl rfl rfl trivial ?_
     refine oSplit rfl rfl rfl (fun hb14 => ?_) (fun hb14 => ?_)
     ·replace h := cnd_t hb14 h
      iterate 4 refine oNoF rfl rfl rfl rfl hb14 rfl rfl ?_
      refine oPick rfl rfl rfl rfl rfl hb14 rfl ?_
      refine oVal tt rfl rfl rfl rfl rfl trivial ?_
      iterate 3 refine oNoF rfl rfl rfl rfl rfl rfl rfl ?_
      refine oPick rfl rfl rfl rfl rfl rfl rfl ?_
      refine vNil ?_
      change VC _ _ _ _
      refine vCondT rfl rfl ?_
      refine vSeq ?_
      refine vRegion ?_
      refine oVal tt rfl rfl rfl rfl rfl trivial ?_
      refine vNil ?_
      change VC _ _ _ _
      refine vRet ?_
      change ∃ _, _
      cases h
      exact ⟨[], _, rfl, trivial, rfl, (.eq rfl), rfl⟩
     ·replace h := cnd_f hb14 h
      iterate 2 refine oValG tt rfl rfl rfl rfl rfl hb14 rfl rfl rfl trivial ?_
      obtain ⟨v10, hc15, h⟩ := bind_inv h
      refine oCallG (L_eqIntSS_w N v5.1 v3.1 v10 hc15) rfl rfl rfl rfl hb14 rfl rfl rfl rfl rfl rfl rfl ⟨(.inr (.inr ⟨10, _, by decide, rfl, rfl, rfl, rfl⟩)), (.inl ⟨rfl, rfl⟩), trivial⟩ ?_
      refine oValG tt rfl rfl rfl rfl rfl hb14 rfl rfl rfl trivial ?_
      refine oPickF rfl rfl rfl rfl rfl hb14 rfl ?_
      refine oVal tt rfl rfl rfl rfl rfl trivial ?_
      refine oSplit rfl rfl rfl (fun hb16 => ?_) (fun hb16 => ?_)
      ·replace h := cnd_t hb16 h
       iterate 3 refine oNoF rfl rfl rfl rfl hb16 rfl rfl ?_
       refine oPick rfl rfl rfl rfl rfl hb16 rfl ?_
       refine vNil ?_
       change VC _ _ _ _
       refine vCondT rfl rfl ?_
       refine vSeq ?_
       refine vRegion ?_
       refine oVal tt rfl rfl rfl rfl rfl trivial ?_
       refine vNil ?_
       change VC _ _ _ _
       refine vRet ?_
       change ∃ _, _
       cases h
       exact ⟨[], _, rfl, trivial, rfl, (.eq rfl), rfl⟩
      ·replace h := cnd_f hb16 h
       iterate 2 refine oValG tt rfl rfl rfl rfl rfl hb16 rfl rfl rfl trivial ?_
       refine oPure (wSome rfl rfl rfl rfl hb16) (pNeB Try.underlying4 rfl rfl rfl) rfl rfl ?_
       refine oPickF rfl rfl rfl rfl rfl hb16 rfl ?_
       refine vNil ?_
       change VC _ _ _ _
       refine vCondF rfl hb9 ?_
       refine vSkip ?_
       change VC _ _ _ _
       refine vSeq ?_
       refine vRegion ?_
       refine oVal tt rfl rfl rfl rfl rfl trivial ?_
       refine vNil ?_
       change VC _ _ _ _
       refine vSeq ?_
       refine vRegion ?_
       iterate 2 refine oVal tt rfl rfl rfl rfl rfl trivial ?_
       obtain ⟨v11, hc17, h⟩ := bind_inv h
       refine oMCall (L_markIntSS_w N v5.1 (1 : Int) v11 hc17) [1290, 8589934602] [] [1290, 8589934602] rfl rfl rfl rfl rfl rfl ⟨rfl, rfl, trivial⟩ trivial ⟨⟨rfl, rfl⟩, ⟨rfl, rfl⟩, trivial⟩ ?_
       refine oVal tt rfl rfl rfl rfl rfl trivial ?_
       refine vNil ?_
       change VC _ _ _ _
       refine vSeq ?_
       refine vRegion ?_
       refine oVal tt rfl rfl rfl rfl rfl trivial ?_
       refine vNil ?_
       change VC _ _ _ _
       refine vSeq ?_
       refine vRegion ?_
       iterate 2 refine oVal tt rfl rfl rfl rfl rfl trivial ?_
       obtain ⟨hg18, h⟩ := grd_inv h
       obtain ⟨v12, hc19, h⟩ := bind_inv h
       refine oCall (L_heldIntSS_w N v11.2 (1 : Int) v12 hc19) rfl rfl rfl rfl rfl rfl rfl rfl ⟨(.inr (.inr ⟨10, _, by decide, rfl, rfl, rfl, hg18⟩)), rfl, trivial⟩ ?_
       refine oVal tt rfl rfl rfl rfl rfl trivial ?_
       refine vNil ?_
       change VC _ _ _ _
       iterate 2 refine vSeq ?_
       refine vRegion ?_
       iterate 2 refine oVal tt rfl rfl rfl rfl rfl trivial ?_
       refine vNil ?_
       change VC _ _ _ _
       refine vCond rfl (fun hb20 => ?_) (fun hb20 => ?_)
       ·replace h := cnd_t hb20 h
        refine vSeq ?_
        refine vRegion ?_
        refine oVal tt rfl rfl rfl rfl rfl trivial ?_
        refine vNil ?_
        change VC _ _ _ _
        refine vRet ?_
        change ∃ _, _
        cases h
        exact ⟨[], _, rfl, trivial, rfl, (.eq rfl), rfl⟩
       ·replace h := cnd_f hb20 h
        refine vSkip ?_
        change VC _ _ _ _
        iterate 2 refine vSeq ?_
        refine vRegion ?_
        iterate 3 refine oVal tt rfl rfl rfl rfl rfl trivial ?_
        refine vNil ?_
        change VC _ _ _ _
        refine vCond rfl (fun hb21 => ?_) (fun hb21 => ?_)
        ·replace h := cnd_t hb21 h
         refine vSeq ?_
         refine vRegion ?_
         refine oVal tt rfl rfl rfl rfl rfl trivial ?_
         refine vNil ?_
         change VC _ _ _ _
         refine vRet ?_
         change ∃ _, _
         cases h
         exact ⟨[], _, rfl, trivial, rfl, (.eq rfl), rfl⟩
        ·replace h := cnd_f hb21 h
         refine vSkip ?_
         change VC _ _ _ _
         refine vSeq ?_
         refine vRegion ?_
         refine oVal tt rfl rfl rfl rfl rfl trivial ?_
         obtain ⟨v13, hc22, h⟩ := bind_inv h
         refine oCall (L_toLinkage_w N aL_0 v13 hc22) rfl rfl rfl rfl rfl rfl rfl rfl ⟨⟨rfl, rfl, rfl, rfl, trivial⟩, trivial⟩ ?_
         obtain ⟨v14, hc23, h⟩ := bind_inv h
         refine oCallD 11 (I_RoomsOf_w N v13 v14 hc23) rfl rfl rfl rfl rfl rfl rfl rfl rfl rfl rfl (fun _ h => by cases h) ⟨⟨rfl, (.inl ⟨rfl, rfl⟩), (.inl ⟨rfl, rfl⟩), (.inl ⟨rfl, rfl⟩), trivial⟩, trivial⟩ ?_
         iterate 5 refine oVal tt rfl rfl rfl rfl rfl trivial ?_
         refine vNil ?_
         change VC _ _ _ _
         iterate 2 refine vSeq ?_
         refine vRegion ?_
         iterate 2 refine oVal tt rfl rfl rfl rfl rfl trivial ?_
         obtain ⟨v15, hc24, h⟩ := bind_inv h
         refine oCall (L_eqIntSS_w N v14.1 v3.1 v15 hc24) rfl rfl rfl rfl rfl rfl rfl rfl ⟨(.inr (.inr ⟨11, _, by decide, rfl, rfl, rfl, rfl⟩)), (.inl ⟨rfl, rfl⟩), trivial⟩ ?_
         iterate 2 refine oVal tt rfl rfl rfl rfl rfl trivial ?_
         refine oSplit rfl rfl rfl (fun hb25 => ?_) (fun hb25 => ?_)
         ·replace h := cnd_t hb25 h
          iterate 3 refine oNoF rfl rfl rfl rfl hb25 rfl rfl ?_
          refine oPick rfl rfl rfl rfl rfl hb25 rfl ?_
          refine vNil ?_
          change VC _ _ _ _
          refine vCondT rfl rfl ?_
          refine vSeq ?_
          refine vRegion ?_
          refine oVal tt rfl rfl rfl rfl rfl trivial ?_
          refine vNil ?_
          change VC _ _ _ _
          refine vRet ?_
          change ∃ _, _
          cases h
          exact ⟨[], _, rfl, trivial, rfl, (.eq rfl), rfl⟩
         ·replace h := cnd_f hb25 h
          iterate 2 refine oValG tt rfl rfl rfl rfl rfl hb25 rfl rfl rfl trivial ?_
          refine oPure (wSome rfl rfl rfl rfl hb25) (pNeB Try.underlying4 rfl rfl rfl) rfl rfl ?_
          refine oPickF rfl rfl rfl rfl rfl hb25 rfl ?_
          refine vNil ?_
          change VC _ _ _ _
          refine vCond rfl (fun hb26 => ?_) (fun hb26 => ?_)
          ·replace h := cnd_t hb26 h
           refine vSeq ?_
           refine vRegion ?_
           refine oVal tt rfl rfl rfl rfl rfl trivial ?_
           refine vNil ?_
           change VC _ _ _ _
           refine vRet ?_
           change ∃ _, _
           cases h
           exact ⟨[], _, rfl, trivial, rfl, (.eq rfl), rfl⟩
          ·replace h := cnd_f hb26 h
           refine vSkip ?_
           change VC _ _ _ _
           refine vSeq ?_
           refine vRegion ?_
           refine oVal tt rfl rfl rfl rfl rfl trivial ?_
           refine vNil ?_
           change VC _ _ _ _
           refine vSeq ?_
           refine vRegion ?_
           iterate 2 refine oVal tt rfl rfl rfl rfl rfl trivial ?_
           obtain ⟨v16, hc27, h⟩ := bind_inv h
           refine oCall (L_heldIntSS_w N v11.2 (1 : Int) v16 hc27) rfl rfl rfl rfl rfl rfl rfl rfl ⟨(.inr (.inr ⟨10, _, by decide, rfl, rfl, rfl, hg18⟩)), rfl, trivial⟩ ?_
           refine oVal tt rfl rfl rfl rfl rfl trivial ?_
           refine vNil ?_
           change VC _ _ _ _
           iterate 2 refine vSeq ?_
           refine vRegion ?_
           iterate 2 refine oVal tt rfl rfl rfl rfl rfl trivial ?_
           refine vNil ?_
           change VC _ _ _ _
           refine vCond rfl (fun hb28 => ?_) (fun hb28 => ?_)
           ·replace h := cnd_t hb28 h
            refine vSeq ?_
            refine vRegion ?_
            refine oVal tt rfl rfl rfl rfl rfl trivial ?_
            refine vNil ?_
            change VC _ _ _ _
            refine vRet ?_
            change ∃ _, _
            cases h
            exact ⟨[], _, rfl, trivial, rfl, (.eq rfl), rfl⟩
           ·replace h := cnd_f hb28 h
            refine vSkip ?_
            change VC _ _ _ _
            iterate 2 refine vSeq ?_
            refine vRegion ?_
            iterate 3 refine oVal tt rfl rfl rfl rfl rfl trivial ?_
            refine vNil ?_
            change VC _ _ _ _
            refine vCond rfl (fun hb29 => ?_) (fun hb29 => ?_)
            ·replace h := cnd_t hb29 h
             refine vSeq ?_
             refine vRegion ?_
             refine oVal tt rfl rfl rfl rfl rfl trivial ?_
             refine vNil ?_
             change VC _ _ _ _
             refine vRet ?_
             change ∃ _, _
             cases h
             exact ⟨[], _, rfl, trivial, rfl, (.eq rfl), rfl⟩
            ·replace h := cnd_f hb29 h
             refine vSkip ?_
             change VC _ _ _ _
             refine vSeq ?_
             refine vRegion ?_
             refine oVal tt rfl rfl rfl rfl rfl trivial ?_
             refine vNil ?_
             change VC _ _ _ _
             refine vRet ?_
             change ∃ _, _
             cases h
             exact ⟨[], _, rfl, trivial, rfl, (.eq rfl), rfl⟩
end Go.Proofs.Ytgindcgphnbnaaa
