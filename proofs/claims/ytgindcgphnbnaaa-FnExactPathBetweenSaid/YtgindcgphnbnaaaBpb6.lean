/- Texts that the proof needs, put together: G67 G68 Ql G90 Sm SoS G93 G95 G97 Qm SoR G91 Qn G92. -/
import Derived.Sort.Grow
import Derived.Sort.EveryDepth
import Derived.Shelf.Sort.AssemblyIn
import Derived.Ground.NamesProg
import Derived.Shelf.Slices.Reverse
import Derived.Test.YtgindcgphnbnaaaBpb3
import Derived.Test.YtgindcgphnbnaaaBpb4
import Derived.Test.YtgindcgphnbnaaaBpb5
set_option linter.unusedVariables false
set_option linter.unusedSimpArgs false
namespace Go.Proofs.Ytgindcgphnbnaaa
open Go.RowKit
def I_AreNear_l1 (N : Nat) (a_0 : List (Int × Int)) (b_1 : List (Int × Int)) (k : Unit → Option (Bool)) : Nat → Int → Option (Bool)
 | 0, _ => none
 | n + 1, x19 =>
  cnd (decide (x19 < (a_0.length : Int))) (
   grd (0 ≤ x19 ∧ x19 < (a_0.length : Int)) <|
   grd (0 ≤ x19 ∧ x19 < (b_1.length : Int)) <|
   (I_isPlace N (a_0.getD ((x19).toNat) (0, 0))).bind fun v24 =>
   cnd (!v24) (
    some false) (
    (I_isPlace N (b_1.getD ((x19).toNat) (0, 0))).bind fun v25 =>
    cnd (!v25) (
     some false) (
     grd (Rg64 (((a_0.getD ((x19).toNat) (0, 0)).1) - ((b_1.getD ((x19).toNat) (0, 0)).1))) <|
     (I_within N (((a_0.getD ((x19).toNat) (0, 0)).1) - ((b_1.getD ((x19).toNat) (0, 0)).1)) (-1 : Int) (1 : Int)).bind fun v26 =>
     cnd (!v26) (
      some false) (
      grd (Rg64 (((a_0.getD ((x19).toNat) (0, 0)).2) - ((b_1.getD ((x19).toNat) (0, 0)).2))) <|
      (I_within N (((a_0.getD ((x19).toNat) (0, 0)).2) - ((b_1.getD ((x19).toNat) (0, 0)).2)) (-1 : Int) (1 : Int)).bind fun v27 =>
      cnd (!v27) (
       some false) (
       grd (Rg64 (x19 + (1 : Int))) <|
       I_AreNear_l1 N a_0 b_1 k n (x19 + (1 : Int))))))) (
   k ())
def I_AreNear (N : Nat) (a_0 : List (Int × Int)) (b_1 : List (Int × Int)) : Option (Bool) :=
 cnd ((a_0.length : Int) != (b_1.length : Int)) (
  some false) (
  I_AreNear_l1 N a_0 b_1 (fun (_ : Unit) =>
     some true) N (0 : Int))
set_option maxRecDepth 20000 in
set_option maxHeartbeats 1600000 in
theorem I_AreNear_w (N : Nat) (a_0 : List (Int × Int)) (b_1 : List (Int × Int)) (r : Bool) (h : I_AreNear N a_0 b_1 = some r) : PCall Try.prog 113 [.ro false (.pairs a_0), .ro false (.pairs b_1)] [] (.bool r) := by
 unfold I_AreNear at h
 refine pcall_intro (TT := TT) tt Try.func113 rfl rfl Try.ntmps113 (congrArg Array.toList Try.results113) rfl rfl fun w0 => ?_
 refine vSeq ?_
 refine vRegion ?_
 refine oVal tt rfl rfl rfl rfl rfl trivial ?_
 refine vNil ?_
 change VC _ _ _ _
 iterate 2 refine vSeq ?_
 refine vRegion ?_
 iterate 5 refine oVal tt rfl rfl rfl rfl rfl trivial ?_
 refine vNil ?_
 change VC _ _ _ _
 refine vCond rfl (fun hb1 => ?_) (fun hb1 => ?_)
 ·replace h := cnd_t hb1 h
  refine vSeq ?_
  refine vRegion ?_
  refine oVal tt rfl rfl rfl rfl rfl trivial ?_
  refine vNil ?_
  change VC _ _ _ _
  refine vRet ?_
  change ∃ _, _
  cases h
  exact ⟨[], _, rfl, trivial, rfl, (.eq rfl), rfl⟩
 ·replace h := cnd_f hb1 h
  refine vSkip ?_
  change VC _ _ _ _
  iterate 2 refine vSeq ?_
  refine vRegion ?_
  iterate 3 refine oVal tt rfl rfl rfl rfl rfl trivial ?_
  refine vNil ?_
  change VC _ _ _ _
  refine vJoin (F := fun k => I_AreNear_l1 N a_0 b_1 k) h (α := Unit) (J := fun (_ : Unit) => (⟨[], [], []⟩ : PS)) ?_ ?_
  ·rintro ⟨⟩ h
   show VC _ _ _ (⟨[], [], []⟩ : PS)
   refine vSeq ?_
   refine vRegion ?_
   refine oVal tt rfl rfl rfl rfl rfl trivial ?_
   refine vNil ?_
   change VC _ _ _ _
   refine vRet ?_
   change ∃ _, _
   cases h
   exact ⟨[], _, rfl, trivial, rfl, (.eq rfl), rfl⟩
  ·intro k h
   refine vBlock ?_
   refine vLoopS (α := Int) (fun (x19 : Int) => (⟨[(1, .ro false (.pairs b_1)), (13, .ro false (.pairs a_0)), (14, .int (a_0.length : Int)), (15, .int x19)], [], []⟩ : PS)) (I_AreNear_l1 N a_0 b_1 k) h (En.of ⟨rfl, rfl, rfl, rfl, trivial⟩ trivial trivial) (fun _ => rfl) ?_
   rintro n x19 h
   rw [I_AreNear_l1] at h
   show VC _ _ _ (⟨[(1, .ro false (.pairs b_1)), (13, .ro false (.pairs a_0)), (14, .int (a_0.length : Int)), (15, .int x19)], [], []⟩ : PS)
   refine vSeq ?_
   refine vRegion ?_
   refine oVal tt rfl rfl rfl rfl rfl trivial ?_
   refine vNil ?_
   change VC _ _ _ _
   refine vSeq ?_
   refine vCond rfl (fun hb2 => ?_) (fun hb2 => ?_)
   ·replace h := cnd_t hb2 h
    refine vSkip ?_
    change VC _ _ _ _
    refine vSeq ?_
    refine vBlock ?_
    refine vSeq ?_
    refine vRegion ?_
    refine oVal tt rfl rfl rfl rfl rfl trivial ?_
    obtain ⟨hg3, h⟩ := grd_inv h
    refine oVal tt rfl rfl rfl rfl rfl hg3 ?_
    refine oVal tt rfl rfl rfl rfl rfl trivial ?_
    refine oAlloc tt rfl rfl rfl rfl rfl rfl rfl rfl rfl ?_
    refine oVal tt rfl rfl rfl rfl rfl trivial ?_
    refine oStore tt rfl rfl rfl rfl rfl rfl rfl rfl rfl rfl rfl ⟨trivial, trivial, trivial⟩ ?_
    refine vNil ?_
    change VC _ _ _ _
    refine vSeq ?_
    refine vRegion ?_
    iterate 2 refine oVal tt rfl rfl rfl rfl rfl trivial ?_
    obtain ⟨hg4, h⟩ := grd_inv h
    refine oVal tt rfl rfl rfl rfl rfl hg4 ?_
    refine oVal tt rfl rfl rfl rfl rfl trivial ?_
    refine oAlloc tt rfl rfl rfl rfl rfl rfl rfl rfl rfl ?_
    refine oStore tt rfl rfl rfl rfl rfl rfl rfl rfl rfl rfl rfl ⟨trivial, trivial, trivial⟩ ?_
    refine vNil ?_
    change VC _ _ _ _
    refine vSeq ?_
    refine vRegion ?_
    refine oVal tt rfl rfl rfl rfl rfl trivial ?_
    obtain ⟨v24, hc5, h⟩ := bind_inv h
    refine oCall (I_isPlace_w N (a_0.getD ((x19).toNat) (0, 0)) v24 hc5) rfl rfl rfl rfl rfl rfl rfl rfl ⟨⟨rfl, rfl, trivial⟩, trivial⟩ ?_
    iterate 2 refine oVal tt rfl rfl rfl rfl rfl trivial ?_
    refine oSplit rfl rfl rfl (fun hb6 => ?_) (fun hb6 => ?_)
    ·replace h := cnd_t hb6 h
     iterate 3 refine oNoF rfl rfl rfl rfl hb6 rfl rfl ?_
     refine oPick rfl rfl rfl rfl rfl hb6 rfl ?_
     refine oVal tt rfl rfl rfl rfl rfl trivial ?_
     iterate 7 refine oNoF rfl rfl rfl rfl rfl rfl rfl ?_
     refine oPick rfl rfl rfl rfl rfl rfl rfl ?_
     refine oVal tt rfl rfl rfl rfl rfl trivial ?_
     iterate 7 refine oNoF rfl rfl rfl rfl rfl rfl rfl ?_
     refine oPick rfl rfl rfl rfl rfl rfl rfl ?_
     refine vNil ?_
     change VC _ _ _ _
     refine vCondT rfl rfl ?_
     refine vSeq ?_
     refine vRegion ?_
     refine oVal tt rfl rfl rfl rfl rfl trivial ?_
     refine vNil ?_
     change VC _ _ _ _
     refine vRet ?_
     change ∃ _, _
     cases h
     exact ⟨[], _, rfl, trivial, rfl, (.eq rfl), rfl⟩
    ·replace h := cnd_f hb6 h
     refine oValG tt rfl rfl rfl rfl rfl hb6 rfl rfl rfl trivial ?_
     obtain ⟨v25, hc7, h⟩ := bind_inv h
     refine oCallG (I_isPlace_w N (b_1.getD ((x19).toNat) (0, 0)) v25 hc7) rfl rfl rfl rfl hb6 rfl rfl rfl rfl rfl rfl rfl ⟨⟨rfl, rfl, trivial⟩, trivial⟩ ?_
     refine oValG tt rfl rfl rfl rfl rfl hb6 rfl rfl rfl trivial ?_
     refine oPickF rfl rfl rfl rfl rfl hb6 rfl ?_
     refine oVal tt rfl rfl rfl rfl rfl trivial ?_
     refine oSplit rfl rfl rfl (fun hb8 => ?_) (fun hb8 => ?_)
     ·replace h := cnd_t hb8 h
      iterate 7 refine oNoF rfl rfl rfl rfl hb8 rfl rfl ?_
      refine oPick rfl rfl rfl rfl rfl hb8 rfl ?_
      refine oVal tt rfl rfl rfl rfl rfl trivial ?_
      iterate 7 refine oNoF rfl rfl rfl rfl rfl rfl rfl ?_
      refine oPick rfl rfl rfl rfl rfl rfl rfl ?_
      refine vNil ?_
      change VC _ _ _ _
      refine vCondT rfl rfl ?_
      refine vSeq ?_
      refine vRegion ?_
      refine oVal tt rfl rfl rfl rfl rfl trivial ?_
      refine vNil ?_
      change VC _ _ _ _
      refine vRet ?_
      change ∃ _, _
      cases h
      exact ⟨[], _, rfl, trivial, rfl, (.eq rfl), rfl⟩
     ·replace h := cnd_f hb8 h
      iterate 4 refine oValG tt rfl rfl rfl rfl rfl hb8 rfl rfl rfl trivial ?_
      obtain ⟨hg9, h⟩ := grd_inv h
      refine oValG tt rfl rfl rfl rfl rfl hb8 rfl rfl rfl hg9 ?_
      obtain ⟨v26, hc10, h⟩ := bind_inv h
      refine oCallG (I_within_w N (((a_0.getD ((x19).toNat) (0, 0)).1) - ((b_1.getD ((x19).toNat) (0, 0)).1)) (-1 : Int) (1 : Int) v26 hc10) rfl rfl rfl rfl hb8 rfl rfl rfl rfl rfl rfl rfl ⟨rfl, rfl, rfl, trivial⟩ ?_
      refine oValG tt rfl rfl rfl rfl rfl hb8 rfl rfl rfl trivial ?_
      refine oPickF rfl rfl rfl rfl rfl hb8 rfl ?_
      refine oVal tt rfl rfl rfl rfl rfl trivial ?_
      refine oSplit rfl rfl rfl (fun hb11 => ?_) (fun hb11 => ?_)
      ·replace h := cnd_t hb11 h
       iterate 7 refine oNoF rfl rfl rfl rfl hb11 rfl rfl ?_
       refine oPick rfl rfl rfl rfl rfl hb11 rfl ?_
       refine vNil ?_
       change VC _ _ _ _
       refine vCondT rfl rfl ?_
       refine vSeq ?_
       refine vRegion ?_
       refine oVal tt rfl rfl rfl rfl rfl trivial ?_
       refine vNil ?_
       change VC _ _ _ _
       refine vRet ?_
       change ∃ _, _
       cases h
       exact ⟨[], _, rfl, trivial, rfl, (.eq rfl), rfl⟩
      ·replace h := cnd_f hb11 h
       iterate 4 refine oValG tt rfl rfl rfl rfl rfl hb11 rfl rfl rfl trivial ?_
       obtain ⟨hg12, h⟩ := grd_inv h
       refine oValG tt rfl rfl rfl rfl rfl hb11 rfl rfl rfl hg12 ?_
       obtain ⟨v27, hc13, h⟩ := bind_inv h
       refine oCallG (I_within_w N (((a_0.getD ((x19).toNat) (0, 0)).2) - ((b_1.getD ((x19).toNat) (0, 0)).2)) (-1 : Int) (1 : Int) v27 hc13) rfl rfl rfl rfl hb11 rfl rfl rfl rfl rfl rfl rfl ⟨rfl, rfl, rfl, trivial⟩ ?_
       refine oValG tt rfl rfl rfl rfl rfl hb11 rfl rfl rfl trivial ?_
       refine oPickF rfl rfl rfl rfl rfl hb11 rfl ?_
       refine vNil ?_
       change VC _ _ _ _
       refine vCond rfl (fun hb14 => ?_) (fun hb14 => ?_)
       ·replace h := cnd_t hb14 h
        refine vSeq ?_
        refine vRegion ?_
        refine oVal tt rfl rfl rfl rfl rfl trivial ?_
        refine vNil ?_
        change VC _ _ _ _
        refine vRet ?_
        change ∃ _, _
        cases h
        exact ⟨[], _, rfl, trivial, rfl, (.eq rfl), rfl⟩
       ·replace h := cnd_f hb14 h
        refine vSkip ?_
        change VC _ _ _ _
        refine vRegion ?_
        obtain ⟨hg15, h⟩ := grd_inv h
        refine oVal tt rfl rfl rfl rfl rfl hg15 ?_
        refine oVal tt rfl rfl rfl rfl rfl trivial ?_
        refine vNil ?_
        change ∃ _, _
        exact ⟨(x19 + (1 : Int)), (En.of ⟨rfl, rfl, rfl, rfl, trivial⟩ trivial trivial), h⟩
   ·replace h := cnd_f hb2 h
    refine vExit ?_
    change ∃ _, _
    exact ⟨(), (En.of trivial trivial trivial), h⟩
end Go.Proofs.Ytgindcgphnbnaaa
namespace Go.Proofs.Ytgindcgphnbnaaa
open Go.RowKit
end Go.Proofs.Ytgindcgphnbnaaa
namespace Go.Proofs.Ytgindcgphnbnaaa
variable {N : Nat}
def stepB (p q : Int × Int) : Bool := onGrid p && (onGrid q && (inB (p.1 - q.1) (-1) 1 && inB (p.2 - q.2) (-1) 1))
def stepAt (a b : List (Int × Int)) (i : Nat) : Bool := stepB (a.getD i (0, 0)) (b.getD i (0, 0))
def nearB (a b : List (Int × Int)) : Bool := decide (a.length = b.length) && (List.range a.length).all (stepAt a b)
theorem l10On_s (N : Nat) (p : Int × Int) : S_l10On N p = some (onGrid p) := by
 unfold S_l10On onGrid
 rw [l1In_s, Option.bind_some, l1In_s]
 cases inB p.1 0 4 <;> rfl
theorem l25Step_s (N : Nat) (p q : Int × Int) : S_l25Step N p q = some (stepB p q) := by
 unfold S_l25Step stepB
 rw [l10On_s, Option.bind_some, l10On_s]
 cases hp : onGrid p with
 | false => rfl
 | true =>
  rw [cnd_true, Option.bind_some]
  cases hq : onGrid q with
  | false => rfl
  | true =>
   have h1 := onGrid_bd hp
   have h2 := onGrid_bd hq
   rw [cnd_true, grd_R (by omega) (by omega), l1In_s, Option.bind_some, grd_R (by omega) (by omega), l1In_s]
   cases inB (p.1 - q.1) (-1) 1 <;> rfl
theorem nearS_s (hN : 4000000 ≤ N) {a b : List (Int × Int)} (ha : a.length ≤ 3000000) : S_AreNear N a b = some (nearB a b) := by
 unfold S_AreNear
 refine (srch (len := min a.length b.length) (ok := stepAt a b) (bad := some false) (fin := some (decide (a.length = b.length))) (by omega) ?_ ?_).trans ?_
 ·intro n i hi _
  have e : ((i : Int)).toNat = i := by omega
  rw [S_AreNear_l1, cnd_dt (by omega), cnd_dt (by omega), grd_pos (by omega), grd_pos (by omega), e, l25Step_s, Option.bind_some, grd_R (by omega) (by omega), succ_cast, cnd_not]
  rfl
 ·intro n _
  have e : (((a.length : Int)) == (b.length : Int)) = decide (a.length = b.length) := by
   rw [Bool.eq_iff_iff]; simp; omega
  rw [S_AreNear_l1, e]
  by_cases h1 : min a.length b.length < a.length
  ·rw [cnd_dt (by omega), cnd_df (by omega)]
  ·rw [cnd_df (by omega)]
 ·rw [cnd_some]
  unfold nearB
  by_cases h : a.length = b.length
  ·rw [decide_eq_true h, h, Nat.min_self, cnd_bool]; rfl
  ·rw [decide_eq_false h]
   cases ((List.range (min a.length b.length)).all (stepAt a b)) <;> rfl
theorem nearI_s (hN : 4000000 ≤ N) {a b : List (Int × Int)} (ha : a.length ≤ 3000000) : I_AreNear N a b = some (nearB a b) := by
 unfold I_AreNear nearB
 by_cases h : a.length = b.length
 ·rw [cnd_nef (by omega), decide_eq_true h, Bool.true_and]
  refine (srch (len := a.length) (ok := stepAt a b) (bad := some false) (fin := some true) (by omega) ?_ ?_).trans ?_
  ·intro n i hi _
   have e : ((i : Int)).toNat = i := by omega
   rw [I_AreNear_l1, cnd_dt (by omega), grd_pos (by omega), grd_pos (by omega), e, isPlace_s, Option.bind_some, isPlace_s, Option.bind_some, within_s, Option.bind_some, within_s, Option.bind_some]
   unfold stepAt stepB
   cases hp : onGrid (a.getD i (0, 0)) with
   | false => rfl
   | true =>
    cases hq : onGrid (b.getD i (0, 0)) with
    | false => rfl
    | true =>
     have h1 := onGrid_bd hp
     have h2 := onGrid_bd hq
     rw [Bool.not_true, cnd_false, cnd_false, grd_R (by omega) (by omega), grd_R (by omega) (by omega), grd_R (by omega) (by omega), succ_cast]
     cases inB ((a.getD i (0, 0)).1 - (b.getD i (0, 0)).1) (-1) 1 <;> cases inB ((a.getD i (0, 0)).2 - (b.getD i (0, 0)).2) (-1) 1 <;> rfl
  ·intro n _
   rw [I_AreNear_l1, cnd_df (by omega)]
  ·rw [cnd_some, cnd_bool]
 ·rw [cnd_net (by omega), decide_eq_false h]; rfl
abbrev QF := List Int × List Int
def rowP (nr : Int → Int → Bool) (k : Nat) (st : QF) : Nat → QF
 | 0 => st
 | j + 1 => cnd (!(rowP nr k st j).1.contains (j : Int) && nr (st.1.getD k 0) (j : Int)) ((rowP nr k st j).1 ++ [(j : Int)], (rowP nr k st j).2 ++ [(k : Int)]) (rowP nr k st j)
def bfsP (nr : Int → Int → Bool) (m : Nat) : Nat → Nat → QF → QF
 | 0, _, st => st
 | f + 1, k, st => if k < st.1.length then bfsP nr m f (k + 1) (rowP nr k st m) else st
structure BQ (nr : Int → Int → Bool) (m : Nat) (s : Int) (st : QF) (k : Nat) : Prop where
 hd : st.1.getD 0 0 = s
 pos : 0 < st.1.length
 len : st.2.length = st.1.length
 nd : st.1.Nodup
 rg : ∀ x ∈ st.1, 0 ≤ x ∧ x < (m : Int)
 f0 : st.2.getD 0 0 = -1
 fr : ∀ i, 0 < i → i < st.1.length → 0 ≤ st.2.getD i 0 ∧ st.2.getD i 0 < (i : Int) ∧ st.2.getD i 0 < (k : Int) + 1 ∧ nr (st.1.getD (st.2.getD i 0).toNat 0) (st.1.getD i 0) = true
 cl : ∀ i, i < k → i < st.1.length → ∀ j : Nat, j < m → nr (st.1.getD i 0) (j : Int) = true → (j : Int) ∈ st.1
theorem getD_app1 {l r : List Int} {i : Nat} (h : i < l.length) : (l ++ r).getD i 0 = l.getD i 0 := by
 rw [List.getD_eq_getElem?_getD, List.getElem?_append_left h, ← List.getD_eq_getElem?_getD]
theorem getD_app2 (l : List Int) (x : Int) : (l ++ [x]).getD l.length 0 = x := by
 rw [List.getD_eq_getElem?_getD, List.getElem?_append_right (Nat.le_refl _), Nat.sub_self]; rfl
theorem BQ.qlen {nr : Int → Int → Bool} {m k : Nat} {s : Int} {st : QF} (h : BQ nr m s st k) : st.1.length ≤ m := nodup_le h.nd h.rg
theorem rowP_inv {nr : Int → Int → Bool} {m k : Nat} {s : Int} {st : QF} (h : BQ nr m s st k) (hk : k < st.1.length) : ∀ j, j ≤ m → BQ nr m s (rowP nr k st j) k ∧ (∃ r, (rowP nr k st j).1 = st.1 ++ r) ∧ ∀ i : Nat, i < j → nr (st.1.getD k 0) (i : Int) = true → (i : Int) ∈ (rowP nr k st j).1
 | 0, _ => ⟨h, ⟨[], by simp [rowP]⟩, fun i hi => by omega⟩
 | j + 1, hj => by
  obtain ⟨h1, ⟨r, hr⟩, h3⟩ := rowP_inv h hk j (by omega)
  rw [rowP]
  cases hc : (!(rowP nr k st j).1.contains (j : Int) && nr (st.1.getD k 0) (j : Int)) with
  | false =>
   rw [cnd_false]
   refine ⟨h1, ⟨r, hr⟩, fun i hi hn => ?_⟩
   by_cases hij : i = j
   ·subst hij
    rw [hn, Bool.and_true, Bool.not_eq_false'] at hc
    simpa using hc
   ·exact h3 i (by omega) hn
  | true =>
   rw [cnd_true]
   simp only [Bool.and_eq_true, Bool.not_eq_true'] at hc
   have hn : (j : Int) ∉ (rowP nr k st j).1 := by simpa using hc.1
   have hgk : (rowP nr k st j).1.getD k 0 = st.1.getD k 0 := by rw [hr]; exact getD_app1 hk
   have hkl : k < (rowP nr k st j).1.length := by rw [hr, List.length_append]; omega
   refine ⟨⟨?_, by simp, by simp [h1.len], List.nodup_append.2 ⟨h1.nd, by simp, fun x hx y hy e => hn ?_⟩, fun x hx => ?_, ?_, fun i hi hil => ?_, fun i hi hil j' hj' hn' => ?_⟩, ⟨r ++ [(j : Int)], ?_⟩, fun i hi hn' => ?_⟩
   ·show ((rowP nr k st j).1 ++ [(j : Int)]).getD 0 0 = s
    rw [getD_app1 h1.pos]; exact h1.hd
   ·rw [← List.mem_singleton.1 hy, ← e]; exact hx
   ·rcases List.mem_append.1 hx with hx | hx
    ·exact h1.rg x hx
    ·rw [List.mem_singleton.1 hx]; omega
   ·show ((rowP nr k st j).2 ++ [(k : Int)]).getD 0 0 = -1
    rw [getD_app1 (by rw [h1.len]; exact h1.pos)]; exact h1.f0
   ·show 0 ≤ ((rowP nr k st j).2 ++ [(k : Int)]).getD i 0 ∧ ((rowP nr k st j).2 ++ [(k : Int)]).getD i 0 < (i : Int) ∧ ((rowP nr k st j).2 ++ [(k : Int)]).getD i 0 < (k : Int) + 1 ∧ nr (((rowP nr k st j).1 ++ [(j : Int)]).getD (((rowP nr k st j).2 ++ [(k : Int)]).getD i 0).toNat 0) (((rowP nr k st j).1 ++ [(j : Int)]).getD i 0) = true
    have hil' : i < (rowP nr k st j).1.length + 1 := by simpa using hil
    by_cases hl : i < (rowP nr k st j).1.length
    ·have h4 := h1.fr i hi hl
     rw [getD_app1 (by rw [h1.len]; exact hl), getD_app1 hl, getD_app1 (by omega)]
     exact h4
    ·obtain rfl : i = (rowP nr k st j).1.length := by omega
     have e1 : ((rowP nr k st j).2 ++ [(k : Int)]).getD (rowP nr k st j).1.length 0 = (k : Int) := by rw [← h1.len]; exact getD_app2 _ _
     rw [e1, getD_app2, show ((k : Int)).toNat = k by omega, getD_app1 hkl, hgk]
     exact ⟨by omega, by omega, by omega, hc.2⟩
   ·have hl : i < (rowP nr k st j).1.length := by omega
    have hn2 : nr (((rowP nr k st j).1 ++ [(j : Int)]).getD i 0) (j' : Int) = true := hn'
    rw [getD_app1 hl] at hn2
    exact List.mem_append_left _ (h1.cl i hi hl j' hj' hn2)
   ·show (rowP nr k st j).1 ++ [(j : Int)] = _
    rw [hr, List.append_assoc]
   ·show (i : Int) ∈ (rowP nr k st j).1 ++ [(j : Int)]
    by_cases hij : i = j
    ·subst hij; simp
    ·exact List.mem_append_left _ (h3 i (by omega) hn')
theorem BQ.next {nr : Int → Int → Bool} {m k : Nat} {s : Int} {st : QF} (h : BQ nr m s st k) (hk : k < st.1.length) : BQ nr m s (rowP nr k st m) (k + 1) ∧ k < (rowP nr k st m).1.length := by
 obtain ⟨h1, ⟨r, hr⟩, h3⟩ := rowP_inv h hk m (Nat.le_refl _)
 have hgk : (rowP nr k st m).1.getD k 0 = st.1.getD k 0 := by rw [hr]; exact getD_app1 hk
 refine ⟨⟨h1.hd, h1.pos, h1.len, h1.nd, h1.rg, h1.f0, fun i hi hil => by have := h1.fr i hi hil; exact ⟨this.1, this.2.1, by omega, this.2.2.2⟩, fun i hi hil j hj hn => ?_⟩, by rw [hr, List.length_append]; omega⟩
 by_cases hik : i = k
 ·subst hik
  rw [hgk] at hn
  exact h3 j hj hn
 ·exact h1.cl i (by omega) hil j hj hn
theorem bfsP_inv {nr : Int → Int → Bool} {m : Nat} {s : Int} : ∀ (f k : Nat) (st : QF), BQ nr m s st k → k ≤ st.1.length → m < f + k → BQ nr m s (bfsP nr m f k st) (bfsP nr m f k st).1.length
 | 0, k, st, h, h1, h2 => by have := h.qlen; omega
 | f + 1, k, st, h, h1, h2 => by
  rw [bfsP]
  by_cases hk : k < st.1.length
  ·rw [if_pos hk]
   have hn := h.next hk
   exact bfsP_inv f (k + 1) _ hn.1 (by omega) (by omega)
  ·rw [if_neg hk]
   obtain rfl : k = st.1.length := by omega
   exact h
def bfs0 (nr : Int → Int → Bool) (m : Nat) (s : Int) : QF := bfsP nr m (m + 1) 0 ([s], [-1])
theorem BQ.start {nr : Int → Int → Bool} {m : Nat} {s : Int} (h : 0 ≤ s ∧ s < (m : Int)) : BQ nr m s ([s], [-1]) 0 :=
 ⟨rfl, by simp, rfl, by simp, fun x hx => by rw [List.mem_singleton.1 hx]; exact h, rfl, fun i h1 h2 => by simp at h2; omega, fun i hi => by omega⟩
theorem bfs0_inv {nr : Int → Int → Bool} {m : Nat} {s : Int} (h : 0 ≤ s ∧ s < (m : Int)) : BQ nr m s (bfs0 nr m s) (bfs0 nr m s).1.length := bfsP_inv _ _ _ (BQ.start h) (by simp) (by omega)
theorem bfsP_more {nr : Int → Int → Bool} {m : Nat} {s : Int} : ∀ (f g k : Nat) (st : QF), BQ nr m s st k → k ≤ st.1.length → m < f + k → f ≤ g → bfsP nr m f k st = bfsP nr m g k st
 | 0, g, k, st, h, h1, h2, _ => by have := h.qlen; omega
 | f + 1, 0, k, st, h, h1, h2, hg => by omega
 | f + 1, g + 1, k, st, h, h1, h2, hg => by
  rw [bfsP, bfsP]
  by_cases hk : k < st.1.length
  ·rw [if_pos hk, if_pos hk]
   have hn := h.next hk
   exact bfsP_more f g (k + 1) _ hn.1 (by omega) (by omega) (by omega)
  ·rw [if_neg hk, if_neg hk]
def nrP (P : List (List (Int × Int))) (i j : Int) : Bool := nearB (P.getD i.toNat []) (P.getD j.toNat [])
theorem reach2P_s (hN : 4000000 ≤ N) {P : List (List (Int × Int))} (hP : P.length ≤ 1000) (hPl : ∀ x ∈ P, x.length ≤ 3000000) {s : Int} {k : Nat} {st : QF} (h : BQ (nrP P) P.length s st k) (hk : k < st.1.length) (kk : QF → Option QF) : ∀ (fuel j : Nat), j ≤ P.length → P.length < fuel + j →
  S_l25Reach_l2 N P (k : Int) kk fuel ((rowP (nrP P) k st j).1, (rowP (nrP P) k st j).2, (j : Int)) = kk (rowP (nrP P) k st P.length) := by
 intro fuel
 induction fuel with
 | zero => intro j h1 h2; omega
 | succ fuel ih =>
  intro j h1 h2
  obtain ⟨hB, ⟨r, hr⟩, _⟩ := rowP_inv h hk j h1
  have hql := hB.qlen
  rw [S_l25Reach_l2]
  by_cases hj : j < P.length
  ·have e1 : ((j : Int)).toNat = j := by omega
   have e2 : ((k : Int)).toNat = k := by omega
   have hgk : (rowP (nrP P) k st j).1.getD k 0 = st.1.getD k 0 := by rw [hr]; exact getD_app1 hk
   have hkl : k < (rowP (nrP P) k st j).1.length := by rw [hr, List.length_append]; omega
   have hrg := h.rg (st.1.getD k 0) (getD_mem hk)
   have hx : (P.getD (st.1.getD k 0).toNat []).length ≤ 3000000 := hPl _ (getD_mem (by omega))
   have hfl := hB.len
   have nx := ih (j + 1) (by omega) (by omega)
   rw [rowP] at nx
   have hnr : nrP P (st.1.getD k 0) (j : Int) = nearB (P.getD (st.1.getD k 0).toNat []) (P.getD j []) := by unfold nrP; rw [e1]
   rw [hnr] at nx
   rw [cnd_dt (by omega), l2Has_s N hN (by omega), Option.bind_some, e1, e2, hgk, grd_pos (by omega), grd_pos (by omega), grd_pos (by omega), nearS_s hN hx, Option.bind_some]
   cases hc : (rowP (nrP P) k st j).1.contains (j : Int) with
   | true =>
    rw [hc, Bool.not_true, Bool.false_and, cnd_false] at nx
    rw [Bool.not_true, cnd_false, grd_R (by omega) (by omega), succ_cast]
    exact nx
   | false =>
    rw [hc, Bool.not_false, Bool.true_and] at nx
    rw [Bool.not_false, cnd_true]
    cases hn : nearB (P.getD (st.1.getD k 0).toNat []) (P.getD j []) with
    | true =>
     rw [hn, cnd_true] at nx
     rw [cnd_true, grd_pos (by omega), grd_pos (by omega), grd_R (by omega) (by omega), succ_cast]
     exact nx
    | false =>
     rw [hn, cnd_false] at nx
     rw [cnd_false, grd_R (by omega) (by omega), succ_cast]
     exact nx
  ·obtain rfl : j = P.length := by omega
   rw [cnd_df (by omega)]
theorem reach1P_s (hN : 4000000 ≤ N) {P : List (List (Int × Int))} (hP : P.length ≤ 1000) (hPl : ∀ x ∈ P, x.length ≤ 3000000) {s : Int} (kk : QF → Option QF) : ∀ (fuel k : Nat) (st : QF), BQ (nrP P) P.length s st k → k ≤ st.1.length → P.length < fuel + k →
  S_l25Reach_l1 N P kk fuel (st.1, st.2, (k : Int)) = kk (bfsP (nrP P) P.length fuel k st) := by
 intro fuel
 induction fuel with
 | zero => intro k st h h1 h2; have := h.qlen; omega
 | succ fuel ih =>
  intro k st h h1 h2
  have hql := h.qlen
  rw [S_l25Reach_l1, bfsP]
  by_cases hk : k < st.1.length
  ·have hn := h.next hk
   rw [cnd_dt (by omega), if_pos hk]
   have := reach2P_s hN hP hPl h hk (fun (x : (List Int) × (List Int)) =>
     match x with
     | (l124, l125) =>
      grd (Rg64 ((k : Int) + (1 : Int))) <|
      S_l25Reach_l1 N P kk fuel (l124, l125, ((k : Int) + (1 : Int)))) N 0 (by omega) (by omega)
   refine this.trans ?_
   show grd _ (S_l25Reach_l1 N P kk fuel ((rowP (nrP P) k st P.length).1, (rowP (nrP P) k st P.length).2, _)) = _
   rw [grd_R (by omega) (by omega), succ_cast]
   exact ih (k + 1) _ hn.1 (by omega) (by omega)
  ·rw [cnd_df (by omega), if_neg hk]
theorem reachP_s (hN : 4000000 ≤ N) {P : List (List (Int × Int))} (hP : P.length ≤ 1000) (hPl : ∀ x ∈ P, x.length ≤ 3000000) {s : Int} (hs : 0 ≤ s ∧ s < (P.length : Int)) : S_l25Reach N P s = some (bfs0 (nrP P) P.length s) := by
 unfold S_l25Reach
 refine (reach1P_s hN hP hPl (s := s) (fun (x : (List Int) × (List Int)) =>
   match x with
   | (l67, l68) =>
    some (l67, l68)) N 0 ([s], [-1]) (BQ.start hs) (by simp) (by omega)).trans ?_
 show some (bfsP (nrP P) P.length N 0 ([s], [-1])) = _
 rw [bfs0, bfsP_more (P.length + 1) N 0 _ (BQ.start hs) (by simp) (by omega) (by omega)]
end Go.Proofs.Ytgindcgphnbnaaa
namespace Go.Proofs.Ytgindcgphnbnaaa
open Go.RowKit
def I_poses (N : Nat) (l_0 : Lnk) : Option ((List (List (Int × Int))) × Bool) :=
 (I_PosesOf N l_0).bind fun v1 =>
 cnd v1.2 (
  some (v1.1, (decide ((v1.1.length : Int) ≤ (100 : Int))))) (
  some (v1.1, false))
set_option maxRecDepth 20000 in
set_option maxHeartbeats 1600000 in
theorem I_poses_w (N : Nat) (l_0 : Lnk) (r : (List (List (Int × Int))) × Bool) (h : I_poses N l_0 = some r) : PCallD Try.prog 111 [lD l_0] 62 118 (.pairss r.1) (.tup [.row 0 0 r.1.length, .bool r.2]) := by
 unfold I_poses at h
 refine pcallD_intro (TT := TT) tt Try.func111 rfl rfl Try.ntmps111 (congrArg Array.toList Try.results111) rfl rfl rfl fun w0 => ?_
 refine vSeq ?_
 refine vRegion ?_
 refine oBox rfl rfl rfl rfl rfl rfl rfl rfl rfl ?_
 iterate 2 refine oVal tt rfl rfl rfl rfl rfl trivial ?_
 refine vNil ?_
 change VC _ _ _ _
 refine vSeq ?_
 refine vRegion ?_
 refine oVal tt rfl rfl rfl rfl rfl trivial ?_
 obtain ⟨v1, hc1, h⟩ := bind_inv h
 refine oCallD 10 (I_PosesOf_w N l_0 v1 hc1) rfl rfl rfl rfl rfl rfl rfl rfl rfl rfl rfl (fun _ h => by cases h) ⟨⟨rfl, rfl, rfl, rfl, trivial⟩, trivial⟩ ?_
 iterate 5 refine oVal tt rfl rfl rfl rfl rfl trivial ?_
 refine vNil ?_
 change VC _ _ _ _
 refine vSeq ?_
 refine vRegion ?_
 iterate 3 refine oVal tt rfl rfl rfl rfl rfl trivial ?_
 refine oSplit rfl rfl rfl (fun hb2 => ?_) (fun hb2 => ?_)
 ·replace h := cnd_t hb2 h
  iterate 3 refine oValG tt rfl rfl rfl rfl rfl hb2 rfl rfl rfl trivial ?_
  refine oPick rfl rfl rfl rfl rfl hb2 rfl ?_
  iterate 2 refine oVal tt rfl rfl rfl rfl rfl trivial ?_
  refine vNil ?_
  change VC _ _ _ _
  refine vRet ?_
  change ∃ _, _
  cases h
  exact ⟨1080, 10, _, rfl, rfl, rfl, rfl, rfl, (.eq rfl), rfl⟩
 ·replace h := cnd_f hb2 h
  iterate 3 refine oNoT rfl rfl rfl rfl hb2 rfl rfl ?_
  refine oPickF rfl rfl rfl rfl rfl hb2 rfl ?_
  iterate 2 refine oVal tt rfl rfl rfl rfl rfl trivial ?_
  refine vNil ?_
  change VC _ _ _ _
  refine vRet ?_
  change ∃ _, _
  cases h
  exact ⟨1080, 10, _, rfl, rfl, rfl, rfl, rfl, (.eq rfl), rfl⟩
end Go.Proofs.Ytgindcgphnbnaaa
namespace Go.Proofs.Ytgindcgphnbnaaa
open Go.RowKit Go.Deep Go.Sort
structure RowPut (w w' : World) (blk m : Nat) (F' : Nat → Value) : Prop where
 os : w'.os = w.os
 tape : w'.tape = w.tape
 output : w'.output = w.output
 size : w.heap.size ≤ w'.heap.size
 else_ : ∀ k, k < w.heap.size → k ≠ blk → w'.heap[k]? = w.heap[k]?
 here : ∀ cur e fr, w.heap[blk]? = some (.cells cur e fr) → ∃ cur' : Array Value, w'.heap[blk]? = some (.cells cur' e fr) ∧ cur'.size = cur.size ∧ ∀ t, t < m → t < cur.size → cur'.getD t undef = F' t
theorem RowPut.to {w w' : World} {blk m m' : Nat} {F F' : Nat → Value} (h : RowPut w w' blk m F) (hm : m' = m) (hF : ∀ t, t < m → F t = F' t) : RowPut w w' blk m' F' :=
 ⟨h.os, h.tape, h.output, h.size, h.else_, fun cur e fr hb => by
  obtain ⟨c, h1, h2, h3⟩ := h.here cur e fr hb
  exact ⟨c, h1, h2, fun t h4 h5 => by rw [h3 t (by omega) h5, hF t (by omega)]⟩⟩
theorem rowPut_of {α : Type} [Inhabited α] {enc : α → Value} {w : World} {blk n : Nat} {d : Array α} {os : Array Obj} : RowPut w (grow (putRow enc (Sort.ahead w n) blk 0 d) os) blk d.size (fun t => enc d[t]!) := by
 refine ⟨rfl, rfl, rfl, by simp, fun k hk hne => ?_, fun cur e fr h => ?_⟩
 ·rw [heap_grow_old _ _ (by simpa using hk)]
  simp [putRow, mapBlock, Sort.ahead, Array.getElem?_modify, Ne.symm hne]
 ·refine ⟨putCells enc 0 d cur, ?_, by simp [putCells], fun t h1 h2 => ?_⟩
  ·have hg : blk < w.heap.size := (Array.getElem?_eq_some_iff.1 h).1
   rw [heap_grow_old _ _ (by simpa using hg)]
   simp [putRow, mapBlock, Sort.ahead, Array.getElem?_modify, h, onCells]
  ·simp [putCells, h1, h2]
def cellsQ : Sq → Nat → Value
 | .ints l, t => .int .i64 (l.getD t 0)
 | .pairs l, t => .int .i64 (match t % 2 with | 0 => (l.getD (t / 2) (0, 0)).1 | _ => (l.getD (t / 2) (0, 0)).2)
 | _, _ => undef
def isIP : Sq → Bool
 | .ints _ | .pairs _ => true
 | _ => false
theorem cellsQ_rel {q : Sq} (hq : isIP q = true) {M : Mp} {A : Bool → Nat → Prop} {w : World} {i j : Nat} {d : D} (hi : i < q.len) (hd : (q.relem i)[j]? = some d) : VR M A w d (cellsQ q (i * q.sz + j)) := by
 cases q <;> first | (cases hq; done) | skip
 ·rename_i l
  rcases j with _ | j <;> simp [Sq.relem, Sq.elem] at hd
  subst hd
  simp only [cellsQ, Sq.sz, Nat.mul_one, Nat.add_zero]
  simp only [List.getD_eq_getElem?_getD]
  exact .int _
 ·rename_i l
  rcases j with _ | _ | j <;> simp [Sq.relem, Sq.elem] at hd
  ·subst hd
   have e1 : (i * 2 + 0) % 2 = 0 := by omega
   have e2 : (i * 2 + 0) / 2 = i := by omega
   simp only [cellsQ, Sq.sz, e1, e2]
   simp only [List.getD_eq_getElem?_getD]
   exact .int _
  ·subst hd
   have e1 : (i * 2 + (0 + 1)) % 2 = 1 := by omega
   have e2 : (i * 2 + (0 + 1)) / 2 = i := by omega
   simp only [cellsQ, Sq.sz, e1, e2]
   simp only [List.getD_eq_getElem?_getD]
   exact .int _
theorem VR.int_val {M : Mp} {A : Bool → Nat → Prop} {w : World} {n : Int} {v : Value} (h : VR M A w (.int n) v) : v = .int .i64 n := by cases h; rfl
theorem cellsQ_read {q : Sq} (hq : isIP q = true) {M : Mp} {A : Bool → Nat → Prop} {w : World} {f : Nat → Value} (h : ∀ i j d, i < q.len → (q.relem i)[j]? = some d → VR M A w d (f (i * q.sz + j))) {t : Nat} (ht : t < q.len * q.sz) : f t = cellsQ q t := by
 cases q <;> first | (cases hq; done) | skip
 ·rename_i l
  simp only [Sq.len, Sq.sz, Nat.mul_one] at ht h
  have := (h t 0 (.int (l.getD t 0)) ht (by simp [Sq.relem, Sq.elem, List.getD_eq_getElem?_getD])).int_val
  simpa [cellsQ] using this
 ·rename_i l
  simp only [Sq.len, Sq.sz] at ht h
  have h0 : t / 2 < l.length := by omega
  rcases (by omega : t % 2 = 0 ∨ t % 2 = 1) with e | e
  ·have := (h (t / 2) 0 (.int (l.getD (t / 2) (0, 0)).1) h0 (by simp [Sq.relem, Sq.elem, List.getD_eq_getElem?_getD])).int_val
   rw [show t / 2 * 2 + 0 = t by omega] at this
   rw [this]; simp [cellsQ, e]
  ·have := (h (t / 2) 1 (.int (l.getD (t / 2) (0, 0)).2) h0 (by simp [Sq.relem, Sq.elem, List.getD_eq_getElem?_getD])).int_val
   rw [show t / 2 * 2 + 1 = t by omega] at this
   rw [this]; simp [cellsQ, e]
structure Lays1 (P : Program) (f : FuncId) (vs : List Value) (q q' : Sq) : Prop where
 some_ : ∀ (blk cap : Nat) (w : World), (∀ t, t < q.len * q.sz → w.cell? ⟨blk, t, none⟩ = some (cellsQ q t) ∧ w.frozen? ⟨blk, t, none⟩ = false) → blk < w.heap.size → q.len ≤ maxLen →
  Calls P f (Value.slice (some ⟨blk, 0, none⟩) q.len cap :: vs).toArray w fun e w' => e = .returned (.tuple #[]) ∧ RowPut w w' blk (q'.len * q'.sz) (cellsQ q')
 none_ : q.len = 0 → ∀ (p : Option Addr) (cap : Nat) (w : World), Calls P f (Value.slice p 0 cap :: vs).toArray w fun e w' => e = .returned (.tuple #[]) ∧ w' = w
theorem mcall_lays {P : Program} {f : FuncId} (en : ∀ args w, (callFunc f args).run P w = .ok (.enter f args) w) {ds : List D} {vs : List Value} {e : TypeId} {q q' : Sq} (hq : isIP q = true) (hq' : isIP q' = true) (hl : q'.len = q.len) (hz : q'.sz = q.sz)
  (hvs : ds.length = vs.length) (hds : ∀ M A w i d v, ds[i]? = some d → VR M A w d v → vs.getD i undef = v) (hL : Lays1 P f vs q q') :
  MCall P f (.row 1000000 0 q.len :: ds) [1000000] [] [(e, q)] [(e, q')] [] [] (.tup []) := by
 have hrf : q'.refF = none := by cases q' <;> first | (cases hq'; done) | rfl
 refine ⟨en, ⟨rfl, rfl, rfl, rfl⟩, rfl, rfl, by simp [conR, hrf], rfl, ⟨rfl, rfl⟩, fun w N args A hA1 hA2 hM hargs => ?_⟩
 obtain ⟨ha, hv⟩ := hargs
 have h0 := hv 0 _ rfl
 have hargs' : args = (args.getD 0 undef :: vs).toArray := by
  apply Array.ext
  ·simpa [hvs] using ha
  ·intro i h1 h2
   rcases i with _ | i
   ·simp [Array.getD_eq_getD_getElem?, h1]
   ·have hi : i < vs.length := by simpa using h2
    have hi' : i < ds.length := by omega
    have := hds N A w i ds[i] _ (by simp [hi']) (hv (i + 1) ds[i] (by simp [hi']))
    rw [Array.getD_eq_getD_getElem?, Array.getElem?_eq_getElem h1] at this
    simp [List.getD_eq_getElem?_getD, hi] at this
    simp [this]
 have hrow := hM.row 1000000 e q (by rfl)
 have hvr : ∀ x, N.γ 1000000 = some x → RowV x 0 q.len (args.getD 0 undef) := by cases h0 with | row _ _ _ _ _ h => exact h
 have hγ : ∀ r, r ≠ 1000000 → N.γ r = none := fun r hr => hM.rown r (by
  show PS.r ⟨[], [(1000000, some (e, q))], []⟩ r = none
  unfold PS.r
  cases hb : Nat.ble BIG r with
  | true =>
   simp only [PS.inn]
   have : look [(1000000, some (e, q))] (FK + unF r) = none := by rw [look_cons_ne (by have : FK = 8589934592 := rfl; omega)]; rfl
   rw [this]; rfl
  | false => simp only; rw [look_cons_ne (Ne.symm hr)]; rfl)
 rcases hrow with ⟨hn, h00⟩ | ⟨g, cap, cur, hg, hblk, hlc, hcm, hcs, hcells⟩
 ·have hv2 := hvr _ hn
  obtain ⟨⟨ao, hv3⟩, h3, _⟩ := hv2
  rw [hargs', hv3]
  refine (hL.none_ h00 ao 0 w).mono ?_
  rintro x w' ⟨rfl, rfl⟩
  refine ⟨_, rfl, N, ⟨?_, hM.boxn, fun r e' q'' hr => ?_, fun r hr => ?_, hM.inj1, hM.inj2, hM.inj3⟩, fun _ => rfl, fun _ _ _ => rfl, fun k hk => .inl hk, rfl, rfl, rfl, Nat.le_refl _, fun _ _ _ => rfl, ?_⟩
  ·intro b cs hb; cases hb
  ·by_cases hr1 : r = 1000000
   ·subst hr1
    have : (e, q') = (e', q'') := by simpa [PS.r, asL, look_cons_self, show Nat.ble BIG 1000000 = false from rfl] using hr
    cases this
    exact .inl ⟨hn, by omega⟩
   ·exfalso
    have : PS.r ⟨[], [(1000000, some (e, q'))], []⟩ r = none := by
     unfold PS.r
     cases hb : Nat.ble BIG r with
     | true =>
      simp only [PS.inn]
      have : look [(1000000, some (e, q'))] (FK + unF r) = none := by rw [look_cons_ne (by have : FK = 8589934592 := rfl; omega)]; rfl
      rw [this]; rfl
     | false => simp only; rw [look_cons_ne (Ne.symm hr1)]; rfl
    have hr' : PS.r ⟨[], [(1000000, some (e, q'))], []⟩ r = some (e', q'') := hr
    rw [this] at hr'; cases hr'
  ·by_cases hr1 : r = 1000000
   ·subst hr1
    have hr' : PS.r ⟨[], [(1000000, some (e, q'))], []⟩ 1000000 = none := hr
    simp [PS.r, look_cons_self, show Nat.ble BIG 1000000 = false from rfl] at hr'
   ·exact hγ r hr1
  ·exact .tup [] #[] rfl (fun i d h => by simp at h)
 ·obtain ⟨_, ao, hv3, hao⟩ := hvr _ hg
  have hao' := hao (.inr rfl)
  subst hao'
  have hgs : g < w.heap.size := heap_lt hblk
  have hlen : q.len ≤ maxLen := Nat.le_trans hlc hcm
  rw [Nat.zero_mul] at hv3
  rw [hargs', hv3]
  have hsz : q.len * q.sz ≤ cur.size := by rw [hcs]; exact Nat.mul_le_mul_right _ hlc
  have hcq : ∀ t, t < q.len * q.sz → cur.getD t undef = cellsQ q t := fun t ht => cellsQ_read hq (f := fun t => cur.getD t undef) hcells ht
  refine (hL.some_ g (cap - 0) w (fun t ht => ?_) hgs hlen).mono ?_
  ·have h1 := hcq t ht
   have ht2 : t < cur.size := by omega
   rw [Array.getD_eq_getD_getElem?, Array.getElem?_eq_getElem ht2] at h1
   refine ⟨?_, by simp [World.frozen?, hblk]⟩
   simp only [World.cell?, hblk]
   simp only [Option.isSome_none, Bool.false_eq_true, if_false]
   rw [Array.getElem?_eq_getElem ht2]
   simpa using h1
  rintro x w' ⟨rfl, hP⟩
  obtain ⟨cur', hb', hs', hc'⟩ := hP.here _ _ _ hblk
  refine ⟨_, rfl, N, ⟨?_, hM.boxn, fun r e' q'' hr => ?_, fun r hr => ?_, hM.inj1, hM.inj2, hM.inj3⟩, fun _ => rfl, fun _ _ _ => rfl, fun k hk => .inl hk, hP.os, hP.tape, hP.output, hP.size, fun k hk hno => hP.else_ k hk fun e1 => hno (.inr ⟨1000000, cap, q.sz, by rw [hg, e1]⟩), ?_⟩
  ·intro b cs hb; cases hb
  ·by_cases hr1 : r = 1000000
   ·subst hr1
    have : (e, q') = (e', q'') := by simpa [PS.r, asL, look_cons_self, show Nat.ble BIG 1000000 = false from rfl] using hr
    cases this
    refine .inr ⟨g, cap, cur', by rw [hg, hz], hb', by omega, hcm, by rw [hs', hcs, hz], fun i j d hi hd => ?_⟩
    have hj : j < q'.sz := by
     cases q' <;> first | (cases hq'; done) | skip
     ·rcases j with _ | j <;> simp [Sq.relem, Sq.elem] at hd; simp [Sq.sz]
     ·rcases j with _ | _ | j <;> simp [Sq.relem, Sq.elem] at hd <;> simp [Sq.sz]
    have hin : i * q'.sz + j < q'.len * q'.sz := by
     have h5 := Nat.mul_le_mul_right q'.sz (show i + 1 ≤ q'.len from hi)
     rw [Nat.add_mul, Nat.one_mul] at h5; omega
    rw [hc' _ hin (by rw [hl, hz] at hin; rw [hz]; omega)]
    exact cellsQ_rel hq' hi hd
   ·exfalso
    have : PS.r ⟨[], [(1000000, some (e, q'))], []⟩ r = none := by
     unfold PS.r
     cases hb : Nat.ble BIG r with
     | true =>
      simp only [PS.inn]
      have : look [(1000000, some (e, q'))] (FK + unF r) = none := by rw [look_cons_ne (by have : FK = 8589934592 := rfl; omega)]; rfl
      rw [this]; rfl
     | false => simp only; rw [look_cons_ne (Ne.symm hr1)]; rfl
    have hr' : PS.r ⟨[], [(1000000, some (e, q'))], []⟩ r = some (e', q'') := hr
    rw [this] at hr'; cases hr'
  ·by_cases hr1 : r = 1000000
   ·subst hr1
    have hr' : PS.r ⟨[], [(1000000, some (e, q'))], []⟩ 1000000 = none := hr
    simp [PS.r, look_cons_self, show Nat.ble BIG 1000000 = false from rfl] at hr'
   ·exact hγ r hr1
  ·exact .tup [] #[] rfl (fun i d h => by simp at h)
end Go.Proofs.Ytgindcgphnbnaaa
namespace Go.Proofs.Ytgindcgphnbnaaa
open Go.RowKit Go.Deep Go.Sort
end Go.Proofs.Ytgindcgphnbnaaa
namespace Go.Proofs.Ytgindcgphnbnaaa
open Go.RowKit Go.Deep
end Go.Proofs.Ytgindcgphnbnaaa
namespace Go.Proofs.Ytgindcgphnbnaaa
open Go.RowKit Go.Deep
end Go.Proofs.Ytgindcgphnbnaaa
namespace Go.Proofs.Ytgindcgphnbnaaa
open Go.RowKit
end Go.Proofs.Ytgindcgphnbnaaa
namespace Go.Proofs.Ytgindcgphnbnaaa
variable {N : Nat}
theorem pose_len {l : Lnk} {p : List (Int × Int)} (h : p ∈ posesL l) : p.length ≤ 8 := by
 obtain ⟨h1, h2⟩ := posesL_mem h
 have hlk : isLk l = true := by unfold isPs at h2; exact (Bool.and_eq_true _ _ ▸ h2).1
 obtain ⟨hf, _⟩ := isLk_parts hlk
 obtain ⟨hgr, h4, h5, _⟩ := isFr_parts hf
 omega
def rmOk (l : Lnk) : Bool := isLk l && decide ((posesL l).length ≤ 100)
theorem posesP_s (hN : 4000000 ≤ N) {l : Lnk} (hp : l.f.places.length ≤ 3000000) (hg : l.ground.length ≤ 3000000) : I_poses N l = some (posesL l, rmOk l) := by
 unfold I_poses rmOk
 rw [posesI_s hN hp hg, Option.bind_some]
 show cnd (isLk l) (some (posesL l, decide (((posesL l).length : Int) ≤ 100))) (some (posesL l, false)) = _
 have e : decide (((posesL l).length : Int) ≤ 100) = decide ((posesL l).length ≤ 100) := by
  rw [Bool.eq_iff_iff, decide_eq_true_eq, decide_eq_true_eq]; omega
 rw [e]
 cases isLk l <;> rfl
end Go.Proofs.Ytgindcgphnbnaaa
namespace Go.Proofs.Ytgindcgphnbnaaa
open Go.RowKit Go.Deep Go.Sort
def layR_ren : Go.Shelf.Ren := ⟨fun | 112 => 114 | n => n, fun | 28 => 22 | 3 => 3 | 4 => 4 | 0 => 0 | n => n, fun | n => n⟩
theorem layR : Go.Proofs.Lays.n112 Try.prog layR_ren := {
 mixed := by kernel_rfl
 f112 := Try.func114.trans (congrArg some (by kernel_rfl))
 t0 := Try.underlying0
 a0 := Try.isAgg0
 z0 := Try.sizeOf0
 v0 := Try.zeroValue0
 t3 := Try.underlying3
 a3 := Try.isAgg3
 z3 := Try.sizeOf3
 v3 := Try.zeroValue3
 t4 := Try.underlying4
 a4 := Try.isAgg4
 z4 := Try.sizeOf4
 v4 := Try.zeroValue4
 t28 := Try.underlying22
 a28 := Try.isAgg22
 z28 := Try.sizeOf22
 v28 := Try.zeroValue22 }
def G_Reverse_int (N : Nat) (a_0 : List Int) : Option (List Int) := some a_0.reverse
theorem lays_rev (l : List Int) : Lays1 Try.prog 114 [] (.ints l) (.ints l.reverse) := by
 refine ⟨fun blk cap w hc hb hl => ?_, fun h p cap w => ?_⟩
 ·have hl2 : l.length ≤ 9223372036854775807 := by have := hl; unfold maxLen at this; exact this
  have hH : Holds (Value.int .i64) w blk 0 l.toArray := fun j hj => by
   have hj' : j < l.length := by simpa using hj
   have := hc j (by simpa [Sq.len, Sq.sz] using hj')
   simp only [Nat.zero_add]
   refine ⟨?_, this.2⟩
   rw [this.1]
   simp [cellsQ, hj']
  refine (Any.slices_Reverse_int layR blk 0 cap l w hH (by omega)).mono ?_
  rintro e w' ⟨rfl, n, rfl⟩
  refine ⟨rfl, ?_⟩
  have h := rowPut_of (enc := Value.int .i64) (w := w) (blk := blk) (n := n) (d := l.reverse.toArray) (os := #[])
  rw [grow_empty] at h
  refine h.to (by simp [Sq.len, Sq.sz]) fun t ht => ?_
  have ht' : t < l.length := by simpa using ht
  simp [cellsQ, ht']
 ·exact Any.slices_Reverse_int_empty layR p cap w
theorem G_Reverse_int_w (N : Nat) (a_0 : List Int) (r : List Int) (h : G_Reverse_int N a_0 = some r) : MCall Try.prog 114 [.row 1000000 0 a_0.length] [1000000] [] [(3, .ints a_0)] [(3, .ints r)] [] [] (.tup []) := by
 cases h
 exact mcall_lays (q := .ints a_0) (q' := .ints a_0.reverse) (ds := []) (vs := []) (enters_of Try.func114 (by kernel_rfl) rfl) rfl rfl (by show a_0.reverse.length = a_0.length; simp) rfl rfl (fun _ _ _ i d v h => by simp at h) (lays_rev a_0)
end Go.Proofs.Ytgindcgphnbnaaa
namespace Go.Proofs.Ytgindcgphnbnaaa
open Go.RowKit Go.Deep
def S_PathBetween_l2 (N : Nat) (v2 : (List Int) × (List Int)) (k : (List Int) → Option ((List Int) × Bool)) : Nat → ((List Int) × Int) → Option ((List Int) × Bool)
 | 0, _ => none
 | n + 1, (l40, i41) =>
  cnd (decide (i41 ≥ (0 : Int))) (
   grd (0 ≤ i41 ∧ i41 < (v2.1.length : Int)) <|
   grd (([(v2.1.getD ((i41).toNat) 0)] : List Int).length + ((l40.take (0 + l40.length)).drop 0).length ≤ 4294967296) <|
   grd (0 ≤ i41 ∧ i41 < (v2.2.length : Int)) <|
   S_PathBetween_l2 N v2 k n ((([(v2.1.getD ((i41).toNat) 0)] : List Int) ++ ((l40.take (0 + l40.length)).drop 0)), (v2.2.getD ((i41).toNat) 0))) (
   k l40)
def S_PathBetween_l1 (N : Nat) (to_2 : Int) (v2 : (List Int) × (List Int)) (k : Unit → Option ((List Int) × Bool)) : Nat → Int → Option ((List Int) × Bool)
 | 0, _ => none
 | n + 1, k29 =>
  cnd (decide (k29 < (v2.1.length : Int))) (
   grd (0 ≤ k29 ∧ k29 < (v2.1.length : Int)) <|
   cnd ((v2.1.getD ((k29).toNat) 0) != to_2) (
    grd (Rg64 (k29 + (1 : Int))) <|
    S_PathBetween_l1 N to_2 v2 k n (k29 + (1 : Int))) (
    S_PathBetween_l2 N v2 (fun (l38 : List Int) =>
       some (l38, true)) N (([] : List Int), k29))) (
   k ())
def S_PathBetween (N : Nat) (l_0 : Lnk) (from_1 : Int) (to_2 : Int) : Option ((List Int) × Bool) :=
 (S_PosesOf N l_0).bind fun v1 =>
 cnd (!v1.2) (
  some (([] : List Int), false)) (
  cnd (decide ((v1.1.length : Int) > (100 : Int))) (
   some (([] : List Int), false)) (
   cnd (decide (from_1 < (0 : Int))) (
    some (([] : List Int), false)) (
    cnd (decide (to_2 < (0 : Int))) (
     some (([] : List Int), false)) (
     cnd (decide (from_1 ≥ (v1.1.length : Int))) (
      some (([] : List Int), false)) (
      cnd (decide (to_2 ≥ (v1.1.length : Int))) (
       some (([] : List Int), false)) (
       (S_l25Reach N v1.1 from_1).bind fun v2 =>
       S_PathBetween_l1 N to_2 v2 (fun (_ : Unit) =>
          some (([] : List Int), false)) N (0 : Int)))))))
set_option maxRecDepth 20000 in
set_option maxHeartbeats 1600000 in
theorem S_PathBetween_w (N : Nat) (l_0 : Lnk) (from_1 : Int) (to_2 : Int) (r : (List Int) × Bool) (h : S_PathBetween N l_0 from_1 to_2 = some r) : PCall Try.prog 51 [lD l_0, .int from_1, .int to_2] [(3, .ints r.1)] (.tup [.row 0 0 r.1.length, .bool r.2]) := by
 unfold S_PathBetween at h
 refine pcall_intro (TT := TT) tt Try.func51 rfl rfl Try.ntmps51 (congrArg Array.toList Try.results51) rfl rfl fun w0 => ?_
 refine vSeq ?_
 refine vRegion ?_
 refine oBox rfl rfl rfl rfl rfl rfl rfl rfl rfl ?_
 iterate 2 refine oVal tt rfl rfl rfl rfl rfl trivial ?_
 refine vNil ?_
 change VC _ _ _ _
 refine vSeq ?_
 refine vRegion ?_
 refine oVal tt rfl rfl rfl rfl rfl trivial ?_
 obtain ⟨v1, hc1, h⟩ := bind_inv h
 refine oCall (S_PosesOf_w N l_0 v1 hc1) rfl rfl rfl rfl rfl rfl rfl rfl ⟨⟨rfl, rfl, rfl, rfl, trivial⟩, trivial⟩ ?_
 iterate 5 refine oVal tt rfl rfl rfl rfl rfl trivial ?_
 refine vNil ?_
 change VC _ _ _ _
 iterate 2 refine vSeq ?_
 refine vRegion ?_
 iterate 3 refine oVal tt rfl rfl rfl rfl rfl trivial ?_
 refine oSplit rfl rfl rfl (fun hb2 => ?_) (fun hb2 => ?_)
 ·replace h := cnd_t hb2 h
  iterate 3 refine oNoF rfl rfl rfl rfl hb2 rfl rfl ?_
  refine oPick rfl rfl rfl rfl rfl hb2 rfl ?_
  refine oVal tt rfl rfl rfl rfl rfl trivial ?_
  iterate 2 refine oNoF rfl rfl rfl rfl rfl rfl rfl ?_
  refine oPick rfl rfl rfl rfl rfl rfl rfl ?_
  refine oVal tt rfl rfl rfl rfl rfl trivial ?_
  iterate 2 refine oNoF rfl rfl rfl rfl rfl rfl rfl ?_
  refine oPick rfl rfl rfl rfl rfl rfl rfl ?_
  refine oVal tt rfl rfl rfl rfl rfl trivial ?_
  iterate 4 refine oNoF rfl rfl rfl rfl rfl rfl rfl ?_
  refine oPick rfl rfl rfl rfl rfl rfl rfl ?_
  refine oVal tt rfl rfl rfl rfl rfl trivial ?_
  iterate 4 refine oNoF rfl rfl rfl rfl rfl rfl rfl ?_
  refine oPick rfl rfl rfl rfl rfl rfl rfl ?_
  refine vNil ?_
  change VC _ _ _ _
  refine vCondT rfl rfl ?_
  refine vSeq ?_
  refine vRegion ?_
  refine oEmpty tt (wNone rfl) rfl rfl rfl rfl ?_
  iterate 2 refine oVal tt rfl rfl rfl rfl rfl trivial ?_
  refine vNil ?_
  change VC _ _ _ _
  refine vNilT 6 9001 3 (.ints []) rfl rfl rfl rfl ?_
  refine vRet ?_
  change ∃ _, _
  cases h
  exact ⟨[9001], _, rfl, ⟨rfl, trivial⟩, rfl, (.eq rfl), rfl⟩
 ·replace h := cnd_f hb2 h
  iterate 3 refine oValG tt rfl rfl rfl rfl rfl hb2 rfl rfl rfl trivial ?_
  refine oPickF rfl rfl rfl rfl rfl hb2 rfl ?_
  refine oVal tt rfl rfl rfl rfl rfl trivial ?_
  refine oSplit rfl rfl rfl (fun hb3 => ?_) (fun hb3 => ?_)
  ·replace h := cnd_t hb3 h
   iterate 2 refine oNoF rfl rfl rfl rfl hb3 rfl rfl ?_
   refine oPick rfl rfl rfl rfl rfl hb3 rfl ?_
   refine oVal tt rfl rfl rfl rfl rfl trivial ?_
   iterate 2 refine oNoF rfl rfl rfl rfl rfl rfl rfl ?_
   refine oPick rfl rfl rfl rfl rfl rfl rfl ?_
   refine oVal tt rfl rfl rfl rfl rfl trivial ?_
   iterate 4 refine oNoF rfl rfl rfl rfl rfl rfl rfl ?_
   refine oPick rfl rfl rfl rfl rfl rfl rfl ?_
   refine oVal tt rfl rfl rfl rfl rfl trivial ?_
   iterate 4 refine oNoF rfl rfl rfl rfl rfl rfl rfl ?_
   refine oPick rfl rfl rfl rfl rfl rfl rfl ?_
   refine vNil ?_
   change VC _ _ _ _
   refine vCondT rfl rfl ?_
   refine vSeq ?_
   refine vRegion ?_
   refine oEmpty tt (wNone rfl) rfl rfl rfl rfl ?_
   iterate 2 refine oVal tt rfl rfl rfl rfl rfl trivial ?_
   refine vNil ?_
   change VC _ _ _ _
   refine vNilT 6 9001 3 (.ints []) rfl rfl rfl rfl ?_
   refine vRet ?_
   change ∃ _, _
   cases h
   exact ⟨[9001], _, rfl, ⟨rfl, trivial⟩, rfl, (.eq rfl), rfl⟩
  ·replace h := cnd_f hb3 h
   iterate 2 refine oValG tt rfl rfl rfl rfl rfl hb3 rfl rfl rfl trivial ?_
   refine oPickF rfl rfl rfl rfl rfl hb3 rfl ?_
   refine oVal tt rfl rfl rfl rfl rfl trivial ?_
   refine oSplit rfl rfl rfl (fun hb4 => ?_) (fun hb4 => ?_)
   ·replace h := cnd_t hb4 h
    iterate 2 refine oNoF rfl rfl rfl rfl hb4 rfl rfl ?_
    refine oPick rfl rfl rfl rfl rfl hb4 rfl ?_
    refine oVal tt rfl rfl rfl rfl rfl trivial ?_
    iterate 4 refine oNoF rfl rfl rfl rfl rfl rfl rfl ?_
    refine oPick rfl rfl rfl rfl rfl rfl rfl ?_
    refine oVal tt rfl rfl rfl rfl rfl trivial ?_
    iterate 4 refine oNoF rfl rfl rfl rfl rfl rfl rfl ?_
    refine oPick rfl rfl rfl rfl rfl rfl rfl ?_
    refine vNil ?_
    change VC _ _ _ _
    refine vCondT rfl rfl ?_
    refine vSeq ?_
    refine vRegion ?_
    refine oEmpty tt (wNone rfl) rfl rfl rfl rfl ?_
    iterate 2 refine oVal tt rfl rfl rfl rfl rfl trivial ?_
    refine vNil ?_
    change VC _ _ _ _
    refine vNilT 6 9001 3 (.ints []) rfl rfl rfl rfl ?_
    refine vRet ?_
    change ∃ _, _
    cases h
    exact ⟨[9001], _, rfl, ⟨rfl, trivial⟩, rfl, (.eq rfl), rfl⟩
   ·replace h := cnd_f hb4 h
    iterate 2 refine oValG tt rfl rfl rfl rfl rfl hb4 rfl rfl rfl trivial ?_
    refine oPickF rfl rfl rfl rfl rfl hb4 rfl ?_
    refine oVal tt rfl rfl rfl rfl rfl trivial ?_
    refine oSplit rfl rfl rfl (fun hb5 => ?_) (fun hb5 => ?_)
    ·replace h := cnd_t hb5 h
     iterate 4 refine oNoF rfl rfl rfl rfl hb5 rfl rfl ?_
     refine oPick rfl rfl rfl rfl rfl hb5 rfl ?_
     refine oVal tt rfl rfl rfl rfl rfl trivial ?_
     iterate 4 refine oNoF rfl rfl rfl rfl rfl rfl rfl ?_
     refine oPick rfl rfl rfl rfl rfl rfl rfl ?_
     refine vNil ?_
     change VC _ _ _ _
     refine vCondT rfl rfl ?_
     refine vSeq ?_
     refine vRegion ?_
     refine oEmpty tt (wNone rfl) rfl rfl rfl rfl ?_
     iterate 2 refine oVal tt rfl rfl rfl rfl rfl trivial ?_
     refine vNil ?_
     change VC _ _ _ _
     refine vNilT 6 9001 3 (.ints []) rfl rfl rfl rfl ?_
     refine vRet ?_
     change ∃ _, _
     cases h
     exact ⟨[9001], _, rfl, ⟨rfl, trivial⟩, rfl, (.eq rfl), rfl⟩
    ·replace h := cnd_f hb5 h
     iterate 4 refine oValG tt rfl rfl rfl rfl rfl hb5 rfl rfl rfl trivial ?_
     refine oPickF rfl rfl rfl rfl rfl hb5 rfl ?_
     refine oVal tt rfl rfl rfl rfl rfl trivial ?_
     refine oSplit rfl rfl rfl (fun hb6 => ?_) (fun hb6 => ?_)
     ·replace h := cnd_t hb6 h
      iterate 4 refine oNoF rfl rfl rfl rfl hb6 rfl rfl ?_
      refine oPick rfl rfl rfl rfl rfl hb6 rfl ?_
      refine vNil ?_
      change VC _ _ _ _
      refine vCondT rfl rfl ?_
      refine vSeq ?_
      refine vRegion ?_
      refine oEmpty tt (wNone rfl) rfl rfl rfl rfl ?_
      iterate 2 refine oVal tt rfl rfl rfl rfl rfl trivial ?_
      refine vNil ?_
      change VC _ _ _ _
      refine vNilT 6 9001 3 (.ints []) rfl rfl rfl rfl ?_
      refine vRet ?_
      change ∃ _, _
      cases h
      exact ⟨[9001], _, rfl, ⟨rfl, trivial⟩, rfl, (.eq rfl), rfl⟩
     ·replace h := cnd_f hb6 h
      iterate 4 refine oValG tt rfl rfl rfl rfl rfl hb6 rfl rfl rfl trivial ?_
      refine oPickF rfl rfl rfl rfl rfl hb6 rfl ?_
      refine vNil ?_
      change VC _ _ _ _
      refine vCond rfl (fun hb7 => ?_) (fun hb7 => ?_)
      ·replace h := cnd_t hb7 h
       refine vSeq ?_
       refine vRegion ?_
       refine oEmpty tt (wNone rfl) rfl rfl rfl rfl ?_
       iterate 2 refine oVal tt rfl rfl rfl rfl rfl trivial ?_
       refine vNil ?_
       change VC _ _ _ _
       refine vNilT 6 9001 3 (.ints []) rfl rfl rfl rfl ?_
       refine vRet ?_
       change ∃ _, _
       cases h
       exact ⟨[9001], _, rfl, ⟨rfl, trivial⟩, rfl, (.eq rfl), rfl⟩
      ·replace h := cnd_f hb7 h
       refine vSkip ?_
       change VC _ _ _ _
       refine vSeq ?_
       refine vRegion ?_
       iterate 2 refine oVal tt rfl rfl rfl rfl rfl trivial ?_
       obtain ⟨v2, hc8, h⟩ := bind_inv h
       refine oCall (S_l25Reach_w N v1.1 from_1 v2 hc8) rfl rfl rfl rfl rfl rfl rfl rfl ⟨(.inl ⟨rfl, rfl⟩), rfl, trivial⟩ ?_
       iterate 5 refine oVal tt rfl rfl rfl rfl rfl trivial ?_
       refine vNil ?_
       change VC _ _ _ _
       iterate 2 refine vSeq ?_
       refine vRegion ?_
       refine oVal tt rfl rfl rfl rfl rfl trivial ?_
       refine vNil ?_
       change VC _ _ _ _
       refine vJoin (F := fun k => S_PathBetween_l1 N to_2 v2 k) h (α := Unit) (J := fun (_ : Unit) => (⟨[], [], []⟩ : PS)) ?_ ?_
       ·rintro ⟨⟩ h
        show VC _ _ _ (⟨[], [], []⟩ : PS)
        refine vSeq ?_
        refine vRegion ?_
        refine oEmpty tt (wNone rfl) rfl rfl rfl rfl ?_
        iterate 2 refine oVal tt rfl rfl rfl rfl rfl trivial ?_
        refine vNil ?_
        change VC _ _ _ _
        refine vNilT 6 9001 3 (.ints []) rfl rfl rfl rfl ?_
        refine vRet ?_
        change ∃ _, _
        cases h
        exact ⟨[9001], _, rfl, ⟨rfl, trivial⟩, rfl, (.eq rfl), rfl⟩
       ·intro k h
        refine vBlock ?_
        refine vLoopS (α := Int) (fun (k29 : Int) => (⟨[(2, .int to_2), (10, .row 1510 0 v2.1.length), (11, .row 1511 0 v2.2.length), (12, .int k29)], [(1510, some (3, .ints v2.1)), (1511, some (3, .ints v2.2))], []⟩ : PS)) (S_PathBetween_l1 N to_2 v2 k) h (En.of ⟨rfl, rfl, rfl, rfl, trivial⟩ ⟨rfl, rfl, trivial⟩ trivial) (fun _ => rfl) ?_
        rintro n k29 h
        rw [S_PathBetween_l1] at h
        show VC _ _ _ (⟨[(2, .int to_2), (10, .row 1510 0 v2.1.length), (11, .row 1511 0 v2.2.length), (12, .int k29)], [(1510, some (3, .ints v2.1)), (1511, some (3, .ints v2.2))], []⟩ : PS)
        iterate 2 refine vSeq ?_
        refine vRegion ?_
        iterate 4 refine oVal tt rfl rfl rfl rfl rfl trivial ?_
        refine vNil ?_
        change VC _ _ _ _
        refine vCond rfl (fun hb9 => ?_) (fun hb9 => ?_)
        ·replace h := cnd_t hb9 h
         refine vSkip ?_
         change VC _ _ _ _
         refine vSeq ?_
         refine vBlock ?_
         iterate 2 refine vSeq ?_
         refine vRegion ?_
         iterate 2 refine oVal tt rfl rfl rfl rfl rfl trivial ?_
         obtain ⟨hg10, h⟩ := grd_inv h
         iterate 2 refine oVal tt rfl rfl rfl rfl rfl hg10 ?_
         iterate 2 refine oVal tt rfl rfl rfl rfl rfl trivial ?_
         refine vNil ?_
         change VC _ _ _ _
         refine vCond rfl (fun hb11 => ?_) (fun hb11 => ?_)
         ·replace h := cnd_t hb11 h
          refine vExit ?_
          change VC _ _ _ _
          refine vRegion ?_
          refine oVal tt rfl rfl rfl rfl rfl trivial ?_
          obtain ⟨hg12, h⟩ := grd_inv h
          refine oVal tt rfl rfl rfl rfl rfl hg12 ?_
          refine oVal tt rfl rfl rfl rfl rfl trivial ?_
          refine vNil ?_
          change ∃ _, _
          exact ⟨(k29 + (1 : Int)), (En.of ⟨rfl, rfl, rfl, rfl, trivial⟩ ⟨rfl, rfl, trivial⟩ trivial), h⟩
         ·replace h := cnd_f hb11 h
          refine vSkip ?_
          change VC _ _ _ _
          refine vSeq ?_
          refine vRegion ?_
          refine oEmpty tt (wNone rfl) rfl rfl rfl rfl ?_
          refine oVal tt rfl rfl rfl rfl rfl trivial ?_
          refine vNil ?_
          change VC _ _ _ _
          iterate 2 refine vSeq ?_
          refine vRegion ?_
          iterate 2 refine oVal tt rfl rfl rfl rfl rfl trivial ?_
          refine vNil ?_
          change VC _ _ _ _
          refine vJoin (F := fun k => S_PathBetween_l2 N v2 k) h (α := List Int) (J := fun (l38 : List Int) => (⟨[(13, .row 9546 0 l38.length)], [(9546, some (3, .ints l38))], []⟩ : PS)) ?_ ?_
          ·rintro l38 h
           show VC _ _ _ (⟨[(13, .row 9546 0 l38.length)], [(9546, some (3, .ints l38))], []⟩ : PS)
           refine vSeq ?_
           refine vRegion ?_
           iterate 3 refine oVal tt rfl rfl rfl rfl rfl trivial ?_
           refine vNil ?_
           change VC _ _ _ _
           refine vRet ?_
           change ∃ _, _
           cases h
           exact ⟨[9546], _, rfl, ⟨rfl, trivial⟩, rfl, (.eq rfl), rfl⟩
          ·intro k h
           refine vBlock ?_
           refine vNilT 13 9548 3 (.ints []) rfl rfl rfl rfl ?_
           refine vLoopS (α := (List Int) × Int) (fun | (l40, i41) => (⟨[(10, .row 1510 0 v2.1.length), (11, .row 1511 0 v2.2.length), (13, .row 9548 0 l40.length), (14, .int i41)], [(1510, some (3, .ints v2.1)), (1511, some (3, .ints v2.2)), (9548, some (3, .ints l40))], []⟩ : PS)) (S_PathBetween_l2 N v2 k) h (En.of ⟨rfl, rfl, rfl, rfl, trivial⟩ ⟨rfl, rfl, rfl, trivial⟩ trivial) (fun _ => rfl) ?_
           rintro n ⟨l40, i41⟩ h
           rw [S_PathBetween_l2] at h
           show VC _ _ _ (⟨[(10, .row 1510 0 v2.1.length), (11, .row 1511 0 v2.2.length), (13, .row 9548 0 l40.length), (14, .int i41)], [(1510, some (3, .ints v2.1)), (1511, some (3, .ints v2.2)), (9548, some (3, .ints l40))], []⟩ : PS)
           iterate 2 refine vSeq ?_
           refine vRegion ?_
           iterate 2 refine oVal tt rfl rfl rfl rfl rfl trivial ?_
           refine vNil ?_
           change VC _ _ _ _
           refine vCond rfl (fun hb13 => ?_) (fun hb13 => ?_)
           ·replace h := cnd_t hb13 h
            refine vSkip ?_
            change VC _ _ _ _
            refine vSeq ?_
            refine vBlock ?_
            refine vRegion ?_
            iterate 2 refine oVal tt rfl rfl rfl rfl rfl trivial ?_
            obtain ⟨hg14, h⟩ := grd_inv h
            iterate 2 refine oVal tt rfl rfl rfl rfl rfl hg14 ?_
            refine oBuild tt rfl rfl rfl rfl rfl rfl rfl rfl rfl rfl rfl ?_
            refine oVal tt rfl rfl rfl rfl rfl trivial ?_
            obtain ⟨hg15, h⟩ := grd_inv h
            refine oAppend tt rfl rfl rfl rfl rfl rfl rfl rfl rfl rfl rfl rfl rfl rfl rfl rfl (Nat.le_of_eq (Nat.zero_add _)) hg15 ?_
            refine oVal tt rfl rfl rfl rfl rfl trivial ?_
            refine vNil ?_
            change VC _ _ _ _
            refine vRegion ?_
            iterate 2 refine oVal tt rfl rfl rfl rfl rfl trivial ?_
            obtain ⟨hg16, h⟩ := grd_inv h
            iterate 2 refine oVal tt rfl rfl rfl rfl rfl hg16 ?_
            refine oVal tt rfl rfl rfl rfl rfl trivial ?_
            refine vNil ?_
            change ∃ _, _
            exact ⟨((([(v2.1.getD ((i41).toNat) 0)] : List Int) ++ ((l40.take (0 + l40.length)).drop 0)), (v2.2.getD ((i41).toNat) 0)), (En.ren [9548] [78] rfl ⟨.inr rfl, .inr rfl, .inr rfl, .inr rfl, trivial⟩ ⟨.inr rfl, .inr rfl, .inr rfl, trivial⟩ trivial), h⟩
           ·replace h := cnd_f hb13 h
            refine vExit ?_
            change ∃ _, _
            exact ⟨l40, (En.ren [9546] [9548] rfl ⟨.inr rfl, trivial⟩ ⟨.inr rfl, trivial⟩ trivial), h⟩
        ·replace h := cnd_f hb9 h
         refine vExit ?_
         change ∃ _, _
         exact ⟨(), (En.of trivial trivial trivial), h⟩
def I_PathBetween_l1 (N : Nat) (from_1 : Int) (v1 : (List (List (Int × Int))) × Bool) (l55 : List Int) (k : (List Int) → Option ((List Int) × Bool)) : Nat → ((List Int) × Int) → Option ((List Int) × Bool)
 | 0, _ => none
 | n + 1, (l61, at62) =>
  cnd (at62 != from_1) (
   grd (0 ≤ at62 ∧ at62 < ((List.replicate (((v1.1.length : Int)).toNat) (0 : Int)).length : Int)) <|
   grd (0 ≤ at62 ∧ at62 < (l55.length : Int)) <|
   grd (l61.length + 1 ≤ 4294967296) <|
   I_PathBetween_l1 N from_1 v1 l55 k n ((l61 ++ ([(l55.getD ((at62).toNat) 0)] : List Int)), (l55.getD ((at62).toNat) 0))) (
   k l61)
def I_PathBetween_l3 (N : Nat) (v1 : (List (List (Int × Int))) × Bool) (k81 : Int) (k : ((List Int) × (List Int)) → Option ((List Int) × Bool)) : Nat → ((List Int) × (List Int) × Int) → Option ((List Int) × Bool)
 | 0, _ => none
 | n + 1, (l107, l108, x109) =>
  cnd (decide (x109 < (v1.1.length : Int))) (
   grd (0 ≤ x109 ∧ x109 < ((List.replicate (((v1.1.length : Int)).toNat) (0 : Int)).length : Int)) <|
   grd (0 ≤ x109 ∧ x109 < (l107.length : Int)) <|
   cnd (decide ((l107.getD ((x109).toNat) 0) < (0 : Int))) (
    grd (0 ≤ k81 ∧ k81 < (l108.length : Int)) <|
    grd (0 ≤ (l108.getD ((k81).toNat) 0) ∧ (l108.getD ((k81).toNat) 0) < (v1.1.length : Int)) <|
    grd (0 ≤ x109 ∧ x109 < (v1.1.length : Int)) <|
    (I_AreNear N (v1.1.getD (((l108.getD ((k81).toNat) 0)).toNat) []) (v1.1.getD ((x109).toNat) [])).bind fun v111 =>
    cnd v111 (
     grd (l108.length + 1 ≤ 4294967296) <|
     grd (Rg64 (x109 + (1 : Int))) <|
     I_PathBetween_l3 N v1 k81 k n ((l107.set ((x109).toNat) (l108.getD ((k81).toNat) 0)), (l108 ++ ([x109] : List Int)), (x109 + (1 : Int)))) (
     grd (Rg64 (x109 + (1 : Int))) <|
     I_PathBetween_l3 N v1 k81 k n (l107, l108, (x109 + (1 : Int))))) (
    grd (Rg64 (x109 + (1 : Int))) <|
    I_PathBetween_l3 N v1 k81 k n (l107, l108, (x109 + (1 : Int))))) (
   k (l107, l108))
def I_PathBetween_l2 (N : Nat) (v1 : (List (List (Int × Int))) × Bool) (k : (List Int) → Option ((List Int) × Bool)) : Nat → ((List Int) × (List Int) × Int) → Option ((List Int) × Bool)
 | 0, _ => none
 | n + 1, (l79, l80, k81) =>
  cnd (decide (k81 < (l80.length : Int))) (
   I_PathBetween_l3 N v1 k81 (fun (x : (List Int) × (List Int)) =>
     match x with
     | (l103, l104) =>
      grd (Rg64 (k81 + (1 : Int))) <|
      I_PathBetween_l2 N v1 k n (l103, l104, (k81 + (1 : Int)))) N (l79, l80, (0 : Int))) (
   k l79)
def I_PathBetween_l4 (N : Nat) (v1 : (List (List (Int × Int))) × Bool) (k : (List Int) → Option ((List Int) × Bool)) : Nat → ((List Int) × Int) → Option ((List Int) × Bool)
 | 0, _ => none
 | n + 1, (l113, x114) =>
  cnd (decide (x114 < ((List.replicate (((v1.1.length : Int)).toNat) (0 : Int)).length : Int))) (
   grd (0 ≤ x114 ∧ x114 < ((List.replicate (((v1.1.length : Int)).toNat) (0 : Int)).length : Int)) <|
   grd (0 ≤ x114 ∧ x114 < (l113.length : Int)) <|
   grd (Rg64 (x114 + (1 : Int))) <|
   I_PathBetween_l4 N v1 k n ((l113.set ((x114).toNat) (-1 : Int)), (x114 + (1 : Int)))) (
   k l113)
def I_PathBetween (N : Nat) (l_0 : Lnk) (from_1 : Int) (to_2 : Int) : Option ((List Int) × Bool) :=
 (I_poses N l_0).bind fun v1 =>
 cnd (!v1.2) (
  some (([] : List Int), false)) (
  grd (Rg64 ((v1.1.length : Int) - (1 : Int))) <|
  (I_within N from_1 (0 : Int) ((v1.1.length : Int) - (1 : Int))).bind fun v2 =>
  cnd (!v2) (
   some (([] : List Int), false)) (
   (I_within N to_2 (0 : Int) ((v1.1.length : Int) - (1 : Int))).bind fun v3 =>
   cnd (!v3) (
    some (([] : List Int), false)) (
    grd (0 ≤ (v1.1.length : Int) ∧ (v1.1.length : Int) ≤ 4294967296) <|
    I_PathBetween_l4 N v1 (fun (l6 : List Int) =>
       grd (0 ≤ from_1 ∧ from_1 < ((List.replicate (((v1.1.length : Int)).toNat) (0 : Int)).length : Int)) <|
       grd (0 ≤ from_1 ∧ from_1 < (l6.length : Int)) <|
       I_PathBetween_l2 N v1 (fun (l55 : List Int) =>
          grd (0 ≤ to_2 ∧ to_2 < ((List.replicate (((v1.1.length : Int)).toNat) (0 : Int)).length : Int)) <|
          grd (0 ≤ to_2 ∧ to_2 < (l55.length : Int)) <|
          cnd (decide ((l55.getD ((to_2).toNat) 0) < (0 : Int))) (
           some (([] : List Int), false)) (
           I_PathBetween_l1 N from_1 v1 l55 (fun (l58 : List Int) =>
              (G_Reverse_int N l58).bind fun v59 =>
              grd (l58.length = v59.length) <|
              some (v59, true)) N (([to_2] : List Int), to_2))) N ((l6.set ((from_1).toNat) from_1), ([from_1] : List Int), (0 : Int))) N ((List.replicate (((v1.1.length : Int)).toNat) (0 : Int)), (0 : Int)))))
set_option maxRecDepth 20000 in
set_option maxHeartbeats 1600000 in
theorem I_PathBetween_w (N : Nat) (l_0 : Lnk) (from_1 : Int) (to_2 : Int) (r : (List Int) × Bool) (h : I_PathBetween N l_0 from_1 to_2 = some r) : PCall Try.prog 52 [lD l_0, .int from_1, .int to_2] [(3, .ints r.1)] (.tup [.row 0 0 r.1.length, .bool r.2]) := by
 unfold I_PathBetween at h
 refine pcall_intro (TT := TT) tt Try.func52 rfl rfl Try.ntmps52 (congrArg Array.toList Try.results52) rfl rfl fun w0 => ?_
 refine vSeq ?_
 refine vRegion ?_
 refine oBox rfl rfl rfl rfl rfl rfl rfl rfl rfl ?_
 iterate 2 refine oVal tt rfl rfl rfl rfl rfl trivial ?_
 refine vNil ?_
 change VC _ _ _ _
 refine vSeq ?_
 refine vRegion ?_
 refine oVal tt rfl rfl rfl rfl rfl trivial ?_
 obtain ⟨v1, hc1, h⟩ := bind_inv h
 refine oCallD 10 (I_poses_w N l_0 v1 hc1) rfl rfl rfl rfl rfl rfl rfl rfl rfl rfl rfl (fun _ h => by cases h) ⟨⟨rfl, rfl, rfl, rfl, trivial⟩, trivial⟩ ?_
 iterate 5 refine oVal tt rfl rfl rfl rfl rfl trivial ?_
 refine vNil ?_
 change VC _ _ _ _
 iterate 2 refine vSeq ?_
 refine vRegion ?_
 iterate 3 refine oVal tt rfl rfl rfl rfl rfl trivial ?_
 refine oSplit rfl rfl rfl (fun hb2 => ?_) (fun hb2 => ?_)
 ·replace h := cnd_t hb2 h
  iterate 6 refine oNoF rfl rfl rfl rfl hb2 rfl rfl ?_
  refine oPick rfl rfl rfl rfl rfl hb2 rfl ?_
  refine oVal tt rfl rfl rfl rfl rfl trivial ?_
  iterate 6 refine oNoF rfl rfl rfl rfl rfl rfl rfl ?_
  refine oPick rfl rfl rfl rfl rfl rfl rfl ?_
  refine vNil ?_
  change VC _ _ _ _
  refine vCondT rfl rfl ?_
  refine vSeq ?_
  refine vRegion ?_
  refine oEmpty tt (wNone rfl) rfl rfl rfl rfl ?_
  iterate 2 refine oVal tt rfl rfl rfl rfl rfl trivial ?_
  refine vNil ?_
  change VC _ _ _ _
  refine vNilT 6 9001 3 (.ints []) rfl rfl rfl rfl ?_
  refine vRet ?_
  change ∃ _, _
  cases h
  exact ⟨[9001], _, rfl, ⟨rfl, trivial⟩, rfl, (.eq rfl), rfl⟩
 ·replace h := cnd_f hb2 h
  iterate 3 refine oValG tt rfl rfl rfl rfl rfl hb2 rfl rfl rfl trivial ?_
  obtain ⟨hg3, h⟩ := grd_inv h
  refine oValG tt rfl rfl rfl rfl rfl hb2 rfl rfl rfl hg3 ?_
  obtain ⟨v2, hc4, h⟩ := bind_inv h
  refine oCallG (I_within_w N from_1 (0 : Int) ((v1.1.length : Int) - (1 : Int)) v2 hc4) rfl rfl rfl rfl hb2 rfl rfl rfl rfl rfl rfl rfl ⟨rfl, rfl, rfl, trivial⟩ ?_
  refine oValG tt rfl rfl rfl rfl rfl hb2 rfl rfl rfl trivial ?_
  refine oPickF rfl rfl rfl rfl rfl hb2 rfl ?_
  refine oVal tt rfl rfl rfl rfl rfl trivial ?_
  refine oSplit rfl rfl rfl (fun hb5 => ?_) (fun hb5 => ?_)
  ·replace h := cnd_t hb5 h
   iterate 6 refine oNoF rfl rfl rfl rfl hb5 rfl rfl ?_
   refine oPick rfl rfl rfl rfl rfl hb5 rfl ?_
   refine vNil ?_
   change VC _ _ _ _
   refine vCondT rfl rfl ?_
   refine vSeq ?_
   refine vRegion ?_
   refine oEmpty tt (wNone rfl) rfl rfl rfl rfl ?_
   iterate 2 refine oVal tt rfl rfl rfl rfl rfl trivial ?_
   refine vNil ?_
   change VC _ _ _ _
   refine vNilT 6 9001 3 (.ints []) rfl rfl rfl rfl ?_
   refine vRet ?_
   change ∃ _, _
   cases h
   exact ⟨[9001], _, rfl, ⟨rfl, trivial⟩, rfl, (.eq rfl), rfl⟩
  ·replace h := cnd_f hb5 h
   iterate 3 refine oValG tt rfl rfl rfl rfl rfl hb5 rfl rfl rfl trivial ?_
   refine oValG tt rfl rfl rfl rfl rfl hb5 rfl rfl rfl hg3 ?_
   obtain ⟨v3, hc6, h⟩ := bind_inv h
   refine oCallG (I_within_w N to_2 (0 : Int) ((v1.1.length : Int) - (1 : Int)) v3 hc6) rfl rfl rfl rfl hb5 rfl rfl rfl rfl rfl rfl rfl ⟨rfl, rfl, rfl, trivial⟩ ?_
   refine oValG tt rfl rfl rfl rfl rfl hb5 rfl rfl rfl trivial ?_
   refine oPickF rfl rfl rfl rfl rfl hb5 rfl ?_
   refine vNil ?_
   change VC _ _ _ _
   refine vCond rfl (fun hb7 => ?_) (fun hb7 => ?_)
   ·replace h := cnd_t hb7 h
    refine vSeq ?_
    refine vRegion ?_
    refine oEmpty tt (wNone rfl) rfl rfl rfl rfl ?_
    iterate 2 refine oVal tt rfl rfl rfl rfl rfl trivial ?_
    refine vNil ?_
    change VC _ _ _ _
    refine vNilT 6 9001 3 (.ints []) rfl rfl rfl rfl ?_
    refine vRet ?_
    change ∃ _, _
    cases h
    exact ⟨[9001], _, rfl, ⟨rfl, trivial⟩, rfl, (.eq rfl), rfl⟩
   ·replace h := cnd_f hb7 h
    refine vSkip ?_
    change VC _ _ _ _
    refine vSeq ?_
    refine vRegion ?_
    iterate 2 refine oVal tt rfl rfl rfl rfl rfl trivial ?_
    obtain ⟨hg8, h⟩ := grd_inv h
    refine oMake tt rfl rfl rfl rfl rfl rfl rfl rfl rfl rfl rfl hg8 ?_
    refine oVal tt rfl rfl rfl rfl rfl trivial ?_
    refine vNil ?_
    change VC _ _ _ _
    iterate 2 refine vSeq ?_
    refine vRegion ?_
    iterate 3 refine oVal tt rfl rfl rfl rfl rfl trivial ?_
    refine vNil ?_
    change VC _ _ _ _
    refine vJoin (F := fun k => I_PathBetween_l4 N v1 k) h (α := List Int) (J := fun (l6 : List Int) => (⟨[(1, .int from_1), (2, .int to_2), (8, .row 1190 0 v1.1.length), (10, .row 43 0 ((List.replicate (((v1.1.length : Int)).toNat) (0 : Int)).length))], [(1190, some (62, dR 10 (.pairss v1.1))), (8589934602, some (118, dF (.pairss v1.1))), (43, some (3, .ints l6))], []⟩ : PS)) ?_ ?_
    ·rintro l6 h
     show VC _ _ _ (⟨[(1, .int from_1), (2, .int to_2), (8, .row 1190 0 v1.1.length), (10, .row 43 0 ((List.replicate (((v1.1.length : Int)).toNat) (0 : Int)).length))], [(1190, some (62, dR 10 (.pairss v1.1))), (8589934602, some (118, dF (.pairss v1.1))), (43, some (3, .ints l6))], []⟩ : PS)
     refine vSeq ?_
     refine vRegion ?_
     iterate 3 refine oVal tt rfl rfl rfl rfl rfl trivial ?_
     obtain ⟨hg9, h⟩ := grd_inv h
     refine oVal tt rfl rfl rfl rfl rfl hg9 ?_
     obtain ⟨hg10, h⟩ := grd_inv h
     refine oStore tt rfl rfl rfl rfl rfl rfl rfl rfl rfl rfl ⟨_, _, rfl, hg10.1, hg10.2⟩ ⟨hg10, trivial⟩ ?_
     refine vNil ?_
     change VC _ _ _ _
     refine vSeq ?_
     refine vRegion ?_
     refine oVal tt rfl rfl rfl rfl rfl trivial ?_
     refine oBuild tt rfl rfl rfl rfl rfl rfl rfl rfl rfl rfl rfl ?_
     refine oVal tt rfl rfl rfl rfl rfl trivial ?_
     refine vNil ?_
     change VC _ _ _ _
     iterate 2 refine vSeq ?_
     refine vRegion ?_
     refine oVal tt rfl rfl rfl rfl rfl trivial ?_
     refine vNil ?_
     change VC _ _ _ _
     refine vJoin (F := fun k => I_PathBetween_l2 N v1 k) h (α := List Int) (J := fun (l55 : List Int) => (⟨[(1, .int from_1), (2, .int to_2), (10, .row 43 0 ((List.replicate (((v1.1.length : Int)).toNat) (0 : Int)).length))], [(43, some (3, .ints l55))], []⟩ : PS)) ?_ ?_
     ·rintro l55 h
      show VC _ _ _ (⟨[(1, .int from_1), (2, .int to_2), (10, .row 43 0 ((List.replicate (((v1.1.length : Int)).toNat) (0 : Int)).length))], [(43, some (3, .ints l55))], []⟩ : PS)
      iterate 2 refine vSeq ?_
      refine vRegion ?_
      iterate 2 refine oVal tt rfl rfl rfl rfl rfl trivial ?_
      obtain ⟨hg11, h⟩ := grd_inv h
      refine oVal tt rfl rfl rfl rfl rfl hg11 ?_
      obtain ⟨hg12, h⟩ := grd_inv h
      refine oVal tt rfl rfl rfl rfl rfl hg12 ?_
      refine oVal tt rfl rfl rfl rfl rfl trivial ?_
      refine vNil ?_
      change VC _ _ _ _
      refine vCond rfl (fun hb13 => ?_) (fun hb13 => ?_)
      ·replace h := cnd_t hb13 h
       refine vSeq ?_
       refine vRegion ?_
       refine oEmpty tt (wNone rfl) rfl rfl rfl rfl ?_
       iterate 2 refine oVal tt rfl rfl rfl rfl rfl trivial ?_
       refine vNil ?_
       change VC _ _ _ _
       refine vNilT 6 9001 3 (.ints []) rfl rfl rfl rfl ?_
       refine vRet ?_
       change ∃ _, _
       cases h
       exact ⟨[9001], _, rfl, ⟨rfl, trivial⟩, rfl, (.eq rfl), rfl⟩
      ·replace h := cnd_f hb13 h
       refine vSkip ?_
       change VC _ _ _ _
       refine vSeq ?_
       refine vRegion ?_
       refine oVal tt rfl rfl rfl rfl rfl trivial ?_
       refine oBuild tt rfl rfl rfl rfl rfl rfl rfl rfl rfl rfl rfl ?_
       refine oVal tt rfl rfl rfl rfl rfl trivial ?_
       refine vNil ?_
       change VC _ _ _ _
       iterate 2 refine vSeq ?_
       refine vRegion ?_
       iterate 2 refine oVal tt rfl rfl rfl rfl rfl trivial ?_
       refine vNil ?_
       change VC _ _ _ _
       refine vJoin (F := fun k => I_PathBetween_l1 N from_1 v1 l55 k) h (α := List Int) (J := fun (l58 : List Int) => (⟨[(15, .row 108 0 l58.length)], [(108, some (3, .ints l58))], []⟩ : PS)) ?_ ?_
       ·rintro l58 h
        show VC _ _ _ (⟨[(15, .row 108 0 l58.length)], [(108, some (3, .ints l58))], []⟩ : PS)
        refine vSeq ?_
        refine vRegion ?_
        refine oVal tt rfl rfl rfl rfl rfl trivial ?_
        obtain ⟨v59, hc14, h⟩ := bind_inv h
        refine oMCall (G_Reverse_int_w N l58 v59 hc14) [108] [] [108] rfl rfl rfl rfl rfl rfl ⟨rfl, trivial⟩ trivial ⟨⟨rfl, rfl⟩, trivial⟩ ?_
        refine vNil ?_
        change VC _ _ _ _
        refine vSeq ?_
        refine vRegion ?_
        iterate 3 refine oVal tt rfl rfl rfl rfl rfl trivial ?_
        refine vNil ?_
        change VC _ _ _ _
        obtain ⟨hg15, h⟩ := grd_inv h
        refine vRet ?_
        change ∃ _, _
        cases h
        exact ⟨[108], _, rfl, ⟨rfl, trivial⟩, rfl, (.eq (by simp only [hg15]; rfl)), rfl⟩
       ·intro k h
        refine vBlock ?_
        refine vLoopS (α := (List Int) × Int) (fun | (l61, at62) => (⟨[(1, .int from_1), (10, .row 43 0 ((List.replicate (((v1.1.length : Int)).toNat) (0 : Int)).length)), (15, .row 108 0 l61.length), (16, .int at62)], [(43, some (3, .ints l55)), (108, some (3, .ints l61))], []⟩ : PS)) (I_PathBetween_l1 N from_1 v1 l55 k) h (En.of ⟨rfl, rfl, rfl, rfl, trivial⟩ ⟨rfl, rfl, trivial⟩ trivial) (fun _ => rfl) ?_
        rintro n ⟨l61, at62⟩ h
        rw [I_PathBetween_l1] at h
        show VC _ _ _ (⟨[(1, .int from_1), (10, .row 43 0 ((List.replicate (((v1.1.length : Int)).toNat) (0 : Int)).length)), (15, .row 108 0 l61.length), (16, .int at62)], [(43, some (3, .ints l55)), (108, some (3, .ints l61))], []⟩ : PS)
        iterate 2 refine vSeq ?_
        refine vRegion ?_
        iterate 3 refine oVal tt rfl rfl rfl rfl rfl trivial ?_
        refine vNil ?_
        change VC _ _ _ _
        refine vCond rfl (fun hb16 => ?_) (fun hb16 => ?_)
        ·replace h := cnd_t hb16 h
         refine vSkip ?_
         change VC _ _ _ _
         refine vBlock ?_
         refine vSeq ?_
         refine vRegion ?_
         iterate 2 refine oVal tt rfl rfl rfl rfl rfl trivial ?_
         obtain ⟨hg17, h⟩ := grd_inv h
         refine oVal tt rfl rfl rfl rfl rfl hg17 ?_
         obtain ⟨hg18, h⟩ := grd_inv h
         refine oVal tt rfl rfl rfl rfl rfl hg18 ?_
         refine oVal tt rfl rfl rfl rfl rfl trivial ?_
         refine vNil ?_
         change VC _ _ _ _
         refine vRegion ?_
         iterate 2 refine oVal tt rfl rfl rfl rfl rfl trivial ?_
         refine oBuild tt rfl rfl rfl rfl rfl rfl rfl rfl rfl rfl rfl ?_
         obtain ⟨hg19, h⟩ := grd_inv h
         refine oAppend tt rfl rfl rfl rfl rfl rfl rfl rfl rfl rfl rfl rfl rfl rfl rfl rfl (Nat.le_of_eq (Nat.zero_add _)) hg19 ?_
         refine oVal tt rfl rfl rfl rfl rfl trivial ?_
         refine vNil ?_
         change ∃ _, _
         exact ⟨((l61 ++ ([(l55.getD ((at62).toNat) 0)] : List Int)), (l55.getD ((at62).toNat) 0)), (En.of ⟨rfl, rfl, rfl, rfl, trivial⟩ ⟨rfl, rfl, trivial⟩ trivial), h⟩
        ·replace h := cnd_f hb16 h
         refine vExit ?_
         change ∃ _, _
         exact ⟨l61, (En.of ⟨rfl, trivial⟩ ⟨rfl, trivial⟩ trivial), h⟩
     ·intro k h
      refine vBlock ?_
      refine vLoopS (α := (List Int) × (List Int) × Int) (fun | (l79, l80, k81) => (⟨[(1, .int from_1), (2, .int to_2), (8, .row 1190 0 v1.1.length), (10, .row 43 0 ((List.replicate (((v1.1.length : Int)).toNat) (0 : Int)).length)), (12, .row 58 0 l80.length), (13, .int k81)], [(1190, some (62, dR 10 (.pairss v1.1))), (8589934602, some (118, dF (.pairss v1.1))), (43, some (3, .ints l79)), (58, some (3, .ints l80))], []⟩ : PS)) (I_PathBetween_l2 N v1 k) h (En.of ⟨rfl, rfl, rfl, rfl, rfl, rfl, trivial⟩ ⟨rfl, rfl, rfl, rfl, trivial⟩ trivial) (fun _ => rfl) ?_
      rintro n ⟨l79, l80, k81⟩ h
      rw [I_PathBetween_l2] at h
      show VC _ _ _ (⟨[(1, .int from_1), (2, .int to_2), (8, .row 1190 0 v1.1.length), (10, .row 43 0 ((List.replicate (((v1.1.length : Int)).toNat) (0 : Int)).length)), (12, .row 58 0 l80.length), (13, .int k81)], [(1190, some (62, dR 10 (.pairss v1.1))), (8589934602, some (118, dF (.pairss v1.1))), (43, some (3, .ints l79)), (58, some (3, .ints l80))], []⟩ : PS)
      iterate 2 refine vSeq ?_
      refine vRegion ?_
      iterate 4 refine oVal tt rfl rfl rfl rfl rfl trivial ?_
      refine vNil ?_
      change VC _ _ _ _
      refine vCond rfl (fun hb20 => ?_) (fun hb20 => ?_)
      ·replace h := cnd_t hb20 h
       refine vSkip ?_
       change VC _ _ _ _
       refine vSeq ?_
       refine vBlock ?_
       refine vSeq ?_
       refine vRegion ?_
       iterate 3 refine oVal tt rfl rfl rfl rfl rfl trivial ?_
       refine vNil ?_
       change VC _ _ _ _
       refine vJoin (F := fun k => I_PathBetween_l3 N v1 k81 k) h (α := (List Int) × (List Int)) (J := fun | (l103, l104) => (⟨[(1, .int from_1), (2, .int to_2), (8, .row 1190 0 v1.1.length), (10, .row 43 0 ((List.replicate (((v1.1.length : Int)).toNat) (0 : Int)).length)), (12, .row 58 0 l104.length), (13, .int k81)], [(1190, some (62, dR 10 (.pairss v1.1))), (8589934602, some (118, dF (.pairss v1.1))), (43, some (3, .ints l103)), (58, some (3, .ints l104))], []⟩ : PS)) ?_ ?_
       ·rintro ⟨l103, l104⟩ h
        show VC _ _ _ (⟨[(1, .int from_1), (2, .int to_2), (8, .row 1190 0 v1.1.length), (10, .row 43 0 ((List.replicate (((v1.1.length : Int)).toNat) (0 : Int)).length)), (12, .row 58 0 l104.length), (13, .int k81)], [(1190, some (62, dR 10 (.pairss v1.1))), (8589934602, some (118, dF (.pairss v1.1))), (43, some (3, .ints l103)), (58, some (3, .ints l104))], []⟩ : PS)
        refine vRegion ?_
        refine oVal tt rfl rfl rfl rfl rfl trivial ?_
        obtain ⟨hg21, h⟩ := grd_inv h
        refine oVal tt rfl rfl rfl rfl rfl hg21 ?_
        refine oVal tt rfl rfl rfl rfl rfl trivial ?_
        refine vNil ?_
        change ∃ _, _
        exact ⟨(l103, l104, (k81 + (1 : Int))), (En.of ⟨rfl, rfl, rfl, rfl, rfl, rfl, trivial⟩ ⟨rfl, rfl, rfl, rfl, trivial⟩ trivial), h⟩
       ·intro k h
        refine vBlock ?_
        refine vLoopS (α := (List Int) × (List Int) × Int) (fun | (l107, l108, x109) => (⟨[(1, .int from_1), (2, .int to_2), (8, .row 1190 0 v1.1.length), (10, .row 43 0 ((List.replicate (((v1.1.length : Int)).toNat) (0 : Int)).length)), (12, .row 58 0 l108.length), (13, .int k81), (66, .int (v1.1.length : Int)), (67, .int x109)], [(1190, some (62, dR 10 (.pairss v1.1))), (8589934602, some (118, dF (.pairss v1.1))), (43, some (3, .ints l107)), (58, some (3, .ints l108))], []⟩ : PS)) (I_PathBetween_l3 N v1 k81 k) h (En.of ⟨rfl, rfl, rfl, rfl, rfl, rfl, rfl, rfl, trivial⟩ ⟨rfl, rfl, rfl, rfl, trivial⟩ trivial) (fun _ => rfl) ?_
        rintro n ⟨l107, l108, x109⟩ h
        rw [I_PathBetween_l3] at h
        show VC _ _ _ (⟨[(1, .int from_1), (2, .int to_2), (8, .row 1190 0 v1.1.length), (10, .row 43 0 ((List.replicate (((v1.1.length : Int)).toNat) (0 : Int)).length)), (12, .row 58 0 l108.length), (13, .int k81), (66, .int (v1.1.length : Int)), (67, .int x109)], [(1190, some (62, dR 10 (.pairss v1.1))), (8589934602, some (118, dF (.pairss v1.1))), (43, some (3, .ints l107)), (58, some (3, .ints l108))], []⟩ : PS)
        refine vSeq ?_
        refine vRegion ?_
        refine oVal tt rfl rfl rfl rfl rfl trivial ?_
        refine vNil ?_
        change VC _ _ _ _
        refine vSeq ?_
        refine vCond rfl (fun hb22 => ?_) (fun hb22 => ?_)
        ·replace h := cnd_t hb22 h
         refine vSkip ?_
         change VC _ _ _ _
         refine vSeq ?_
         refine vBlock ?_
         refine vSeq ?_
         refine vRegion ?_
         iterate 2 refine oVal tt rfl rfl rfl rfl rfl trivial ?_
         refine vNil ?_
         change VC _ _ _ _
         refine vSeq ?_
         refine vRegionD (by kernel_rfl) (by kernel_rfl) ?_
         iterate 2 refine cVal tt rfl (wNone rfl) rfl rfl rfl trivial ?_
         obtain ⟨hg23, h⟩ := grd_inv h
         refine cVal tt rfl (wNone rfl) rfl rfl rfl hg23 ?_
         obtain ⟨hg24, h⟩ := grd_inv h
         refine cVal tt rfl (wNone rfl) rfl rfl rfl hg24 ?_
         iterate 2 refine cVal tt rfl (wNone rfl) rfl rfl rfl trivial ?_
         refine cSplit rfl rfl rfl (fun hb25 => ?_) (fun hb25 => ?_)
         ·replace h := cnd_t hb25 h
          iterate 3 refine cVal tt rfl (wSome rfl rfl rfl rfl hb25) rfl rfl rfl trivial ?_
          obtain ⟨hg26, h⟩ := grd_inv h
          iterate 2 refine cVal tt rfl (wSome rfl rfl rfl rfl hb25) rfl rfl rfl hg26 ?_
          obtain ⟨hg27, h⟩ := grd_inv h
          refine cVal tt rfl (wSome rfl rfl rfl rfl hb25) rfl rfl rfl hg27 ?_
          refine cLoadD tt (wSome rfl rfl rfl rfl hb25) (.pairss v1.1) rfl rfl rfl rfl rfl rfl rfl rfl rfl hg27 ?_
          iterate 2 refine cVal tt rfl (wSome rfl rfl rfl rfl hb25) rfl rfl rfl trivial ?_
          obtain ⟨hg28, h⟩ := grd_inv h
          refine cVal tt rfl (wSome rfl rfl rfl rfl hb25) rfl rfl rfl hg28 ?_
          refine cLoadD tt (wSome rfl rfl rfl rfl hb25) (.pairss v1.1) rfl rfl rfl rfl rfl rfl rfl rfl rfl hg28 ?_
          obtain ⟨v111, hc29, h⟩ := bind_inv h
          refine cCall (I_AreNear_w N (v1.1.getD (((l108.getD ((k81).toNat) 0)).toNat) []) (v1.1.getD ((x109).toNat) []) v111 hc29) rfl (wSome rfl rfl rfl rfl hb25) rfl rfl rfl rfl rfl rfl ⟨⟨_, deep_at (q := (.pairss v1.1)) rfl rfl rfl (by simp only [Sq.len, List.length_set, List.length_append, List.length_replicate] at *; omega), rfl, rfl⟩, ⟨_, deep_at (q := (.pairss v1.1)) rfl rfl rfl (by simp only [Sq.len, List.length_set, List.length_append, List.length_replicate] at *; omega), rfl, rfl⟩, trivial⟩ ?_
          refine cPickT rfl (wNone rfl) rfl rfl rfl hb25 rfl ?_
          refine cNil ?_
          change VC _ _ _ _
          refine vCond rfl (fun hb30 => ?_) (fun hb30 => ?_)
          ·replace h := cnd_t hb30 h
           refine vSeq ?_
           refine vRegion ?_
           iterate 4 refine oVal tt rfl rfl rfl rfl rfl trivial ?_
           iterate 2 refine oVal tt rfl rfl rfl rfl rfl hg26 ?_
           refine oVal tt rfl rfl rfl rfl rfl hg23 ?_
           refine oStore tt rfl rfl rfl rfl rfl rfl rfl rfl rfl rfl ⟨_, _, rfl, hg24.1, hg24.2⟩ ⟨hg24, trivial⟩ ?_
           refine vNil ?_
           change VC _ _ _ _
           refine vRegion ?_
           iterate 2 refine oVal tt rfl rfl rfl rfl rfl trivial ?_
           refine oBuild tt rfl rfl rfl rfl rfl rfl rfl rfl rfl rfl rfl ?_
           obtain ⟨hg31, h⟩ := grd_inv h
           refine oAppend tt rfl rfl rfl rfl rfl rfl rfl rfl rfl rfl rfl rfl rfl rfl rfl rfl (Nat.le_of_eq (Nat.zero_add _)) hg31 ?_
           refine oVal tt rfl rfl rfl rfl rfl trivial ?_
           refine vNil ?_
           change VC _ _ _ _
           refine vRegion ?_
           obtain ⟨hg32, h⟩ := grd_inv h
           refine oVal tt rfl rfl rfl rfl rfl hg32 ?_
           refine oVal tt rfl rfl rfl rfl rfl trivial ?_
           refine vNil ?_
           change ∃ _, _
           exact ⟨((l107.set ((x109).toNat) (l108.getD ((k81).toNat) 0)), (l108 ++ ([x109] : List Int)), (x109 + (1 : Int))), (En.of ⟨rfl, rfl, rfl, rfl, rfl, rfl, rfl, rfl, trivial⟩ ⟨rfl, rfl, rfl, rfl, trivial⟩ trivial), h⟩
          ·replace h := cnd_f hb30 h
           refine vSkip ?_
           change VC _ _ _ _
           refine vRegion ?_
           obtain ⟨hg33, h⟩ := grd_inv h
           refine oVal tt rfl rfl rfl rfl rfl hg33 ?_
           refine oVal tt rfl rfl rfl rfl rfl trivial ?_
           refine vNil ?_
           change ∃ _, _
           exact ⟨(l107, l108, (x109 + (1 : Int))), (En.of ⟨rfl, rfl, rfl, rfl, rfl, rfl, rfl, rfl, trivial⟩ ⟨rfl, rfl, rfl, rfl, trivial⟩ trivial), h⟩
         ·replace h := cnd_f hb25 h
          iterate 12 refine cNoT rfl rfl rfl rfl hb25 rfl rfl ?_
          refine cPickF rfl (wNone rfl) rfl rfl rfl hb25 rfl ?_
          refine cNil ?_
          change VC _ _ _ _
          refine vCondF rfl rfl ?_
          refine vSkip ?_
          change VC _ _ _ _
          refine vRegion ?_
          obtain ⟨hg34, h⟩ := grd_inv h
          refine oVal tt rfl rfl rfl rfl rfl hg34 ?_
          refine oVal tt rfl rfl rfl rfl rfl trivial ?_
          refine vNil ?_
          change ∃ _, _
          exact ⟨(l107, l108, (x109 + (1 : Int))), (En.of ⟨rfl, rfl, rfl, rfl, rfl, rfl, rfl, rfl, trivial⟩ ⟨rfl, rfl, rfl, rfl, trivial⟩ trivial), h⟩
        ·replace h := cnd_f hb22 h
         refine vExit ?_
         change ∃ _, _
         exact ⟨(l107, l108), (En.of ⟨rfl, rfl, rfl, rfl, rfl, rfl, trivial⟩ ⟨rfl, rfl, rfl, rfl, trivial⟩ trivial), h⟩
      ·replace h := cnd_f hb20 h
       refine vExit ?_
       change ∃ _, _
       exact ⟨l79, (En.of ⟨rfl, rfl, rfl, trivial⟩ ⟨rfl, trivial⟩ trivial), h⟩
    ·intro k h
     refine vBlock ?_
     refine vLoopS (α := (List Int) × Int) (fun | (l113, x114) => (⟨[(1, .int from_1), (2, .int to_2), (8, .row 1190 0 v1.1.length), (10, .row 43 0 ((List.replicate (((v1.1.length : Int)).toNat) (0 : Int)).length)), (45, .int ((List.replicate (((v1.1.length : Int)).toNat) (0 : Int)).length : Int)), (46, .int x114)], [(1190, some (62, dR 10 (.pairss v1.1))), (8589934602, some (118, dF (.pairss v1.1))), (43, some (3, .ints l113))], []⟩ : PS)) (I_PathBetween_l4 N v1 k) h (En.of ⟨rfl, rfl, rfl, rfl, rfl, rfl, trivial⟩ ⟨rfl, rfl, rfl, trivial⟩ trivial) (fun _ => rfl) ?_
     rintro n ⟨l113, x114⟩ h
     rw [I_PathBetween_l4] at h
     show VC _ _ _ (⟨[(1, .int from_1), (2, .int to_2), (8, .row 1190 0 v1.1.length), (10, .row 43 0 ((List.replicate (((v1.1.length : Int)).toNat) (0 : Int)).length)), (45, .int ((List.replicate (((v1.1.length : Int)).toNat) (0 : Int)).length : Int)), (46, .int x114)], [(1190, some (62, dR 10 (.pairss v1.1))), (8589934602, some (118, dF (.pairss v1.1))), (43, some (3, .ints l113))], []⟩ : PS)
     refine vSeq ?_
     refine vRegion ?_
     refine oVal tt rfl rfl rfl rfl rfl trivial ?_
     refine vNil ?_
     change VC _ _ _ _
     refine vSeq ?_
     refine vCond rfl (fun hb35 => ?_) (fun hb35 => ?_)
     ·replace h := cnd_t hb35 h
      refine vSkip ?_
      change VC _ _ _ _
      refine vSeq ?_
      refine vBlock ?_
      refine vSeq ?_
      refine vRegion ?_
      iterate 2 refine oVal tt rfl rfl rfl rfl rfl trivial ?_
      refine vNil ?_
      change VC _ _ _ _
      refine vRegion ?_
      iterate 2 refine oVal tt rfl rfl rfl rfl rfl trivial ?_
      obtain ⟨hg36, h⟩ := grd_inv h
      refine oVal tt rfl rfl rfl rfl rfl hg36 ?_
      obtain ⟨hg37, h⟩ := grd_inv h
      refine oStore tt rfl rfl rfl rfl rfl rfl rfl rfl rfl rfl ⟨_, _, rfl, hg37.1, hg37.2⟩ ⟨hg37, trivial⟩ ?_
      refine vNil ?_
      change VC _ _ _ _
      refine vRegion ?_
      obtain ⟨hg38, h⟩ := grd_inv h
      refine oVal tt rfl rfl rfl rfl rfl hg38 ?_
      refine oVal tt rfl rfl rfl rfl rfl trivial ?_
      refine vNil ?_
      change ∃ _, _
      exact ⟨((l113.set ((x114).toNat) (-1 : Int)), (x114 + (1 : Int))), (En.of ⟨rfl, rfl, rfl, rfl, rfl, rfl, trivial⟩ ⟨rfl, rfl, rfl, trivial⟩ trivial), h⟩
     ·replace h := cnd_f hb35 h
      refine vExit ?_
      change ∃ _, _
      exact ⟨l113, (En.of ⟨rfl, rfl, rfl, rfl, trivial⟩ ⟨rfl, rfl, rfl, trivial⟩ trivial), h⟩
end Go.Proofs.Ytgindcgphnbnaaa
namespace Go.Proofs.Ytgindcgphnbnaaa
variable {N : Nat}
def parQ (st : QF) (i : Nat) : Int := cnd (decide (i = 0)) (st.1.getD 0 0) (st.1.getD (st.2.getD i 0).toNat 0)
structure BF (m : Nat) (st : QF) (b : List Int) : Prop where
 len : b.length = m
 no : ∀ j : Nat, j < m → (j : Int) ∉ st.1 → b.getD j 0 = -1
 par : ∀ i, i < st.1.length → b.getD (st.1.getD i 0).toNat 0 = parQ st i
theorem getD_set_ne {l : List Int} {i j : Nat} {x : Int} (h : i ≠ j) : (l.set i x).getD j 0 = l.getD j 0 := by
 rw [List.getD_eq_getElem?_getD, List.getElem?_set_ne h, ← List.getD_eq_getElem?_getD]
theorem getD_set_eq2 {l : List Int} {i : Nat} {x : Int} (h : i < l.length) : (l.set i x).getD i 0 = x := by
 rw [List.getD_eq_getElem?_getD, List.getElem?_set_self h]; rfl
abbrev RP := Option (List Int × Bool)
theorem path3_s (hN : 4000000 ≤ N) {P : List (List (Int × Int))} (hP : P.length ≤ 100) (hPl : ∀ x ∈ P, x.length ≤ 3000000) {ok : Bool} {s : Int} {k : Nat} {st : QF} (h : BQ (nrP P) P.length s st k) (hk : k < st.1.length) (kk : List Int × List Int → RP) : ∀ (fuel j : Nat) (b : List Int), j ≤ P.length → P.length < fuel + j → BF P.length (rowP (nrP P) k st j) b →
  ∃ b', I_PathBetween_l3 N (P, ok) (k : Int) kk fuel (b, (rowP (nrP P) k st j).1, (j : Int)) = kk (b', (rowP (nrP P) k st P.length).1) ∧ BF P.length (rowP (nrP P) k st P.length) b' := by
 intro fuel
 induction fuel with
 | zero => intro j b h1 h2; omega
 | succ fuel ih =>
  intro j b h1 h2 hb
  obtain ⟨hB, ⟨r, hr⟩, _⟩ := rowP_inv h hk j h1
  have hql := hB.qlen
  have hbl := hb.len
  rw [I_PathBetween_l3]
  show ∃ b', cnd (decide ((j : Int) < (P.length : Int))) (grd (0 ≤ (j : Int) ∧ (j : Int) < ((List.replicate (((P.length : Int)).toNat) (0 : Int)).length : Int)) _) _ = _ ∧ _
  by_cases hj : j < P.length
  ·have e1 : ((j : Int)).toNat = j := by omega
   have e2 : ((k : Int)).toNat = k := by omega
   have e3 : ((P.length : Int)).toNat = P.length := by omega
   have hgk : (rowP (nrP P) k st j).1.getD k 0 = st.1.getD k 0 := by rw [hr]; exact getD_app1 hk
   have hkl : k < (rowP (nrP P) k st j).1.length := by rw [hr, List.length_append]; omega
   have hrg := h.rg (st.1.getD k 0) (getD_mem hk)
   have hx : (P.getD (st.1.getD k 0).toNat []).length ≤ 3000000 := hPl _ (getD_mem (by omega))
   have hnr : nrP P (st.1.getD k 0) (j : Int) = nearB (P.getD (st.1.getD k 0).toNat []) (P.getD j []) := by unfold nrP; rw [e1]
   rw [cnd_dt (by omega), List.length_replicate, e3, grd_pos (by omega), grd_pos (by omega), e1]
   have skip : (!(rowP (nrP P) k st j).1.contains (j : Int) && nrP P (st.1.getD k 0) (j : Int)) = false → ∃ b', grd (Rg64 ((j : Int) + 1)) (I_PathBetween_l3 N (P, ok) (k : Int) kk fuel (b, (rowP (nrP P) k st j).1, ((j : Int) + 1))) = kk (b', (rowP (nrP P) k st P.length).1) ∧ BF P.length (rowP (nrP P) k st P.length) b' := fun hc => by
    have e : rowP (nrP P) k st (j + 1) = rowP (nrP P) k st j := by rw [rowP, hc, cnd_false]
    have nx := ih (j + 1) b (by omega) (by omega) (by rw [e]; exact hb)
    rw [e] at nx
    rw [grd_R (by omega) (by omega), succ_cast]
    exact nx
   by_cases hq : (j : Int) ∈ (rowP (nrP P) k st j).1
   ·have hqc : (rowP (nrP P) k st j).1.contains (j : Int) = true := by simpa using hq
    have hge : 0 ≤ b.getD j 0 := by
     obtain ⟨i, hi, e⟩ := List.mem_iff_getElem.1 hq
     have e' : (rowP (nrP P) k st j).1.getD i 0 = (j : Int) := by rw [List.getD_eq_getElem?_getD, List.getElem?_eq_getElem hi, e]; rfl
     have := hb.par i hi
     rw [e', e1] at this
     rw [this, parQ]
     by_cases h0 : i = 0
     ·rw [cnd_dt h0]; exact (hB.rg _ (getD_mem hB.pos)).1
     ·rw [cnd_df h0]
      have hf := hB.fr i (by omega) hi
      exact (hB.rg _ (getD_mem (by omega))).1
    rw [cnd_df (by omega)]
    exact skip (by rw [hqc]; rfl)
   ·have hqc : (rowP (nrP P) k st j).1.contains (j : Int) = false := by simpa using hq
    have hneg := hb.no j hj hq
    rw [cnd_dt (by omega), grd_pos (by omega), e2, hgk]
    show ∃ b', grd (0 ≤ st.1.getD k 0 ∧ st.1.getD k 0 < (P.length : Int)) (grd (0 ≤ (j : Int) ∧ (j : Int) < (P.length : Int)) ((I_AreNear N (P.getD (st.1.getD k 0).toNat []) (P.getD j [])).bind _)) = _ ∧ _
    rw [grd_pos (by omega), grd_pos (by omega), nearI_s hN hx, Option.bind_some]
    cases hn : nearB (P.getD (st.1.getD k 0).toNat []) (P.getD j []) with
    | true =>
     have e : rowP (nrP P) k st (j + 1) = ((rowP (nrP P) k st j).1 ++ [(j : Int)], (rowP (nrP P) k st j).2 ++ [(k : Int)]) := by rw [rowP, hqc, hnr, hn]; rfl
     have nx := ih (j + 1) (b.set j (st.1.getD k 0)) (by omega) (by omega) (by
      rw [e]
      refine ⟨by rw [List.length_set, hbl], fun j' hj' hno => ?_, fun i hi => ?_⟩
      ·have h3 : (j' : Int) ∉ (rowP (nrP P) k st j).1 := fun h => hno (List.mem_append_left _ h)
       have h4 : j ≠ j' := fun h => hno (by rw [← h]; simp)
       rw [getD_set_ne h4]
       exact hb.no j' hj' h3
      ·have hi' : i < (rowP (nrP P) k st j).1.length + 1 := by simpa using hi
       show (b.set j (st.1.getD k 0)).getD (((rowP (nrP P) k st j).1 ++ [(j : Int)]).getD i 0).toNat 0 = parQ ((rowP (nrP P) k st j).1 ++ [(j : Int)], (rowP (nrP P) k st j).2 ++ [(k : Int)]) i
       unfold parQ
       by_cases hl : i < (rowP (nrP P) k st j).1.length
       ·have hm : (rowP (nrP P) k st j).1.getD i 0 ∈ (rowP (nrP P) k st j).1 := getD_mem hl
        have hr2 := hB.rg _ hm
        have hne : j ≠ ((rowP (nrP P) k st j).1.getD i 0).toNat := fun h => hq (by rw [show (j : Int) = (rowP (nrP P) k st j).1.getD i 0 by omega]; exact hm)
        rw [getD_app1 hl, getD_set_ne hne, hb.par i hl]
        unfold parQ
        by_cases h0 : i = 0
        ·rw [cnd_dt h0, cnd_dt h0]; exact (getD_app1 hB.pos).symm
        ·have hf := hB.fr i (by omega) hl
         rw [cnd_df h0, cnd_df h0]
         show _ = ((rowP (nrP P) k st j).1 ++ [(j : Int)]).getD (((rowP (nrP P) k st j).2 ++ [(k : Int)]).getD i 0).toNat 0
         have e9 : ((rowP (nrP P) k st j).2 ++ [(k : Int)]).getD i 0 = (rowP (nrP P) k st j).2.getD i 0 := getD_app1 (by have := hB.len; omega)
         rw [e9, getD_app1 (by omega)]
       ·obtain rfl : i = (rowP (nrP P) k st j).1.length := by omega
        have h0 : ¬ (rowP (nrP P) k st j).1.length = 0 := by have := hB.pos; omega
        have e4 : ((rowP (nrP P) k st j).2 ++ [(k : Int)]).getD (rowP (nrP P) k st j).1.length 0 = (k : Int) := by rw [← hB.len]; exact getD_app2 _ _
        rw [getD_app2, e1, getD_set_eq2 (by omega), cnd_df h0]
        show _ = ((rowP (nrP P) k st j).1 ++ [(j : Int)]).getD (((rowP (nrP P) k st j).2 ++ [(k : Int)]).getD (rowP (nrP P) k st j).1.length 0).toNat 0
        rw [e4, e2, getD_app1 hkl, hgk])
     rw [e] at nx
     rw [cnd_true, grd_pos (by omega), grd_R (by omega) (by omega), succ_cast]
     exact nx
    | false =>
     rw [cnd_false]
     exact skip (by rw [hnr, hn, Bool.and_false])
  ·obtain rfl : j = P.length := by omega
   rw [cnd_df (by omega)]
   exact ⟨b, rfl, hb⟩
theorem path2_s (hN : 4000000 ≤ N) {P : List (List (Int × Int))} (hP : P.length ≤ 100) (hPl : ∀ x ∈ P, x.length ≤ 3000000) {ok : Bool} {s : Int} (kk : List Int → RP) : ∀ (fuel k : Nat) (st : QF) (b : List Int), BQ (nrP P) P.length s st k → k ≤ st.1.length → P.length < fuel + k → BF P.length st b →
  ∃ b', I_PathBetween_l2 N (P, ok) kk fuel (b, st.1, (k : Int)) = kk b' ∧ BF P.length (bfsP (nrP P) P.length fuel k st) b' := by
 intro fuel
 induction fuel with
 | zero => intro k st b h h1 h2; have := h.qlen; omega
 | succ fuel ih =>
  intro k st b h h1 h2 hb
  have hql := h.qlen
  rw [I_PathBetween_l2, bfsP]
  by_cases hk : k < st.1.length
  ·have hn := h.next hk
   rw [cnd_dt (by omega), if_pos hk]
   obtain ⟨b1, e1, hb1⟩ := path3_s hN hP hPl (ok := ok) h hk (fun (x : (List Int) × (List Int)) =>
     match x with
     | (l103, l104) =>
      grd (Rg64 ((k : Int) + (1 : Int))) <|
      I_PathBetween_l2 N (P, ok) kk fuel (l103, l104, ((k : Int) + (1 : Int)))) N 0 b (by omega) (by omega) hb
   obtain ⟨b2, e2, hb2⟩ := ih (k + 1) _ b1 hn.1 (by omega) (by omega) hb1
   refine ⟨b2, e1.trans ?_, hb2⟩
   show grd _ _ = _
   rw [grd_R (by omega) (by omega), succ_cast]
   exact e2
  ·rw [cnd_df (by omega), if_neg hk]
   exact ⟨b, rfl, hb⟩
def chQ (st : QF) : Nat → Nat → List Int
 | 0, _ => []
 | f + 1, i => cnd (decide (i = 0)) [] (st.1.getD (st.2.getD i 0).toNat 0 :: chQ st f (st.2.getD i 0).toNat)
theorem chQ_len (st : QF) : ∀ f i, (chQ st f i).length ≤ f
 | 0, _ => by simp [chQ]
 | f + 1, i => by
  rw [chQ]
  by_cases h : i = 0
  ·rw [cnd_dt h]; simp
  ·rw [cnd_df h]; have := chQ_len st f (st.2.getD i 0).toNat; simp only [List.length_cons]; omega
theorem getD_inj {l : List Int} (h : l.Nodup) {i j : Nat} (hi : i < l.length) (hj : j < l.length) (e : l.getD i 0 = l.getD j 0) : i = j := by
 rw [List.getD_eq_getElem?_getD, List.getD_eq_getElem?_getD, List.getElem?_eq_getElem hi, List.getElem?_eq_getElem hj] at e
 exact (List.getElem_inj h).1 (by simpa using e)
theorem pathI1_s (hN : 4000000 ≤ N) {P : List (List (Int × Int))} {ok : Bool} (hP : P.length ≤ 100) {s : Int} {st : QF} (h : BQ (nrP P) P.length s st st.1.length) {b : List Int} (hb : BF P.length st b) (kk : List Int → RP) : ∀ (f fuel i : Nat) (out : List Int), i ≤ f → f < fuel → i < st.1.length → out.length + f ≤ 1000 →
  I_PathBetween_l1 N s (P, ok) b kk fuel (out, st.1.getD i 0) = kk (out ++ chQ st f i) := by
 intro f
 induction f with
 | zero =>
  intro fuel i out h1 h2 h3 h4
  obtain ⟨fuel, rfl⟩ : ∃ g, fuel = g + 1 := ⟨fuel - 1, by omega⟩
  obtain rfl : i = 0 := by omega
  rw [I_PathBetween_l1, cnd_nef h.hd, chQ, List.append_nil]
 | succ f ih =>
  intro fuel i out h1 h2 h3 h4
  obtain ⟨fuel, rfl⟩ : ∃ g, fuel = g + 1 := ⟨fuel - 1, by omega⟩
  rw [I_PathBetween_l1, chQ]
  by_cases h0 : i = 0
  ·subst h0
   rw [cnd_nef h.hd, cnd_dt rfl, List.append_nil]
  ·have hne : st.1.getD i 0 ≠ s := fun e => h0 (getD_inj h.nd h3 h.pos (by rw [e, h.hd]))
   have hrg := h.rg _ (getD_mem (d := 0) h3)
   have hf := h.fr i (by omega) h3
   have e3 : ((P.length : Int)).toNat = P.length := by omega
   have hbl := hb.len
   have hpar := hb.par i h3
   rw [parQ, cnd_df h0] at hpar
   rw [cnd_net hne]
   show grd (0 ≤ st.1.getD i 0 ∧ st.1.getD i 0 < ((List.replicate (((P.length : Int)).toNat) (0 : Int)).length : Int)) _ = _
   rw [List.length_replicate, e3, grd_pos (by omega), grd_pos (by omega), grd_pos (by omega), hpar, cnd_df h0, ih fuel _ _ (by omega) (by omega) (by omega) (by rw [List.length_append]; simp; omega), List.append_assoc]
   rfl
theorem pathS2_s (hN : 4000000 ≤ N) {nr : Int → Int → Bool} {m : Nat} {s : Int} {st : QF} (h : BQ nr m s st st.1.length) (kk : List Int → RP) : ∀ (f fuel i : Nat) (out : List Int), i ≤ f → f + 1 < fuel → i < st.1.length → out.length + f ≤ 1000 →
  S_PathBetween_l2 N st kk fuel (out, (i : Int)) = kk ((st.1.getD i 0 :: chQ st f i).reverse ++ out) := by
 intro f
 induction f with
 | zero =>
  intro fuel i out h1 h2 h3 h4
  obtain ⟨fuel, rfl⟩ : ∃ g, fuel = g + 2 := ⟨fuel - 2, by omega⟩
  obtain rfl : i = 0 := by omega
  have hl := h.len
  have hp := h.pos
  have e : (((0 : Nat) : Int)).toNat = 0 := rfl
  rw [S_PathBetween_l2, cnd_dt (by omega), grd_pos (by omega), tk0, grd_pos (by simp; omega), grd_pos (by omega), e, h.f0, S_PathBetween_l2, cnd_df (by omega), chQ]
  rfl
 | succ f ih =>
  intro fuel i out h1 h2 h3 h4
  have hl := h.len
  have hp := h.pos
  have e : ((i : Int)).toNat = i := by omega
  obtain ⟨fuel, rfl⟩ : ∃ g, fuel = g + 2 := ⟨fuel - 2, by omega⟩
  rw [S_PathBetween_l2, cnd_dt (by omega), grd_pos (by omega), tk0, grd_pos (by simp; omega), grd_pos (by omega), e, chQ]
  by_cases h0 : i = 0
  ·subst h0
   rw [h.f0, S_PathBetween_l2, cnd_df (by omega), cnd_dt rfl]; rfl
  ·have hf := h.fr i (by omega) h3
   have e2 : st.2.getD i 0 = (((st.2.getD i 0).toNat : Nat) : Int) := by omega
   rw [cnd_df h0]
   have := ih (fuel + 1) (st.2.getD i 0).toNat ([st.1.getD i 0] ++ out) (by omega) (by omega) (by omega) (by simp; omega)
   rw [← e2] at this
   refine this.trans ?_
   congr 1
   simp
theorem path_x (hN : 4000000 ≤ N) {l : Lnk} (hp : l.f.places.length ≤ 3000000) (hg : l.ground.length ≤ 3000000) {fr to : Int} : ∃ (r : List Int) (b : Bool), r.length ≤ 1000 ∧ S_PathBetween N l fr to = some (r, b) ∧ I_PathBetween N l fr to = some (r, b) := by
 have hpl : ∀ x ∈ posesL l, x.length ≤ 3000000 := fun x hx => by have := pose_len hx; omega
 unfold S_PathBetween I_PathBetween
 rw [posesS_s hN hp hg, Option.bind_some, posesP_s hN hp hg, Option.bind_some]
 show ∃ r b, _ ∧ cnd (!isLk l) _ (cnd (decide (((posesL l).length : Int) > 100)) _ _) = _ ∧ cnd (!rmOk l) _ _ = _
 unfold rmOk
 cases hlk : isLk l with
 | false => exact ⟨[], false, by simp, rfl, rfl⟩
 | true =>
  rw [Bool.not_true, cnd_false, Bool.true_and]
  generalize hPP : posesL l = P at hpl
  by_cases h100 : P.length ≤ 100
  case neg =>
   rw [cnd_dt (by omega), decide_eq_false h100]
   exact ⟨[], false, by simp, rfl, rfl⟩
  case pos =>
  rw [cnd_df (by omega), decide_eq_true h100, Bool.not_true, cnd_false]
  show ∃ r b, _ ∧ cnd (decide (fr < 0)) _ (cnd (decide (to < 0)) _ (cnd (decide (fr ≥ (P.length : Int))) _ (cnd (decide (to ≥ (P.length : Int))) _ ((S_l25Reach N P fr).bind _)))) = _ ∧ grd (Rg64 ((P.length : Int) - 1)) ((I_within N fr 0 ((P.length : Int) - 1)).bind _) = _
  rw [grd_R (by omega) (by omega), within_s, Option.bind_some]
  by_cases hf : 0 ≤ fr ∧ fr < (P.length : Int)
  case neg =>
   have : inB fr 0 ((P.length : Int) - 1) = false := by
    rw [← Bool.not_eq_true, inB_true]; omega
   rw [this, Bool.not_false, cnd_true]
   refine ⟨[], false, by simp, ?_, rfl⟩
   by_cases h1 : fr < 0
   ·rw [cnd_dt h1]
   ·rw [cnd_df h1]
    by_cases h2 : to < 0
    ·rw [cnd_dt h2]
    ·rw [cnd_df h2, cnd_dt (by omega)]
  case pos =>
  have hif : inB fr 0 ((P.length : Int) - 1) = true := inB_true.2 (by omega)
  rw [hif, Bool.not_true, cnd_false, within_s, Option.bind_some, cnd_df (by omega)]
  by_cases ht : 0 ≤ to ∧ to < (P.length : Int)
  case neg =>
   have : inB to 0 ((P.length : Int) - 1) = false := by
    rw [← Bool.not_eq_true, inB_true]; omega
   rw [this, Bool.not_false, cnd_true]
   refine ⟨[], false, by simp, ?_, rfl⟩
   by_cases h2 : to < 0
   ·rw [cnd_dt h2]
   ·rw [cnd_df h2, cnd_df (by omega), cnd_dt (by omega)]
  case pos =>
  have hit : inB to 0 ((P.length : Int) - 1) = true := inB_true.2 (by omega)
  have e3 : ((P.length : Int)).toNat = P.length := by omega
  rw [hit, Bool.not_true, cnd_false, cnd_df (by omega), cnd_df (by omega), cnd_df (by omega), reachP_s hN (by omega) hpl hf, Option.bind_some]
  have hB := bfs0_inv (nr := nrP P) (m := P.length) (s := fr) hf
  have hql := hB.qlen
  have h4 : ∀ kk : List Int → RP, I_PathBetween_l4 N (P, true) kk N (List.replicate P.length (0 : Int), (0 : Int)) = kk (List.replicate P.length (-1 : Int)) := fun kk => by
   have e0 : List.replicate P.length (0 : Int) = (List.range P.length).map fun j => if j < 0 then (-1 : Int) else 0 := by apply List.ext_getElem <;> simp
   rw [e0]
   refine fold (N := N) (len := P.length) (st := fun i => (List.range P.length).map fun j => if j < i then (-1 : Int) else 0) (F := fun m s => I_PathBetween_l4 N (P, true) kk m s) (by omega) (fun m i hi => ?_) fun m => ?_
   ·show I_PathBetween_l4 N (P, true) kk (m + 1) ((List.range P.length).map fun j => if j < i then (-1 : Int) else 0, (i : Int)) = I_PathBetween_l4 N (P, true) kk m ((List.range P.length).map fun j => if j < i + 1 then (-1 : Int) else 0, ((i + 1 : Nat) : Int))
    have hll : ((List.range P.length).map fun j => if j < i then (-1 : Int) else 0).length = P.length := by simp
    have e1 : ((i : Int)).toNat = i := by omega
    rw [I_PathBetween_l4]
    show cnd (decide ((i : Int) < ((List.replicate (((P.length : Int)).toNat) (0 : Int)).length : Int))) (grd (0 ≤ (i : Int) ∧ (i : Int) < ((List.replicate (((P.length : Int)).toNat) (0 : Int)).length : Int)) _) _ = _
    rw [List.length_replicate, e3, cnd_dt (by omega), grd_pos (by omega), hll, grd_pos (by omega), grd_R (by omega) (by omega), succ_cast, e1]
    refine congrArg (fun L => I_PathBetween_l4 N (P, true) kk m (L, ((i + 1 : Nat) : Int))) ?_
    apply List.ext_getElem
    ·simp
    ·intro a h1 h2
     rw [List.getElem_set]
     simp only [List.getElem_map, List.getElem_range]
     by_cases ha : i = a
     ·rw [if_pos ha, if_pos (by omega)]
     ·rw [if_neg ha]
      by_cases hl : a < i
      ·rw [if_pos hl, if_pos (by omega)]
      ·rw [if_neg hl, if_neg (by omega)]
   ·show I_PathBetween_l4 N (P, true) kk (m + 1) ((List.range P.length).map fun j => if j < P.length then (-1 : Int) else 0, (P.length : Int)) = _
    rw [I_PathBetween_l4]
    show cnd (decide ((P.length : Int) < ((List.replicate (((P.length : Int)).toNat) (0 : Int)).length : Int))) _ _ = _
    rw [List.length_replicate, e3, cnd_df (by omega)]
    congr 1
    apply List.ext_getElem
    ·simp
    ·intro a h1 h2
     simp at h1
     simp [h1]
  have hb0 : BF P.length ([fr], [-1]) ((List.replicate P.length (-1 : Int)).set fr.toNat fr) := by
   refine ⟨by simp, fun j hj hno => ?_, fun i hi => ?_⟩
   ·have hne : fr.toNat ≠ j := fun e => hno (by simp; omega)
    rw [getD_set_ne hne]
    simp [List.getD_eq_getElem?_getD, hj]
   ·have hi0 : i = 0 := by simp at hi; omega
    subst hi0
    show ((List.replicate P.length (-1 : Int)).set fr.toNat fr).getD fr.toNat 0 = parQ _ 0
    rw [getD_set_eq2 (by simp; omega), parQ, cnd_dt rfl]; rfl
  obtain ⟨b', e2, hb'⟩ := path2_s hN h100 hpl (ok := true) (s := fr) (fun (l55 : List Int) =>
          grd (0 ≤ to ∧ to < ((List.replicate (((P.length : Int)).toNat) (0 : Int)).length : Int)) <|
          grd (0 ≤ to ∧ to < (l55.length : Int)) <|
          cnd (decide ((l55.getD ((to).toNat) 0) < (0 : Int))) (
           some (([] : List Int), false)) (
           I_PathBetween_l1 N fr (P, true) l55 (fun (l58 : List Int) =>
              (G_Reverse_int N l58).bind fun v59 =>
              grd (l58.length = v59.length) <|
              some (v59, true)) N (([to] : List Int), to))) N 0 ([fr], [-1]) _ (BQ.start hf) (by simp) (by omega) hb0
  rw [bfsP_more N (P.length + 1 + N) 0 _ (BQ.start hf) (by simp) (by omega) (by omega), ← bfsP_more (P.length + 1) (P.length + 1 + N) 0 _ (BQ.start hf) (by simp) (by omega) (by omega)] at hb'
  have hb : BF P.length (bfs0 (nrP P) P.length fr) b' := hb'
  have hbl := hb.len
  have hI : ∀ X : RP, (grd (0 ≤ to ∧ to < ((List.replicate (((P.length : Int)).toNat) (0 : Int)).length : Int)) <|
          grd (0 ≤ to ∧ to < (b'.length : Int)) <|
          cnd (decide ((b'.getD ((to).toNat) 0) < (0 : Int))) (
           some (([] : List Int), false)) (
           I_PathBetween_l1 N fr (P, true) b' (fun (l58 : List Int) =>
              (G_Reverse_int N l58).bind fun v59 =>
              grd (l58.length = v59.length) <|
              some (v59, true)) N (([to] : List Int), to))) = X → I_PathBetween_l4 N (P, true) (fun (l6 : List Int) =>
       grd (0 ≤ fr ∧ fr < ((List.replicate (((P.length : Int)).toNat) (0 : Int)).length : Int)) <|
       grd (0 ≤ fr ∧ fr < (l6.length : Int)) <|
       I_PathBetween_l2 N (P, true) (fun (l55 : List Int) =>
          grd (0 ≤ to ∧ to < ((List.replicate (((P.length : Int)).toNat) (0 : Int)).length : Int)) <|
          grd (0 ≤ to ∧ to < (l55.length : Int)) <|
          cnd (decide ((l55.getD ((to).toNat) 0) < (0 : Int))) (
           some (([] : List Int), false)) (
           I_PathBetween_l1 N fr (P, true) l55 (fun (l58 : List Int) =>
              (G_Reverse_int N l58).bind fun v59 =>
              grd (l58.length = v59.length) <|
              some (v59, true)) N (([to] : List Int), to))) N ((l6.set ((fr).toNat) fr), ([fr] : List Int), (0 : Int))) N ((List.replicate P.length (0 : Int)), (0 : Int)) = X := fun X hX => by
   rw [h4]
   show grd (0 ≤ fr ∧ fr < ((List.replicate (((P.length : Int)).toNat) (0 : Int)).length : Int)) (grd (0 ≤ fr ∧ fr < ((List.replicate P.length (-1 : Int)).length : Int)) _) = _
   rw [grd_pos (by rw [List.length_replicate, e3]; omega), grd_pos (by rw [List.length_replicate]; omega)]
   exact e2.trans hX
  show ∃ r b, _ ∧ S_PathBetween_l1 N to (bfs0 (nrP P) P.length fr) _ N (0 : Int) = _ ∧ grd (0 ≤ (P.length : Int) ∧ (P.length : Int) ≤ 4294967296) (I_PathBetween_l4 N (P, true) _ N (List.replicate (((P.length : Int)).toNat) (0 : Int), (0 : Int))) = _
  rw [grd_pos (by omega), e3]
  by_cases hm : to ∈ (bfs0 (nrP P) P.length fr).1
  ·obtain ⟨k, hk, ek⟩ := List.mem_iff_getElem.1 hm
   have ek' : (bfs0 (nrP P) P.length fr).1.getD k 0 = to := by rw [List.getD_eq_getElem?_getD, List.getElem?_eq_getElem hk, ek]; rfl
   have hcl := chQ_len (bfs0 (nrP P) P.length fr) k k
   refine ⟨(to :: chQ (bfs0 (nrP P) P.length fr) k k).reverse, true, by simp; omega, ?_, ?_⟩
   ·
    have key : ∀ (fuel i : Nat), i ≤ k → k < fuel + i → S_PathBetween_l1 N to (bfs0 (nrP P) P.length fr) (fun (_ : Unit) => some (([] : List Int), false)) fuel (i : Int) = some ((to :: chQ (bfs0 (nrP P) P.length fr) k k).reverse, true) := by
     intro fuel
     induction fuel with
     | zero => intro i h1 h2; omega
     | succ fuel ih =>
      intro i h1 h2
      have e1 : ((i : Int)).toNat = i := by omega
      rw [S_PathBetween_l1, cnd_dt (by omega), grd_pos (by omega), e1]
      by_cases hik : i = k
      ·subst hik
       rw [cnd_nef ek', pathS2_s hN hB _ i N i [] (Nat.le_refl _) (by omega) hk (by simp; omega), ek', List.append_nil]
      ·have hne : (bfs0 (nrP P) P.length fr).1.getD i 0 ≠ to := fun e => hik (getD_inj hB.nd (by omega) hk (by rw [e, ek']))
       rw [cnd_net hne, grd_R (by omega) (by omega), succ_cast]
       exact ih (i + 1) (by omega) (by omega)
    exact key N 0 (by omega) (by omega)
   ·refine hI _ ?_
    have hpar := hb.par k hk
    rw [ek'] at hpar
    have hge : 0 ≤ b'.getD to.toNat 0 := by
     rw [hpar, parQ]
     by_cases h0 : k = 0
     ·rw [cnd_dt h0]; exact (hB.rg _ (getD_mem hB.pos)).1
     ·rw [cnd_df h0]
      have hf := hB.fr k (by omega) hk
      exact (hB.rg _ (getD_mem (by omega))).1
    have h1 := pathI1_s hN (ok := true) h100 hB hb (fun (l58 : List Int) =>
              (G_Reverse_int N l58).bind fun v59 =>
              grd (l58.length = v59.length) <|
              some (v59, true)) k N k [to] (Nat.le_refl _) (by omega) hk (by simp; omega)
    rw [ek'] at h1
    rw [List.length_replicate, e3, grd_pos (by omega), grd_pos (by omega), cnd_df (by omega), h1]
    have e5 : G_Reverse_int N ([to] ++ chQ (bfs0 (nrP P) P.length fr) k k) = some ([to] ++ chQ (bfs0 (nrP P) P.length fr) k k).reverse := rfl
    show (G_Reverse_int N _).bind _ = _
    rw [e5, Option.bind_some, grd_pos (by rw [List.length_reverse])]
    rfl
  ·refine ⟨[], false, by simp, ?_, ?_⟩
   ·have key : ∀ (fuel i : Nat), i ≤ (bfs0 (nrP P) P.length fr).1.length → (bfs0 (nrP P) P.length fr).1.length < fuel + i → S_PathBetween_l1 N to (bfs0 (nrP P) P.length fr) (fun (_ : Unit) => some (([] : List Int), false)) fuel (i : Int) = some ([], false) := by
     intro fuel
     induction fuel with
     | zero => intro i h1 h2; omega
     | succ fuel ih =>
      intro i h1 h2
      rw [S_PathBetween_l1]
      by_cases hi : i < (bfs0 (nrP P) P.length fr).1.length
      ·have e1 : ((i : Int)).toNat = i := by omega
       have hne : (bfs0 (nrP P) P.length fr).1.getD i 0 ≠ to := fun e => hm (by rw [← e]; exact getD_mem hi)
       rw [cnd_dt (by omega), grd_pos (by omega), e1, cnd_net hne, grd_R (by omega) (by omega), succ_cast]
       exact ih (i + 1) (by omega) (by omega)
      ·rw [cnd_df (by omega)]
    exact key N 0 (by omega) (by omega)
   ·refine hI _ ?_
    have e6 : ((to.toNat : Nat) : Int) = to := by omega
    have := hb.no to.toNat (by omega) (by rw [e6]; exact hm)
    rw [List.length_replicate, e3, grd_pos (by omega), grd_pos (by omega), cnd_dt (by omega)]
end Go.Proofs.Ytgindcgphnbnaaa
namespace Go.Proofs.Ytgindcgphnbnaaa
open Go.RowKit
def L_FnExactPathBetween (N : Nat) (aL_0 : Lnk) (aFrom_1 : Int) (aTo_2 : Int) : Option (Bool) :=
 (L_szLinkage N aL_0 (1048576 : Int)).bind fun v1 =>
 cnd (decide (v1 < (0 : Int))) (
  some true) (
  (L_toLinkage N aL_0).bind fun v2 =>
  (S_PathBetween N v2 aFrom_1 aTo_2).bind fun v3 =>
  (L_toLinkage N aL_0).bind fun v4 =>
  (I_PathBetween N v4 aFrom_1 aTo_2).bind fun v5 =>
  (L_eqIntS N v5.1 v3.1).bind fun v6 =>
  cnd (!v6) (
   some false) (
   cnd (v5.2 != v3.2) (
    some false) (
    (L_toLinkage N aL_0).bind fun v7 =>
    (L_eqLinkage N v4 v7).bind fun v8 =>
    cnd (!v8) (
     some false) (
     (L_markLinkage N (⟨⟨⟨v4.f.g.n, v4.f.g.bars⟩, v4.f.places⟩, v4.ground⟩ : Lnk) (1 : Int)).bind fun v9 =>
     cnd (decide (v9.1 < (0 : Int))) (
      some false) (
      (L_eqIntS N v5.1 v3.1).bind fun v10 =>
      cnd (!v10) (
       some false) (
       (L_markIntS N v5.1 (1 : Int)).bind fun v11 =>
       grd (v5.1.length = v11.2.length) <|
       (L_heldIntS N v11.2 (1 : Int)).bind fun v12 =>
       cnd (decide (v12 < (0 : Int))) (
        some false) (
        cnd (v12 != v11.1) (
         some false) (
         (L_toLinkage N aL_0).bind fun v13 =>
         (I_PathBetween N v13 aFrom_1 aTo_2).bind fun v14 =>
         (L_eqIntS N v14.1 v3.1).bind fun v15 =>
         cnd (!v15) (
          some false) (
          cnd (v14.2 != v3.2) (
           some false) (
           (L_heldIntS N v11.2 (1 : Int)).bind fun v16 =>
           cnd (decide (v16 < (0 : Int))) (
            some false) (
            cnd (v16 != v11.1) (
             some false) (
             some true))))))))))))
set_option maxRecDepth 20000 in
set_option maxHeartbeats 1600000 in
theorem L_FnExactPathBetween_w (N : Nat) (aL_0 : Lnk) (aFrom_1 : Int) (aTo_2 : Int) (r : Bool) (h : L_FnExactPathBetween N aL_0 aFrom_1 aTo_2 = some r) : PCall Try.prog 11 [lD aL_0, .int aFrom_1, .int aTo_2] [] (.bool r) := by
 unfold L_FnExactPathBetween at h
 refine pcall_intro (TT := TT) tt Try.func11 rfl rfl Try.ntmps11 (congrArg Array.toList Try.results11) rfl rfl fun w0 => ?_
 refine vSeq ?_
 refine vRegion ?_
 refine oBox rfl rfl rfl rfl rfl rfl rfl rfl rfl ?_
 refine oVal tt rfl rfl rfl rfl rfl trivial ?_
 refine vNil ?_
 change VC _ _ _ _
 refine vSeq ?_
 refine vRegion ?_
 refine oVal tt rfl rfl rfl rfl rfl trivial ?_
 refine vNil ?_
 change VC _ _ _ _
 refine vSeq ?_
 refine vRegion ?_
 iterate 2 refine oVal tt rfl rfl rfl rfl rfl trivial ?_
 obtain ⟨v1, hc1, h⟩ := bind_inv h
 refine oCall (L_szLinkage_w N aL_0 (1048576 : Int) v1 hc1) rfl rfl rfl rfl rfl rfl rfl rfl ⟨⟨rfl, rfl, rfl, rfl, trivial⟩, rfl, trivial⟩ ?_
 refine oVal tt rfl rfl rfl rfl rfl trivial ?_
 refine vNil ?_
 change VC _ _ _ _
 iterate 2 refine vSeq ?_
 refine vRegion ?_
 iterate 2 refine oVal tt rfl rfl rfl rfl rfl trivial ?_
 refine vNil ?_
 change VC _ _ _ _
 refine vCond rfl (fun hb2 => ?_) (fun hb2 => ?_)
 ·replace h := cnd_t hb2 h
  refine vSeq ?_
  refine vRegion ?_
  refine oVal tt rfl rfl rfl rfl rfl trivial ?_
  refine vNil ?_
  change VC _ _ _ _
  refine vRet ?_
  change ∃ _, _
  cases h
  exact ⟨[], _, rfl, trivial, rfl, (.eq rfl), rfl⟩
 ·replace h := cnd_f hb2 h
  refine vSkip ?_
  change VC _ _ _ _
  refine vSeq ?_
  refine vRegion ?_
  refine oVal tt rfl rfl rfl rfl rfl trivial ?_
  obtain ⟨v2, hc3, h⟩ := bind_inv h
  refine oCall (L_toLinkage_w N aL_0 v2 hc3) rfl rfl rfl rfl rfl rfl rfl rfl ⟨⟨rfl, rfl, rfl, rfl, trivial⟩, trivial⟩ ?_
  iterate 2 refine oVal tt rfl rfl rfl rfl rfl trivial ?_
  obtain ⟨v3, hc4, h⟩ := bind_inv h
  refine oCall (S_PathBetween_w N v2 aFrom_1 aTo_2 v3 hc4) rfl rfl rfl rfl rfl rfl rfl rfl ⟨⟨rfl, (.inl ⟨rfl, rfl⟩), (.inl ⟨rfl, rfl⟩), (.inl ⟨rfl, rfl⟩), trivial⟩, rfl, rfl, trivial⟩ ?_
  iterate 5 refine oVal tt rfl rfl rfl rfl rfl trivial ?_
  refine vNil ?_
  change VC _ _ _ _
  refine vSeq ?_
  refine vRegion ?_
  refine oVal tt rfl rfl rfl rfl rfl trivial ?_
  obtain ⟨v4, hc5, h⟩ := bind_inv h
  refine oCall (L_toLinkage_w N aL_0 v4 hc5) rfl rfl rfl rfl rfl rfl rfl rfl ⟨⟨rfl, rfl, rfl, rfl, trivial⟩, trivial⟩ ?_
  refine oAlloc tt rfl rfl rfl rfl rfl rfl rfl rfl rfl ?_
  refine oStore tt rfl rfl rfl rfl rfl rfl rfl rfl rfl rfl rfl ⟨trivial, trivial, trivial, trivial, trivial⟩ ?_
  refine vNil ?_
  change VC _ _ _ _
  refine vSeq ?_
  refine vRegion ?_
  iterate 3 refine oVal tt rfl rfl rfl rfl rfl trivial ?_
  obtain ⟨v5, hc6, h⟩ := bind_inv h
  refine oCall (I_PathBetween_w N v4 aFrom_1 aTo_2 v5 hc6) rfl rfl rfl rfl rfl rfl rfl rfl ⟨⟨rfl, (.inl ⟨rfl, rfl⟩), (.inl ⟨rfl, rfl⟩), (.inl ⟨rfl, rfl⟩), trivial⟩, rfl, rfl, trivial⟩ ?_
  iterate 5 refine oVal tt rfl rfl rfl rfl rfl trivial ?_
  refine vNil ?_
  change VC _ _ _ _
  iterate 2 refine vSeq ?_
  refine vRegion ?_
  iterate 2 refine oVal tt rfl rfl rfl rfl rfl trivial ?_
  obtain ⟨v6, hc7, h⟩ := bind_inv h
  refine oCall (L_eqIntS_w N v5.1 v3.1 v6 hc7) rfl rfl rfl rfl rfl rfl rfl rfl ⟨(.inl ⟨rfl, rfl⟩), (.inl ⟨rfl, rfl⟩), trivial⟩ ?_
  iterate 2 refine oVal tt rfl rfl rfl rfl rfl trivial ?_
  refine oSplit rfl rfl rfl (fun hb8 => ?_) (fun hb8 => ?_)
  ·replace h := cnd_t hb8 h
   iterate 3 refine oNoF rfl rfl rfl rfl hb8 rfl rfl ?_
   refine oPick rfl rfl rfl rfl rfl hb8 rfl ?_
   refine vNil ?_
   change VC _ _ _ _
   refine vCondT rfl rfl ?_
   refine vSeq ?_
   refine vRegion ?_
   refine oVal tt rfl rfl rfl rfl rfl trivial ?_
   refine vNil ?_
   change VC _ _ _ _
   refine vRet ?_
   change ∃ _, _
   cases h
   exact ⟨[], _, rfl, trivial, rfl, (.eq rfl), rfl⟩
  ·replace h := cnd_f hb8 h
   iterate 2 refine oValG tt rfl rfl rfl rfl rfl hb8 rfl rfl rfl trivial ?_
   refine oPure (wSome rfl rfl rfl rfl hb8) (pNeB Try.underlying4 rfl rfl rfl) rfl rfl ?_
   refine oPickF rfl rfl rfl rfl rfl hb8 rfl ?_
   refine vNil ?_
   change VC _ _ _ _
   refine vCond rfl (fun hb9 => ?_) (fun hb9 => ?_)
   ·replace h := cnd_t hb9 h
    refine vSeq ?_
    refine vRegion ?_
    refine oVal tt rfl rfl rfl rfl rfl trivial ?_
    refine vNil ?_
    change VC _ _ _ _
    refine vRet ?_
    change ∃ _, _
    cases h
    exact ⟨[], _, rfl, trivial, rfl, (.eq rfl), rfl⟩
   ·replace h := cnd_f hb9 h
    refine vSkip ?_
    change VC _ _ _ _
    iterate 2 refine vSeq ?_
    refine vRegionN 3 [2] [0, 0, 2, 7, 15] (by kernel_rfl) (by kernel_rfl) (by kernel_rfl) (by kernel_rfl) (by kernel_rfl) rfl (by rfl) ?_
    iterate 2 refine nVal tt rfl (wNone rfl) rfl rfl rfl rfl rfl trivial ?_
    obtain ⟨v7, hc10, h⟩ := bind_inv h
    refine nCallR (L_toLinkage_w N aL_0 v7 hc10) rfl (wNone rfl) rfl rfl rfl rfl rfl rfl (by first | rfl | kernel_rfl | (simp [nrL, nm, gdst, nmT, rowB]; done)) rfl (by first | rfl | kernel_rfl | (simp [chkE, nrL, nm, gdst, nmT, rowB, hid, ment, mentA, mentS]; done) | (simp [chkE, nrL, nm, gdst, nmT, rowB, hid, ment, mentA, mentS]; decide)) ⟨⟨rfl, rfl, rfl, rfl, trivial⟩, trivial⟩ ?_
    refine nNil ?_
    change VO _ _ _ _ _
    obtain ⟨v8, hc11, h⟩ := bind_inv h
    refine oCall (L_eqLinkage_w N v4 v7 v8 hc11) rfl rfl rfl rfl rfl rfl rfl rfl ⟨⟨rfl, (.inl ⟨rfl, rfl⟩), (.inl ⟨rfl, rfl⟩), (.inl ⟨rfl, rfl⟩), trivial⟩, ⟨rfl, (.inl ⟨rfl, rfl⟩), (.inl ⟨rfl, rfl⟩), (.inl ⟨rfl, rfl⟩), trivial⟩, trivial⟩ ?_
    refine oVal tt rfl rfl rfl rfl rfl trivial ?_
    refine vNil ?_
    change VC _ _ _ _
    refine vCond rfl (fun hb12 => ?_) (fun hb12 => ?_)
    ·replace h := cnd_t hb12 h
     refine vSeq ?_
     refine vRegion ?_
     refine oVal tt rfl rfl rfl rfl rfl trivial ?_
     refine vNil ?_
     change VC _ _ _ _
     refine vRet ?_
     change ∃ _, _
     cases h
     exact ⟨[], _, rfl, trivial, rfl, (.eq rfl), rfl⟩
    ·replace h := cnd_f hb12 h
     refine vSkip ?_
     change VC _ _ _ _
     refine vSeq ?_
     refine vRegion ?_
     refine oVal tt rfl rfl rfl rfl rfl trivial ?_
     refine vNil ?_
     change VC _ _ _ _
     refine vSeq ?_
     refine vRegion ?_
     iterate 2 refine oVal tt rfl rfl rfl rfl rfl trivial ?_
     obtain ⟨v9, hc13, h⟩ := bind_inv h
     refine oMCall (L_markLinkage_w N (⟨⟨⟨v4.f.g.n, v4.f.g.bars⟩, v4.f.places⟩, v4.ground⟩ : Lnk) (1 : Int) v9 hc13) [1320, 1321, 1322] [] [1320, 1321, 1322] rfl rfl rfl rfl rfl rfl ⟨rfl, rfl, rfl, trivial⟩ trivial ⟨⟨⟨rfl, rfl⟩, ⟨rfl, rfl⟩, ⟨rfl, rfl⟩, ⟨rfl, rfl⟩, trivial⟩, ⟨rfl, rfl⟩, trivial⟩ ?_
     refine oVal tt rfl rfl rfl rfl rfl trivial ?_
     refine vNil ?_
     change VC _ _ _ _
     iterate 2 refine vSeq ?_
     refine vRegion ?_
     iterate 3 refine oVal tt rfl rfl rfl rfl rfl trivial ?_
     refine oSplit rfl rfl rfl (fun hb14 => ?_) (fun hb14 => ?_)
     ·replace h := cnd_t hb14 h
      iterate 4 refine oNoF rfl rfl rfl rfl hb14 rfl rfl ?_
      refine oPick rfl rfl rfl rfl rfl hb14 rfl ?_
      refine oVal tt rfl rfl rfl rfl rfl trivial ?_
      iterate 3 refine oNoF rfl rfl rfl rfl rfl rfl rfl ?_
      refine oPick rfl rfl rfl rfl rfl rfl rfl ?_
      refine vNil ?_
      change VC _ _ _ _
      refine vCondT rfl rfl ?_
      refine vSeq ?_
      refine vRegion ?_
      refine oVal tt rfl rfl rfl rfl rfl trivial ?_
      refine vNil ?_
      change VC _ _ _ _
      refine vRet ?_
      change ∃ _, _
      cases h
      exact ⟨[], _, rfl, trivial, rfl, (.eq rfl), rfl⟩
     ·replace h := cnd_f hb14 h
      iterate 2 refine oValG tt rfl rfl rfl rfl rfl hb14 rfl rfl rfl trivial ?_
      obtain ⟨v10, hc15, h⟩ := bind_inv h
      refine oCallG (L_eqIntS_w N v5.1 v3.1 v10 hc15) rfl rfl rfl rfl hb14 rfl rfl rfl rfl rfl rfl rfl ⟨(.inl ⟨rfl, rfl⟩), (.inl ⟨rfl, rfl⟩), trivial⟩ ?_
      refine oValG tt rfl rfl rfl rfl rfl hb14 rfl rfl rfl trivial ?_
      refine oPickF rfl rfl rfl rfl rfl hb14 rfl ?_
      refine oVal tt rfl rfl rfl rfl rfl trivial ?_
      refine oSplit rfl rfl rfl (fun hb16 => ?_) (fun hb16 => ?_)
      ·replace h := cnd_t hb16 h
       iterate 3 refine oNoF rfl rfl rfl rfl hb16 rfl rfl ?_
       refine oPick rfl rfl rfl rfl rfl hb16 rfl ?_
       refine vNil ?_
       change VC _ _ _ _
       refine vCondT rfl rfl ?_
       refine vSeq ?_
       refine vRegion ?_
       refine oVal tt rfl rfl rfl rfl rfl trivial ?_
       refine vNil ?_
       change VC _ _ _ _
       refine vRet ?_
       change ∃ _, _
       cases h
       exact ⟨[], _, rfl, trivial, rfl, (.eq rfl), rfl⟩
      ·replace h := cnd_f hb16 h
       iterate 2 refine oValG tt rfl rfl rfl rfl rfl hb16 rfl rfl rfl trivial ?_
       refine oPure (wSome rfl rfl rfl rfl hb16) (pNeB Try.underlying4 rfl rfl rfl) rfl rfl ?_
       refine oPickF rfl rfl rfl rfl rfl hb16 rfl ?_
       refine vNil ?_
       change VC _ _ _ _
       refine vCondF rfl hb9 ?_
       refine vSkip ?_
       change VC _ _ _ _
       refine vSeq ?_
       refine vRegion ?_
       refine oVal tt rfl rfl rfl rfl rfl trivial ?_
       refine vNil ?_
       change VC _ _ _ _
       refine vSeq ?_
       refine vRegion ?_
       iterate 2 refine oVal tt rfl rfl rfl rfl rfl trivial ?_
       obtain ⟨v11, hc17, h⟩ := bind_inv h
       refine oMCall (L_markIntS_w N v5.1 (1 : Int) v11 hc17) [1370] [] [1370] rfl rfl rfl rfl rfl rfl ⟨rfl, trivial⟩ trivial ⟨⟨rfl, rfl⟩, ⟨rfl, rfl⟩, trivial⟩ ?_
       refine oVal tt rfl rfl rfl rfl rfl trivial ?_
       refine vNil ?_
       change VC _ _ _ _
       refine vSeq ?_
       refine vRegion ?_
       refine oVal tt rfl rfl rfl rfl rfl trivial ?_
       refine vNil ?_
       change VC _ _ _ _
       refine vSeq ?_
       refine vRegion ?_
       iterate 2 refine oVal tt rfl rfl rfl rfl rfl trivial ?_
       obtain ⟨hg18, h⟩ := grd_inv h
       obtain ⟨v12, hc19, h⟩ := bind_inv h
       refine oCall (L_heldIntS_w N v11.2 (1 : Int) v12 hc19) rfl rfl rfl rfl rfl rfl rfl rfl ⟨(.inl ⟨hg18, rfl⟩), rfl, trivial⟩ ?_
       refine oVal tt rfl rfl rfl rfl rfl trivial ?_
       refine vNil ?_
       change VC _ _ _ _
       iterate 2 refine vSeq ?_
       refine vRegion ?_
       iterate 2 refine oVal tt rfl rfl rfl rfl rfl trivial ?_
       refine vNil ?_
       change VC _ _ _ _
       refine vCond rfl (fun hb20 => ?_) (fun hb20 => ?_)
       ·replace h := cnd_t hb20 h
        refine vSeq ?_
        refine vRegion ?_
        refine oVal tt rfl rfl rfl rfl rfl trivial ?_
        refine vNil ?_
        change VC _ _ _ _
        refine vRet ?_
        change ∃ _, _
        cases h
        exact ⟨[], _, rfl, trivial, rfl, (.eq rfl), rfl⟩
       ·replace h := cnd_f hb20 h
        refine vSkip ?_
        change VC _ _ _ _
        iterate 2 refine vSeq ?_
        refine vRegion ?_
        iterate 3 refine oVal tt rfl rfl rfl rfl rfl trivial ?_
        refine vNil ?_
        change VC _ _ _ _
        refine vCond rfl (fun hb21 => ?_) (fun hb21 => ?_)
        ·replace h := cnd_t hb21 h
         refine vSeq ?_
         refine vRegion ?_
         refine oVal tt rfl rfl rfl rfl rfl trivial ?_
         refine vNil ?_
         change VC _ _ _ _
         refine vRet ?_
         change ∃ _, _
         cases h
         exact ⟨[], _, rfl, trivial, rfl, (.eq rfl), rfl⟩
        ·replace h := cnd_f hb21 h
         refine vSkip ?_
         change VC _ _ _ _
         refine vSeq ?_
         refine vRegion ?_
         refine oVal tt rfl rfl rfl rfl rfl trivial ?_
         obtain ⟨v13, hc22, h⟩ := bind_inv h
         refine oCall (L_toLinkage_w N aL_0 v13 hc22) rfl rfl rfl rfl rfl rfl rfl rfl ⟨⟨rfl, rfl, rfl, rfl, trivial⟩, trivial⟩ ?_
         iterate 2 refine oVal tt rfl rfl rfl rfl rfl trivial ?_
         obtain ⟨v14, hc23, h⟩ := bind_inv h
         refine oCall (I_PathBetween_w N v13 aFrom_1 aTo_2 v14 hc23) rfl rfl rfl rfl rfl rfl rfl rfl ⟨⟨rfl, (.inl ⟨rfl, rfl⟩), (.inl ⟨rfl, rfl⟩), (.inl ⟨rfl, rfl⟩), trivial⟩, rfl, rfl, trivial⟩ ?_
         iterate 5 refine oVal tt rfl rfl rfl rfl rfl trivial ?_
         refine vNil ?_
         change VC _ _ _ _
         iterate 2 refine vSeq ?_
         refine vRegion ?_
         iterate 2 refine oVal tt rfl rfl rfl rfl rfl trivial ?_
         obtain ⟨v15, hc24, h⟩ := bind_inv h
         refine oCall (L_eqIntS_w N v14.1 v3.1 v15 hc24) rfl rfl rfl rfl rfl rfl rfl rfl ⟨(.inl ⟨rfl, rfl⟩), (.inl ⟨rfl, rfl⟩), trivial⟩ ?_
         iterate 2 refine oVal tt rfl rfl rfl rfl rfl trivial ?_
         refine oSplit rfl rfl rfl (fun hb25 => ?_) (fun hb25 => ?_)
         ·replace h := cnd_t hb25 h
          iterate 3 refine oNoF rfl rfl rfl rfl hb25 rfl rfl ?_
          refine oPick rfl rfl rfl rfl rfl hb25 rfl ?_
          refine vNil ?_
          change VC _ _ _ _
          refine vCondT rfl rfl ?_
          refine vSeq ?_
          refine vRegion ?_
          refine oVal tt rfl rfl rfl rfl rfl trivial ?_
          refine vNil ?_
          change VC _ _ _ _
          refine vRet ?_
          change ∃ _, _
          cases h
          exact ⟨[], _, rfl, trivial, rfl, (.eq rfl), rfl⟩
         ·replace h := cnd_f hb25 h
          iterate 2 refine oValG tt rfl rfl rfl rfl rfl hb25 rfl rfl rfl trivial ?_
          refine oPure (wSome rfl rfl rfl rfl hb25) (pNeB Try.underlying4 rfl rfl rfl) rfl rfl ?_
          refine oPickF rfl rfl rfl rfl rfl hb25 rfl ?_
          refine vNil ?_
          change VC _ _ _ _
          refine vCond rfl (fun hb26 => ?_) (fun hb26 => ?_)
          ·replace h := cnd_t hb26 h
           refine vSeq ?_
           refine vRegion ?_
           refine oVal tt rfl rfl rfl rfl rfl trivial ?_
           refine vNil ?_
           change VC _ _ _ _
           refine vRet ?_
           change ∃ _, _
           cases h
           exact ⟨[], _, rfl, trivial, rfl, (.eq rfl), rfl⟩
          ·replace h := cnd_f hb26 h
           refine vSkip ?_
           change VC _ _ _ _
           refine vSeq ?_
           refine vRegion ?_
           refine oVal tt rfl rfl rfl rfl rfl trivial ?_
           refine vNil ?_
           change VC _ _ _ _
           refine vSeq ?_
           refine vRegion ?_
           iterate 2 refine oVal tt rfl rfl rfl rfl rfl trivial ?_
           obtain ⟨v16, hc27, h⟩ := bind_inv h
           refine oCall (L_heldIntS_w N v11.2 (1 : Int) v16 hc27) rfl rfl rfl rfl rfl rfl rfl rfl ⟨(.inl ⟨hg18, rfl⟩), rfl, trivial⟩ ?_
           refine oVal tt rfl rfl rfl rfl rfl trivial ?_
           refine vNil ?_
           change VC _ _ _ _
           iterate 2 refine vSeq ?_
           refine vRegion ?_
           iterate 2 refine oVal tt rfl rfl rfl rfl rfl trivial ?_
           refine vNil ?_
           change VC _ _ _ _
           refine vCond rfl (fun hb28 => ?_) (fun hb28 => ?_)
           ·replace h := cnd_t hb28 h
            refine vSeq ?_
            refine vRegion ?_
            refine oVal tt rfl rfl rfl rfl rfl trivial ?_
            refine vNil ?_
            change VC _ _ _ _
            refine vRet ?_
            change ∃ _, _
            cases h
            exact ⟨[], _, rfl, trivial, rfl, (.eq rfl), rfl⟩
           ·replace h := cnd_f hb28 h
            refine vSkip ?_
            change VC _ _ _ _
            iterate 2 refine vSeq ?_
            refine vRegion ?_
            iterate 3 refine oVal tt rfl rfl rfl rfl rfl trivial ?_
            refine vNil ?_
            change VC _ _ _ _
            refine vCond rfl (fun hb29 => ?_) (fun hb29 => ?_)
            ·replace h := cnd_t hb29 h
             refine vSeq ?_
             refine vRegion ?_
             refine oVal tt rfl rfl rfl rfl rfl trivial ?_
             refine vNil ?_
             change VC _ _ _ _
             refine vRet ?_
             change ∃ _, _
             cases h
             exact ⟨[], _, rfl, trivial, rfl, (.eq rfl), rfl⟩
            ·replace h := cnd_f hb29 h
             refine vSkip ?_
             change VC _ _ _ _
             refine vSeq ?_
             refine vRegion ?_
             refine oVal tt rfl rfl rfl rfl rfl trivial ?_
             refine vNil ?_
             change VC _ _ _ _
             refine vRet ?_
             change ∃ _, _
             cases h
             exact ⟨[], _, rfl, trivial, rfl, (.eq rfl), rfl⟩
end Go.Proofs.Ytgindcgphnbnaaa
