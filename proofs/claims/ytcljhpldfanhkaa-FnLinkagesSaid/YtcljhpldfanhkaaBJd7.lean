/- Texts that the proof needs, put together: G127 Ee Ek G114 G117 Re Rf Rg Rh Ri Pt Pv Px G43 G46 G51 Qa Ea Eb Ec. -/
import Derived.Test.YtcljhpldfanhkaaBJd3
import Derived.Test.YtcljhpldfanhkaaBJd4
import Derived.Test.YtcljhpldfanhkaaBJd5
import Derived.Test.YtcljhpldfanhkaaBJd6
set_option linter.unusedVariables false
set_option linter.unusedSimpArgs false
namespace Go.Proofs.Ytcljhpldfanhkaa
open Go.RowKit
def S_DrawIsPose (N : Nat) (code_0 : List Int) : Option (Lnk × (List (Int × Int))) :=
 (S_l1New N code_0).bind fun v1 =>
 (S_l24Any N v1).bind fun v2 =>
 (S_PosesOf N v2.1).bind fun v3 =>
 cnd (decide ((v3.1.length : Int) > (0 : Int))) (
  (S_l1Once N (⟨v1.b, v2.2.1, v2.2.2⟩ : Cur) (3 : Int)).bind fun v4 =>
  cnd (!v4.1) (
   (S_l1Below N (⟨v1.b, v4.2.1, v4.2.2⟩ : Cur) (v3.1.length : Int)).bind fun v5 =>
   grd (0 ≤ v5.1 ∧ v5.1 < (v3.1.length : Int)) <|
   some ((⟨⟨⟨v2.1.f.g.n, v2.1.f.g.bars⟩, v2.1.f.places⟩, v2.1.ground⟩ : Lnk), (v3.1.getD ((v5.1).toNat) []))) (
   (S_l10Of N (⟨v1.b, v4.2.1, v4.2.2⟩ : Cur) (⟨(max (1 : Int) (v2.1.f.places.length : Int)), ([] : List (Int × Int))⟩ : Grf)).bind fun v6 =>
   some ((⟨⟨⟨v2.1.f.g.n, v2.1.f.g.bars⟩, v2.1.f.places⟩, v2.1.ground⟩ : Lnk), v6.1.places))) (
  (S_l10Of N (⟨v1.b, v2.2.1, v2.2.2⟩ : Cur) (⟨(max (1 : Int) (v2.1.f.places.length : Int)), ([] : List (Int × Int))⟩ : Grf)).bind fun v7 =>
  some ((⟨⟨⟨v2.1.f.g.n, v2.1.f.g.bars⟩, v2.1.f.places⟩, v2.1.ground⟩ : Lnk), v7.1.places))
set_option maxRecDepth 20000 in
set_option maxHeartbeats 1600000 in
theorem S_DrawIsPose_w (N : Nat) (code_0 : List Int) (r : Lnk × (List (Int × Int))) (h : S_DrawIsPose N code_0 = some r) : PCall Try.prog 90 [.ro false (.bytes code_0)] [(111, .pairs r.1.f.g.bars), (71, .pairs r.1.f.places), (3, .ints r.1.ground)] (.tup [.agg [.int r.1.f.g.n, .row 0 0 r.1.f.g.bars.length, .row 1 0 r.1.f.places.length, .row 2 0 r.1.ground.length], .ro true (.pairs r.2)]) := by
 unfold S_DrawIsPose at h
 refine pcall_intro (TT := TT) tt Try.func90 rfl rfl Try.ntmps90 (congrArg Array.toList Try.results90) rfl rfl fun w0 => ?_
 refine vSeq ?_
 refine vRegion ?_
 refine oAlloc tt rfl rfl rfl rfl rfl rfl rfl rfl rfl ?_
 refine oVal tt rfl rfl rfl rfl rfl trivial ?_
 refine vNil ?_
 change VC _ _ _ _
 refine vSeq ?_
 refine vRegion ?_
 refine oVal tt rfl rfl rfl rfl rfl trivial ?_
 obtain ⟨v1, hc1, h⟩ := bind_inv h
 refine oCallB (S_l1New_w N code_0 v1 hc1) rfl rfl rfl rfl rfl ⟨rfl, rfl, trivial⟩ ?_
 refine oVal tt rfl rfl rfl rfl rfl trivial ?_
 refine vNil ?_
 change VC _ _ _ _
 refine vSeq ?_
 refine vRegion ?_
 refine oVal tt rfl rfl rfl rfl rfl trivial ?_
 refine vEnO (En.zero 9508 111 (.pairs []) rfl rfl) ?_
 refine vEnO (En.zero 9509 71 (.pairs []) rfl rfl) ?_
 refine vEnO (En.zero 9510 3 (.ints []) rfl rfl) ?_
 obtain ⟨v2, hc2, h⟩ := bind_inv h
 refine oMCall (S_l24Any_w N v1 v2 hc2) [9508, 9509, 9510] [10] [1120, 1121, 1122] rfl rfl rfl rfl rfl rfl ⟨rfl, rfl, rfl, trivial⟩ ⟨rfl, trivial⟩ ⟨⟨rfl, rfl⟩, trivial⟩ ?_
 refine oAlloc tt rfl rfl rfl rfl rfl rfl rfl rfl rfl ?_
 refine oStore tt rfl rfl rfl rfl rfl rfl rfl rfl rfl rfl rfl ⟨trivial, trivial, trivial, trivial, trivial⟩ ?_
 refine vNil ?_
 change VC _ _ _ _
 refine vSeq ?_
 refine vRegion ?_
 refine oVal tt rfl rfl rfl rfl rfl trivial ?_
 obtain ⟨v3, hc3, h⟩ := bind_inv h
 refine oCall (S_PosesOf_w N v2.1 v3 hc3) rfl rfl rfl rfl rfl rfl rfl rfl ⟨⟨rfl, (.inl ⟨rfl, rfl⟩), (.inl ⟨rfl, rfl⟩), (.inl ⟨rfl, rfl⟩), trivial⟩, trivial⟩ ?_
 iterate 5 refine oVal tt rfl rfl rfl rfl rfl trivial ?_
 refine vNil ?_
 change VC _ _ _ _
 iterate 2 refine vSeq ?_
 refine vRegion ?_
 iterate 4 refine oVal tt rfl rfl rfl rfl rfl trivial ?_
 refine oSplit rfl rfl rfl (fun hb4 => ?_) (fun hb4 => ?_)
 ·replace h := cnd_t hb4 h
  refine oValG tt rfl rfl rfl rfl rfl hb4 rfl rfl rfl trivial ?_
  obtain ⟨v4, hc5, h⟩ := bind_inv h
  refine oMCallG (S_l1Once_w N (⟨v1.b, v2.2.1, v2.2.2⟩ : Cur) (3 : Int) v4 hc5) [] [10] [] rfl rfl rfl rfl hb4 rfl rfl rfl rfl rfl trivial ⟨rfl, trivial⟩ ⟨⟨rfl, rfl⟩, ⟨rfl, rfl⟩, trivial⟩ ?_
  refine oValG tt rfl rfl rfl rfl rfl hb4 rfl rfl rfl trivial ?_
  refine oPick rfl rfl rfl rfl rfl hb4 rfl ?_
  refine vNil ?_
  change VC _ _ _ _
  refine vCond rfl (fun hb6 => ?_) (fun hb6 => ?_)
  ·replace h := cnd_t hb6 h
   refine vSeq ?_
   refine vRegionN 9 [5, 1050000010, 1080000002] [0, 0, 0, 0, 8, 28, 62, 126, 61, 511] (by kernel_rfl) (by kernel_rfl) (by kernel_rfl) (by kernel_rfl) (by kernel_rfl) rfl (by rfl) ?_
   iterate 5 refine nVal tt rfl (wNone rfl) rfl rfl rfl rfl rfl trivial ?_
   obtain ⟨v5, hc7, h⟩ := bind_inv h
   refine nMCall (rids := []) (bids := []) (pids := []) (wNone rfl) (S_l1Below_w N (⟨v1.b, v4.2.1, v4.2.2⟩ : Cur) (v3.1.length : Int) v5 hc7) [] [10] [] rfl rfl rfl rfl rfl (by first | rfl | kernel_rfl) rfl rfl rfl rfl rfl (by first | rfl | kernel_rfl)  trivial ⟨rfl, trivial⟩ ⟨⟨rfl, rfl⟩, ⟨rfl, rfl⟩, trivial⟩ ?_
   obtain ⟨hg8, h⟩ := grd_inv h
   iterate 2 refine nVal tt rfl (wNone rfl) rfl rfl rfl rfl rfl hg8 ?_
   refine nStoreB tt (wNone rfl) rfl rfl rfl rfl rfl rfl rfl rfl rfl rfl rfl rfl ?_
   refine nNil ?_
   change VO _ _ _ _ _
   refine oVal tt rfl rfl rfl rfl rfl trivial ?_
   refine vNil ?_
   change VC _ _ _ _
   refine vRet ?_
   change ∃ _, _
   cases h
   exact ⟨[1120, 1121, 1122], _, rfl, ⟨rfl, rfl, rfl, trivial⟩, rfl, (.eq rfl), rfl⟩
  ·replace h := cnd_f hb6 h
   refine vSkip ?_
   change VC _ _ _ _
   refine vSeq ?_
   refine vRegion ?_
   iterate 6 refine oVal tt rfl rfl rfl rfl rfl trivial ?_
   refine oPure (wNone rfl) (pBuild bld_impl_Graph rfl rfl) rfl rfl ?_
   refine vEnO (En.zero 9511 111 (.pairs []) rfl rfl) ?_
   refine vEnO (En.zero 9512 71 (.pairs []) rfl rfl) ?_
   obtain ⟨v6, hc9, h⟩ := bind_inv h
   refine oMCall (S_l10Of_w N (⟨v1.b, v4.2.1, v4.2.2⟩ : Cur) (⟨(max (1 : Int) (v2.1.f.places.length : Int)), ([] : List (Int × Int))⟩ : Grf) v6 hc9) [9511, 9512] [10] [1410, 1411] rfl rfl rfl rfl rfl rfl ⟨rfl, rfl, trivial⟩ ⟨rfl, trivial⟩ ⟨⟨rfl, rfl⟩, ⟨⟨rfl, rfl⟩, (.inr (.inr ⟨rfl, rfl⟩)), trivial⟩, trivial⟩ ?_
   refine oAlloc tt rfl rfl rfl rfl rfl rfl rfl rfl rfl ?_
   refine oStore tt rfl rfl rfl rfl rfl rfl rfl rfl rfl rfl rfl ⟨trivial, trivial, trivial, trivial⟩ ?_
   refine vNil ?_
   change VC _ _ _ _
   refine vSeq ?_
   refine vRegionN 4 [1030000002] [0, 0, 2, 1, 15] (by kernel_rfl) (by kernel_rfl) (by kernel_rfl) (by kernel_rfl) (by kernel_rfl) rfl (by rfl) ?_
   iterate 3 refine nVal tt rfl (wNone rfl) rfl rfl rfl rfl rfl trivial ?_
   refine nStoreB tt (wNone rfl) rfl rfl rfl rfl rfl rfl rfl rfl rfl rfl rfl rfl ?_
   refine nNil ?_
   change VO _ _ _ _ _
   refine oVal tt rfl rfl rfl rfl rfl trivial ?_
   refine vNil ?_
   change VC _ _ _ _
   refine vEn (En.freeze 3 rfl rfl rfl rfl) ?_
   refine vRet ?_
   change ∃ _, _
   cases h
   exact ⟨[1120, 1121, 1122], _, rfl, ⟨rfl, rfl, rfl, trivial⟩, rfl, (.eq rfl), rfl⟩
 ·replace h := cnd_f hb4 h
  iterate 3 refine oNoT rfl rfl rfl rfl hb4 rfl rfl ?_
  refine oPickF rfl rfl rfl rfl rfl hb4 rfl ?_
  refine vNil ?_
  change VC _ _ _ _
  refine vCondF rfl rfl ?_
  refine vSkip ?_
  change VC _ _ _ _
  refine vSeq ?_
  refine vRegion ?_
  iterate 6 refine oVal tt rfl rfl rfl rfl rfl trivial ?_
  refine oPure (wNone rfl) (pBuild bld_impl_Graph rfl rfl) rfl rfl ?_
  refine vEnO (En.zero 9513 111 (.pairs []) rfl rfl) ?_
  refine vEnO (En.zero 9514 71 (.pairs []) rfl rfl) ?_
  obtain ⟨v7, hc10, h⟩ := bind_inv h
  refine oMCall (S_l10Of_w N (⟨v1.b, v2.2.1, v2.2.2⟩ : Cur) (⟨(max (1 : Int) (v2.1.f.places.length : Int)), ([] : List (Int × Int))⟩ : Grf) v7 hc10) [9513, 9514] [10] [1410, 1411] rfl rfl rfl rfl rfl rfl ⟨rfl, rfl, trivial⟩ ⟨rfl, trivial⟩ ⟨⟨rfl, rfl⟩, ⟨⟨rfl, rfl⟩, (.inr (.inr ⟨rfl, rfl⟩)), trivial⟩, trivial⟩ ?_
  refine oAlloc tt rfl rfl rfl rfl rfl rfl rfl rfl rfl ?_
  refine oStore tt rfl rfl rfl rfl rfl rfl rfl rfl rfl rfl rfl ⟨trivial, trivial, trivial, trivial⟩ ?_
  refine vNil ?_
  change VC _ _ _ _
  refine vSeq ?_
  refine vRegionN 4 [1030000002] [0, 0, 2, 1, 15] (by kernel_rfl) (by kernel_rfl) (by kernel_rfl) (by kernel_rfl) (by kernel_rfl) rfl (by rfl) ?_
  iterate 3 refine nVal tt rfl (wNone rfl) rfl rfl rfl rfl rfl trivial ?_
  refine nStoreB tt (wNone rfl) rfl rfl rfl rfl rfl rfl rfl rfl rfl rfl rfl rfl ?_
  refine nNil ?_
  change VO _ _ _ _ _
  refine oVal tt rfl rfl rfl rfl rfl trivial ?_
  refine vNil ?_
  change VC _ _ _ _
  refine vEn (En.freeze 3 rfl rfl rfl rfl) ?_
  refine vRet ?_
  change ∃ _, _
  cases h
  exact ⟨[1120, 1121, 1122], _, rfl, ⟨rfl, rfl, rfl, trivial⟩, rfl, (.eq rfl), rfl⟩
def S_DrawIndexOfPose (N : Nat) (code_0 : List Int) : Option ((List (List (Int × Int))) × (List (Int × Int))) :=
 (S_DrawIsPose N code_0).bind fun v1 =>
 (S_PosesOf N v1.1).bind fun v2 =>
 some (v2.1, v1.2)
set_option maxRecDepth 20000 in
set_option maxHeartbeats 1600000 in
theorem S_DrawIndexOfPose_w (N : Nat) (code_0 : List Int) (r : (List (List (Int × Int))) × (List (Int × Int))) (h : S_DrawIndexOfPose N code_0 = some r) : PCall Try.prog 91 [.ro false (.bytes code_0)] [(61, .pairss r.1)] (.tup [.row 0 0 r.1.length, .ro true (.pairs r.2)]) := by
 unfold S_DrawIndexOfPose at h
 refine pcall_intro (TT := TT) tt Try.func91 rfl rfl Try.ntmps91 (congrArg Array.toList Try.results91) rfl rfl fun w0 => ?_
 refine vSeq ?_
 refine vRegion ?_
 iterate 2 refine oVal tt rfl rfl rfl rfl rfl trivial ?_
 refine vNil ?_
 change VC _ _ _ _
 refine vSeq ?_
 refine vRegion ?_
 refine oVal tt rfl rfl rfl rfl rfl trivial ?_
 obtain ⟨v1, hc1, h⟩ := bind_inv h
 refine oCall (S_DrawIsPose_w N code_0 v1 hc1) rfl rfl rfl rfl rfl rfl rfl rfl ⟨rfl, trivial⟩ ?_
 iterate 3 refine oVal tt rfl rfl rfl rfl rfl trivial ?_
 refine oAlloc tt rfl rfl rfl rfl rfl rfl rfl rfl rfl ?_
 refine oStore tt rfl rfl rfl rfl rfl rfl rfl rfl rfl rfl rfl ⟨trivial, trivial, trivial, trivial, trivial⟩ ?_
 refine oVal tt rfl rfl rfl rfl rfl trivial ?_
 refine vNil ?_
 change VC _ _ _ _
 refine vSeq ?_
 refine vRegion ?_
 refine oVal tt rfl rfl rfl rfl rfl trivial ?_
 obtain ⟨v2, hc2, h⟩ := bind_inv h
 refine oCall (S_PosesOf_w N v1.1 v2 hc2) rfl rfl rfl rfl rfl rfl rfl rfl ⟨⟨rfl, (.inl ⟨rfl, rfl⟩), (.inl ⟨rfl, rfl⟩), (.inl ⟨rfl, rfl⟩), trivial⟩, trivial⟩ ?_
 iterate 5 refine oVal tt rfl rfl rfl rfl rfl trivial ?_
 refine vNil ?_
 change VC _ _ _ _
 refine vSeq ?_
 refine vRegion ?_
 iterate 4 refine oVal tt rfl rfl rfl rfl rfl trivial ?_
 refine vNil ?_
 change VC _ _ _ _
 refine vRet ?_
 change ∃ _, _
 cases h
 exact ⟨[1150], _, rfl, ⟨rfl, trivial⟩, rfl, (.eq rfl), rfl⟩
end Go.Proofs.Ytcljhpldfanhkaa
namespace Go.Proofs.Ytcljhpldfanhkaa
open Go.RowKit
variable {N : Nat}
theorem getD_in {α : Type} {l : List α} {i : Nat} {d : α} (h : i < l.length) : l.getD i d ∈ l := by
 rw [List.getD_eq_getElem?_getD, List.getElem?_eq_getElem h]; exact List.getElem_mem h
theorem put_dl (hN : 4000000 ≤ N) {g : Grf} {m : Int} {k : Nat} (h : GD m k g) (hk : k ≤ 999) {x : Int × Int} (hx : 0 ≤ x.1 ∧ x.1 < m ∧ 0 ≤ x.2 ∧ x.2 < m) : Ok (S_l2Put N g x) fun r => GD m (k + 1) r ∧ r.n = g.n ∧ 0 < r.bars.length := by
 have hl := h.len
 obtain ⟨L, h1, h2, h3⟩ := put0_s (N := N) hN (g := g) (by omega) x
 refine ⟨_, h1, ⟨by simp only; omega, fun e he => ?_⟩, rfl, by simp only; omega⟩
 rcases (h3 e).1 he with rfl | h4
 ·exact hx
 ·exact h.rg e h4
structure FD (n : Int) (k : Nat) (f : Frm) : Prop where
 pn : f.g.n = n
 pl : (f.places.length : Int) = n
 on : ∀ e ∈ f.places, onGrid e = true
 len : f.g.bars.length ≤ k
 sub : ∀ e ∈ f.g.bars, 0 ≤ e.1 ∧ e.1 < n ∧ 0 ≤ e.2 ∧ e.2 < n
theorem of_d (hN : 4000000 ≤ N) {c : Cur} (hc : CK c) {g : Grf} {k : Nat} (hk : k ≤ 999) (hn : 0 ≤ g.n ∧ g.n ≤ 64) (hg : GD g.n k g) : Ok (S_l10Of N c g) fun r => FD g.n k r.1 ∧ 0 ≤ r.2.1 := by
 unfold S_l10Of
 have hl := hg.len
 have bars : ∀ (ps : List (Int × Int)) (ci ch : Int), (ps.length : Int) = g.n → (∀ e ∈ ps, onGrid e = true) → 0 ≤ ci → ∀ (fuel i : Nat) (l : List (Int × Int)), i ≤ g.bars.length → g.bars.length < fuel + i → l.length ≤ i → (∀ e ∈ l, e ∈ g.bars) →
   Ok (S_l10Of_l1 N g ps (fun (l22 : List (Int × Int)) => some ((⟨⟨g.n, l22⟩, ps⟩ : Frm), ci, ch)) fuel (l, (i : Int))) fun r => FD g.n k r.1 ∧ 0 ≤ r.2.1 := by
  intro ps ci ch hp1 hp2 hci fuel
  induction fuel with
  | zero => intro i l h1 h2; omega
  | succ fuel ih =>
   intro i l h1 h2 h3 h4
   rw [S_l10Of_l1]
   have e2 : ((i : Int)).toNat = i := rfl
   rw [e2]
   refine ok_cnd (fun c1 => ?_) (fun c1 => ok_some ⟨⟨rfl, hp1, hp2, by simp only; omega, fun e he => hg.rg e (h4 e he)⟩, hci⟩)
   rw [decide_eq_true_eq] at c1
   have hin := getD_in (l := g.bars) (i := i) (d := (0, 0)) (by omega)
   obtain ⟨b1, b2, b3, b4⟩ := hg.rg _ hin
   have hx : ∀ e ∈ l ++ [((g.bars.getD i (0, 0)).1, (g.bars.getD i (0, 0)).2)], e ∈ g.bars := fun e he => by
    rcases List.mem_append.1 he with he | he
    ·exact h4 e he
    ·simp only [List.mem_singleton] at he; rw [he]; exact hin
   refine ok_grd ⟨by omega, by omega⟩ (ok_grd ⟨b1, by omega⟩ (ok_grd ⟨b3, by omega⟩ ?_))
   refine ok_cnd (fun c2 => ?_) (fun c2 => ok_grd ⟨by omega, by omega⟩ (ih (i + 1) l (by omega) (by omega) (by omega) h4))
   refine ok_cnd (fun c3 => ?_) (fun c3 => ?_)
   ·exact ok_grd (by omega) (ok_grd ⟨by omega, by omega⟩ (ih (i + 1) _ (by omega) (by omega) (by simp; omega) hx))
   ·have c3 : ¬ (i : Int) = 0 := by simpa using c3
    refine ok_grd ⟨by omega, by omega⟩ (ok_grd ⟨by omega, by omega⟩ ?_)
    refine ok_cnd (fun c4 => ?_) (fun c4 => ?_)
    ·exact ok_grd (by omega) (ok_grd ⟨by omega, by omega⟩ (ih (i + 1) _ (by omega) (by omega) (by simp; omega) hx))
    ·exact ok_grd ⟨by omega, by omega⟩ (ih (i + 1) l (by omega) (by omega) (by omega) h4)
 have key : ∀ (fuel i : Nat) (l : List (Int × Int)) (ci ch : Int), (i : Int) ≤ g.n → g.n < fuel + i → l.length = i → (∀ e ∈ l, onGrid e = true) → 0 ≤ ci →
   Ok (S_l10Of_l2 N c g (fun (x : (List (Int × Int)) × Int × Int) =>
   match x with
   | (l16, c17, c18) =>
    S_l10Of_l1 N g l16 (fun (l22 : List (Int × Int)) =>
       some ((⟨⟨g.n, l22⟩, l16⟩ : Frm), c17, c18)) N (([] : List (Int × Int)), (0 : Int))) fuel (l, (i : Int), ci, ch)) fun r => FD g.n k r.1 ∧ 0 ≤ r.2.1 := by
  intro fuel
  induction fuel with
  | zero => intro i l ci ch h1 h2; omega
  | succ fuel ih =>
   intro i l ci ch h1 h2 h3 h4 h5
   rw [S_l10Of_l2]
   refine ok_cnd (fun c1 => ?_) (fun c1 => ?_)
   ·rw [decide_eq_true_eq] at c1
    refine ok_bind (below_s (hc.at h5) 5) fun x hx => ok_bind (below_s (hc.at hx.cur) 5) fun y hy => ?_
    have x0 := hx.nn
    have x1 := hx.lt (by omega)
    have y0 := hy.nn
    have y1 := hy.lt (by omega)
    refine ok_grd (by omega) (ok_grd ⟨by omega, by omega⟩ (ih (i + 1) _ _ _ (by omega) (by omega) (by simp; omega) (fun e he => ?_) hy.cur))
    rcases List.mem_append.1 he with he | he
    ·exact h4 e he
    ·simp only [List.mem_singleton] at he; subst he
     simp [onGrid, inB]; omega
   ·rw [decide_eq_false_iff_not] at c1
    exact bars l ci ch (by omega) h4 h5 N 0 [] (by omega) (by omega) (by simp) (by simp)
 exact key N 0 [] _ _ (by omega) (by omega) rfl (by simp) hc.nn
theorem third_d {c : Cur} (hc : CK c) {n w : Int} {x : Int × Int} (hn : 0 < n) (hw : 0 ≤ w ∧ w < n) : Ok (S_l6Third N c n x w) fun r => (0 ≤ r.1 ∧ r.1 < n) ∧ 0 ≤ r.2.1 := by
 unfold S_l6Third
 refine ok_bind (below_s hc n) fun v hv => ?_
 have v0 := hv.nn
 have v1 := hv.lt hn
 exact ok_cnd (fun _ => ok_some ⟨hw, hv.cur⟩) fun _ => ok_cnd (fun _ => ok_some ⟨hw, hv.cur⟩) fun _ => ok_some ⟨⟨v0, v1⟩, hv.cur⟩
theorem laman_d (hN : 4000000 ≤ N) {c : Cur} (hc : CK c) {n : Int} (hn : 0 ≤ n ∧ n ≤ 8) : Ok (S_l6Laman N c n) fun r => GD n 40 r.1 ∧ r.1.n = n ∧ 0 ≤ r.2.1 ∧ (2 ≤ n → 0 < r.1.bars.length) := by
 unfold S_l6Laman
 refine ok_cnd (fun c1 => ok_some ⟨⟨by simp, by simp⟩, rfl, hc.nn, fun h => by rw [decide_eq_true_eq] at c1; omega⟩) (fun c1 => ?_)
 rw [decide_eq_false_iff_not] at c1
 have key : ∀ (fuel : Nat) (l : List (Int × Int)) (v ci ch : Int), GD n (3 * v.toNat) ⟨n, l⟩ → 0 < l.length → 2 ≤ v → v ≤ n → 0 ≤ ci → 9 < fuel + v → Ok (S_l6Laman_l1 N c n (fun (x : (List (Int × Int)) × Int × Int × Int) =>
    match x with
    | (l58, c59, c60, c61) =>
     some ((⟨c61, l58⟩ : Grf), c59, c60)) fuel (l, v, ci, ch, n)) fun r => GD n 40 r.1 ∧ r.1.n = n ∧ 0 ≤ r.2.1 ∧ (2 ≤ n → 0 < r.1.bars.length) := by
  intro fuel
  induction fuel with
  | zero => intro l v ci ch h1 h2 h3 h4 h5 h6; omega
  | succ fuel ih =>
   intro l v ci ch hg hl hv2 hvn hci hf
   have hgl := hg.len
   rw [S_l6Laman_l1]
   refine ok_cnd (fun c1 => ?_) (fun c1 => ok_some ⟨⟨by simp only at hgl ⊢; omega, hg.rg⟩, rfl, hci, fun _ => hl⟩)
   rw [decide_eq_true_eq] at c1
   refine ok_bind (below_s (hc.at hci) v) fun x hx => ?_
   have x0 := hx.nn
   have x1 := hx.lt (by omega)
   refine ok_grd ⟨by omega, by omega⟩ (ok_grd ⟨by omega, by omega⟩ ?_)
   refine ok_bind (below_s (hc.at hx.cur) (v - 1)) fun y hy => ?_
   have y0 := hy.nn
   have y1 := hy.lt (by omega)
   refine ok_grd ⟨by omega, by omega⟩ (ok_grd (by omega) ?_)
   refine ok_bind (once_s (hc.at hy.cur) 2) fun o ho => ?_
   have tm : 0 ≤ Int.tmod (x.1 + 1 + y.1) v ∧ Int.tmod (x.1 + 1 + y.1) v < v := ⟨Int.tmod_nonneg v (by omega), Int.tmod_lt_of_pos _ (by omega)⟩
   have two : Ok ((S_l2Put N (⟨n, l⟩ : Grf) (x.1, v)).bind fun v115 =>
     (S_l2Put N v115 ((Int.tmod ((x.1 + (1 : Int)) + y.1) v), v)).bind fun v116 =>
     grd (Rg64 (v + (1 : Int))) <|
     S_l6Laman_l1 N c n (fun (x : (List (Int × Int)) × Int × Int × Int) =>
    match x with
    | (l58, c59, c60, c61) =>
     some ((⟨c61, l58⟩ : Grf), c59, c60)) fuel (v116.bars, (v + (1 : Int)), o.2.1, o.2.2, v116.n)) fun r => GD n 40 r.1 ∧ r.1.n = n ∧ 0 ≤ r.2.1 ∧ (2 ≤ n → 0 < r.1.bars.length) := by
    refine ok_bind (put_dl hN hg (by omega) ⟨x0, by omega, by omega, by omega⟩) fun g1 k1 => ?_
    refine ok_bind (put_dl hN k1.1 (by omega) ⟨tm.1, by omega, by omega, by omega⟩) fun g2 k2 => ?_
    have en : g2.n = n := by rw [k2.2.1, k1.2.1]
    refine ok_grd ⟨by omega, by omega⟩ ?_
    rw [en]
    exact ih _ _ _ _ ⟨by have := k2.1.len; simp only; omega, k2.1.rg⟩ k2.2.2 (by omega) (by omega) ho (by omega)
   refine ok_cnd (fun c2 => ?_) (fun c2 => two)
   refine ok_cnd (fun c3 => ?_) (fun c3 => two)
   rw [decide_eq_true_eq] at c3
   refine ok_bind (below_s (hc.at ho) (l.length : Int)) fun z hz => ?_
   have z0 := hz.nn
   have z1 := hz.lt (by omega)
   have hin := getD_in (l := l) (i := z.1.toNat) (d := (0, 0)) (by omega)
   refine ok_grd ⟨z0, z1⟩ ?_
   generalize he : l.getD z.1.toNat (0, 0) = e at hin
   obtain ⟨e1, e2, e3, e4⟩ := hg.rg e hin
   have loop : ∀ (fuel' : Nat) (w : Int), 0 ≤ w → w ≤ 2 → (w = 2 → (e.1 = 0 ∧ e.2 = 1) ∨ (e.1 = 1 ∧ e.2 = 0)) → (w = 1 → e.1 = 0 ∨ e.2 = 0) → 3 < fuel' + w → Ok (S_l6Laman_l2 N l z (fun (w107 : Int) =>
        (S_l6Third N (⟨c.b, z.2.1, z.2.2⟩ : Cur) v (e.1, e.2) w107).bind fun v108 =>
        (S_RemoveBar N (⟨n, l⟩ : Grf) z.1).bind fun v109 =>
        (S_l2Put N v109.1 (e.1, v)).bind fun v110 =>
        (S_l2Put N v110 (e.2, v)).bind fun v111 =>
        (S_l2Put N v111 (v108.1, v)).bind fun v112 =>
        grd (Rg64 (v + (1 : Int))) <|
        S_l6Laman_l1 N c n (fun (x : (List (Int × Int)) × Int × Int × Int) =>
    match x with
    | (l58, c59, c60, c61) =>
     some ((⟨c61, l58⟩ : Grf), c59, c60)) fuel (v112.bars, (v + (1 : Int)), v108.2.1, v108.2.2, v112.n)) fuel' w) fun r => GD n 40 r.1 ∧ r.1.n = n ∧ 0 ≤ r.2.1 ∧ (2 ≤ n → 0 < r.1.bars.length) := by
    intro fuel'
    induction fuel' with
    | zero => intro w h1 h2 h3 h4 h5; omega
    | succ fuel' ih' =>
     intro w h1 h2 h3 h4 h5
     rw [S_l6Laman_l2, he]
     refine ok_cnd (fun d1 => ?_) (fun d1 => ?_)
     ·have d1 : w = e.1 := by simpa using d1
      exact ok_grd ⟨by omega, by omega⟩ (ih' (w + 1) (by omega) (by omega) (by omega) (by omega) (by omega))
     refine ok_cnd (fun d2 => ?_) (fun d2 => ?_)
     ·have d2 : w = e.2 := by simpa using d2
      exact ok_grd ⟨by omega, by omega⟩ (ih' (w + 1) (by omega) (by omega) (by omega) (by omega) (by omega))
     refine ok_bind (third_d (hc.at hz.cur) (by omega) ⟨h1, by omega⟩) fun t ht => ?_
     refine ok_bind (remove_d hN hg (by omega) z.1) fun g0 k0 => ?_
     refine ok_bind (put_dl hN k0.1 (by omega) ⟨e1, e2, by omega, by omega⟩) fun g1 k1 => ?_
     refine ok_bind (put_dl hN k1.1 (by omega) ⟨e3, e4, by omega, by omega⟩) fun g2 k2 => ?_
     refine ok_bind (put_dl hN k2.1 (by omega) ⟨ht.1.1, by omega, by omega, by omega⟩) fun g3 k3 => ?_
     have en : g3.n = n := by rw [k3.2.1, k2.2.1, k1.2.1, k0.2]
     refine ok_grd ⟨by omega, by omega⟩ ?_
     rw [en]
     exact ih _ _ _ _ ⟨by have := k3.1.len; simp only; omega, k3.1.rg⟩ k3.2.2 (by omega) (by omega) ht.2 (by omega)
   exact loop N 0 (by omega) (by omega) (by omega) (by omega) (by omega)
 have hg0 : GD n 5 ⟨n, ([] : List (Int × Int))⟩ := ⟨by simp, by simp⟩
 refine ok_bind (put_dl hN hg0 (by omega) (x := (0, 1)) ⟨by simp, by simp only; omega, by simp, by simp only; omega⟩) fun g k => ?_
 rw [k.2.1]
 exact key N _ _ _ _ ⟨by have := k.1.len; simp only; omega, k.1.rg⟩ k.2.2 (by omega) (by omega) hc.nn (by omega)
end Go.Proofs.Ytcljhpldfanhkaa
namespace Go.Proofs.Ytcljhpldfanhkaa
open Go.RowKit
variable {N : Nat}
theorem pAll_at : ∀ {fr : List Int} {a p : List (Int × Int)} {j : Nat}, (∀ v ∈ fr, v.toNat ≠ j) → p ∈ pAll a fr → p.getD j (0, 0) = a.getD j (0, 0)
 | [], a, p, j, _, h => by simp [pAll] at h; rw [h]
 | v :: fr, a, p, j, hj, h => by
  unfold pAll at h
  simp only [List.mem_flatMap] at h
  obtain ⟨y, _, x, _, h⟩ := h
  rw [pAll_at (fun u hu => hj u (by simp [hu])) h]
  have := hj v (by simp)
  simp only [List.getD_eq_getElem?_getD, List.getElem?_set, if_neg this]
theorem pAll_nodup : ∀ {fr : List Int} {a : List (Int × Int)}, (fr.map Int.toNat).Nodup → (∀ v ∈ fr, v.toNat < a.length) → (pAll a fr).Nodup
 | [], a, _, _ => by simp [pAll]
 | v :: fr, a, hd, hr => by
  unfold pAll
  rw [List.map_cons, List.nodup_cons] at hd
  have hv := hr v (by simp)
  have hne : ∀ u ∈ fr, u.toNat ≠ v.toNat := fun u hu e => hd.1 (by rw [← e]; exact List.mem_map.2 ⟨u, hu, rfl⟩)
  have hat : ∀ (x y : Nat) (p : List (Int × Int)), p ∈ pAll (a.set v.toNat ((x : Int), (y : Int))) fr → p.getD v.toNat (0, 0) = ((x : Int), (y : Int)) := fun x y p hp => by
   rw [pAll_at hne hp]
   simp [List.getD_eq_getElem?_getD, hv]
  refine List.pairwise_flatMap.2 ⟨fun y _ => List.pairwise_flatMap.2 ⟨fun x _ => pAll_nodup hd.2 fun u hu => by rw [List.length_set]; exact hr u (by simp [hu]), ?_⟩, ?_⟩
  ·refine List.nodup_range.imp fun {x x'} hx p hp q hq e => hx ?_
   have h1 := hat _ _ _ hp
   have h2 := hat _ _ _ hq
   rw [e, h2] at h1
   have := congrArg Prod.fst h1
   simp only at this; omega
  ·refine List.nodup_range.imp fun {y y'} hy p hp q hq e => hy ?_
   obtain ⟨x, _, hp⟩ := List.mem_flatMap.1 hp
   obtain ⟨x', _, hq⟩ := List.mem_flatMap.1 hq
   have h1 := hat _ _ _ hp
   have h2 := hat _ _ _ hq
   rw [e, h2] at h1
   have := congrArg Prod.snd h1
   simp only at this; omega
theorem pAll_own : ∀ {fr : List Int} {a : List (Int × Int)}, (∀ v ∈ fr, v.toNat < a.length ∧ onGrid (a.getD v.toNat (0, 0)) = true) → a ∈ pAll a fr
 | [], a, _ => by simp [pAll]
 | v :: fr, a, h => by
  obtain ⟨h1, h2⟩ := h v (by simp)
  obtain ⟨b1, b2, b3, b4⟩ := onGrid_bd h2
  unfold pAll
  refine List.mem_flatMap.2 ⟨(a.getD v.toNat (0, 0)).2.toNat, List.mem_range.2 (by omega), List.mem_flatMap.2 ⟨(a.getD v.toNat (0, 0)).1.toNat, List.mem_range.2 (by omega), ?_⟩⟩
  have e : a.set v.toNat ((((a.getD v.toNat (0, 0)).1.toNat : Nat) : Int), (((a.getD v.toNat (0, 0)).2.toNat : Nat) : Int)) = a := by
   have e1 : ((((a.getD v.toNat (0, 0)).1.toNat : Nat) : Int), (((a.getD v.toNat (0, 0)).2.toNat : Nat) : Int)) = a.getD v.toNat (0, 0) := Prod.ext (by simp only; omega) (by simp only; omega)
   rw [e1, List.getD_eq_getElem?_getD, List.getElem?_eq_getElem h1]
   exact List.set_getElem_self h1
  rw [e]
  exact pAll_own fun u hu => h u (by simp [hu])
theorem posesL_nodup (l : Lnk) : (posesL l).Nodup := by
 unfold posesL
 cases h : isLk l with
 | false => simp [cnd]
 | true =>
  rw [cnd_true]
  obtain ⟨h1, h2, h3⟩ := free_facts h
  refine List.Pairwise.filter _ (pAll_nodup ?_ fun v hv => by have := h3 v hv; omega)
  have hcv : ∀ {L : List Int}, L.Nodup → (∀ v ∈ L, 0 ≤ v) → (L.map Int.toNat).Nodup := fun {L} hd hp => by
   refine List.pairwise_map.2 (List.Pairwise.imp_of_mem (fun {a b} ha hb hne e => hne (by have := hp a ha; have := hp b hb; omega)) hd)
  exact hcv h2 fun v hv => (h3 v hv).1
theorem own_pose {l : Lnk} (h : isLk l = true) : l.f.places ∈ posesL l := by
 obtain ⟨hf, _, _, _⟩ := isLk_parts h
 obtain ⟨_, _, _, _, h5, _⟩ := isFr_parts hf
 obtain ⟨_, _, h3⟩ := free_facts h
 unfold posesL
 rw [h, cnd_true]
 refine List.mem_filter.2 ⟨pAll_own fun v hv => ?_, ?_⟩
 ·have hv3 := h3 v hv
  exact ⟨by omega, h5 _ (by omega)⟩
 ·unfold isPs
  simp only [h, decide_true, Bool.true_and, Bool.and_eq_true, List.all_eq_true, List.mem_range]
  refine ⟨fun v hv => ?_, fun i hi => by simp [barAtP]⟩
  have := h5 v hv
  unfold gridAt at this
  unfold poseAt
  rw [this]; simp
theorem idxP_mem {P : List (List (Int × Int))} {p : List (Int × Int)} : ∀ (f i : Nat), P.length < f + i → (∃ j, i ≤ j ∧ j < P.length ∧ P.getD j [] = p) → ∃ j : Nat, idxP P p f i = (j : Int) ∧ j < P.length ∧ P.getD j [] = p
 | 0, i, h, ⟨j, h1, h2, _⟩ => by omega
 | f + 1, i, h, ⟨j, h1, h2, h3⟩ => by
  rw [idxP, cnd_dt (by omega)]
  by_cases e : P.getD i [] = p
  ·rw [cnd_dt e]; exact ⟨i, rfl, by omega, e⟩
  ·rw [cnd_df e]
   exact idxP_mem f (i + 1) (by omega) ⟨j, by by_cases e2 : i = j; · rw [e2] at e; exact absurd h3 e
                                              ·omega, h2, h3⟩
theorem idxP_at {P : List (List (Int × Int))} (hd : P.Nodup) {i : Nat} (hi : i < P.length) : idxP P (P.getD i []) (P.length + 1) 0 = (i : Int) := by
 obtain ⟨j, h1, h2, h3⟩ := idxP_mem (P := P) (p := P.getD i []) (P.length + 1) 0 (by omega) ⟨i, by omega, hi, rfl⟩
 rw [h1]
 have : j = i := by
  simp only [List.getD_eq_getElem?_getD, hi, h2, List.getElem?_eq_getElem, Option.getD_some] at h3
  exact (List.getElem_inj hd).1 h3
 rw [this]
structure LD (l : Lnk) : Prop where
 pl : l.f.places.length ≤ 8
 bl : l.f.g.bars.length ≤ 50
 gl : l.ground.length ≤ 8
theorem link_d (hN : 4000000 ≤ N) {c : Cur} (hc : CK c) : Ok (S_l24Linkage N c) fun r => (r.1.f.places.length ≤ 4 ∧ r.1.f.g.bars.length ≤ 41 ∧ r.1.ground.length ≤ 4) ∧ 0 ≤ r.2.1 := by
 unfold S_l24Linkage
 refine ok_bind (below_s hc 3) fun v1 h1 => ?_
 have b0 := h1.nn
 have b1 := h1.lt (by omega)
 refine ok_grd ⟨by omega, by omega⟩ ?_
 refine ok_bind (below_s (hc.at h1.cur) 3) fun v2 h2 => ?_
 have pw : ∀ x : Int, 0 ≤ x → x ≤ 4 → 0 ≤ (2 : Int) ^ x.toNat ∧ (2 : Int) ^ x.toNat ≤ 16 := fun x h1 h2 => by
  have : x.toNat = 0 ∨ x.toNat = 1 ∨ x.toNat = 2 ∨ x.toNat = 3 ∨ x.toNat = 4 := by omega
  rcases this with e | e | e | e | e <;> rw [e] <;> decide
 have tail : ∀ {g : Grf} {c : Cur} (hc : CK c), GD (2 + v1.1) 40 g → g.n = 2 + v1.1 → Ok ((S_l10Of N c (⟨g.n, g.bars⟩ : Grf)).bind fun v4 =>
  grd (Rg64 (((2 : Int) + v1.1) - (1 : Int))) <|
  grd (Rg64 (((2 : Int) + v1.1) - (min (2 : Int) (((2 : Int) + v1.1) - (1 : Int))))) <|
  grd (0 ≤ (((2 : Int) + v1.1) - (min (2 : Int) (((2 : Int) + v1.1) - (1 : Int)))) ∧ (((2 : Int) + v1.1) - (min (2 : Int) (((2 : Int) + v1.1) - (1 : Int)))) < 64 ∧ Rg64 ((1 : Int) * 2 ^ (((((2 : Int) + v1.1) - (min (2 : Int) (((2 : Int) + v1.1) - (1 : Int))))).toNat))) <|
  grd (Rg64 (((1 : Int) * 2 ^ (((((2 : Int) + v1.1) - (min (2 : Int) (((2 : Int) + v1.1) - (1 : Int))))).toNat)) - (1 : Int))) <|
  (S_l3Set N ((2 : Int) + v1.1) (((1 : Int) * 2 ^ (((((2 : Int) + v1.1) - (min (2 : Int) (((2 : Int) + v1.1) - (1 : Int))))).toNat)) - (1 : Int))).bind fun v5 =>
  some ((⟨⟨⟨v4.1.g.n, v4.1.g.bars⟩, v4.1.places⟩, v5⟩ : Lnk), v4.2.1, v4.2.2)) fun r => (r.1.f.places.length ≤ 4 ∧ r.1.f.g.bars.length ≤ 41 ∧ r.1.ground.length ≤ 4) ∧ 0 ≤ r.2.1 := by
  intro g c hc hg hgn
  refine ok_bind (of_d hN hc (g := ⟨g.n, g.bars⟩) (k := 40) (by omega) ⟨by simp only; omega, by simp only; omega⟩ (by rw [show g.n = 2 + v1.1 from hgn]; exact ⟨hg.len, hg.rg⟩)) fun f hf => ?_
  obtain ⟨hf, hcur⟩ := hf
  have hp := hf.pl
  have hb := hf.len
  simp only at hp
  have q := pw (((2 : Int) + v1.1) - (min (2 : Int) (((2 : Int) + v1.1) - (1 : Int)))) (by omega) (by omega)
  refine ok_grd ⟨by omega, by omega⟩ (ok_grd ⟨by omega, by omega⟩ (ok_grd ⟨by omega, by omega, ⟨by omega, by omega⟩⟩ (ok_grd ⟨by omega, by omega⟩ ?_)))
  rw [setS_s hN (by omega), Option.bind_some]
  refine ok_some ⟨⟨by simp only; omega, by simp only; omega, ?_⟩, hcur⟩
  have := setU_len ((1 : Int) * 2 ^ (((((2 : Int) + v1.1) - (min (2 : Int) (((2 : Int) + v1.1) - (1 : Int))))).toNat) - (1 : Int)) ((2 : Int) + v1.1).toNat
  simp only; omega
 refine ok_cnd (fun c1 => ?_) (fun c1 => ?_)
 ·refine ok_bind (laman_d hN (hc.at h2.cur) ⟨by omega, by omega⟩) fun g hg => ?_
  exact tail (hc.at hg.2.2.1) hg.1 hg.2.1
 refine ok_cnd (fun c1 => ?_) (fun c1 => ?_)
 ·refine ok_bind (laman_d hN (hc.at h2.cur) ⟨by omega, by omega⟩) fun g hg => ?_
  refine ok_bind (below_s (hc.at hg.2.2.1) _) fun x hx => ?_
  refine ok_bind (remove_d hN hg.1 (by omega) x.1) fun g' hg' => ?_
  exact tail (hc.at hx.cur) hg'.1 (by rw [hg'.2]; exact hg.2.1)
 ·refine ok_grd ⟨by omega, by omega⟩ (ok_grd ⟨by omega, by omega⟩ (ok_grd ⟨by omega, by omega, ⟨by decide, by decide⟩⟩ (ok_grd ⟨by decide, by decide⟩ ?_)))
  rw [setS_s hN (by omega), Option.bind_some]
  refine ok_some ⟨⟨by simp, by simp, ?_⟩, h2.cur⟩
  have := setU_len ((1 : Int) * 2 ^ (((4 : Int) - (min (2 : Int) ((4 : Int) - (1 : Int)))).toNat) - (1 : Int)) ((4 : Int)).toNat
  have e : ((4 : Int)).toNat = 4 := rfl
  simp only; omega
theorem any24_d (hN : 4000000 ≤ N) {c : Cur} (hc : CK c) : Ok (S_l24Any N c) fun r => LD r.1 ∧ 0 ≤ r.2.1 := by
 unfold S_l24Any
 refine ok_bind (link_d hN hc) fun v1 h1 => ?_
 obtain ⟨⟨a, b, d⟩, hcur⟩ := h1
 refine ok_bind (below_s (hc.at hcur) 14) fun v2 h2 => ?_
 refine ok_cnd (fun _ => ok_some ⟨⟨by simp only; omega, by simp only; omega, by simp⟩, h2.cur⟩) fun _ => ok_cnd (fun _ => ok_grd (by omega) (ok_some ⟨⟨by simp only; omega, by simp only; omega, by simp; omega⟩, h2.cur⟩)) fun _ => ok_some ⟨⟨by simp only; omega, by simp only; omega, by simp only; omega⟩, h2.cur⟩
theorem drawPoses_d (hN : 4000000 ≤ N) {code : List Int} (hb : Byt code) (hl : code.length ≤ 1048576) : Ok (S_DrawPosesOf N code) LD := by
 unfold S_DrawPosesOf
 exact ok_bind (new_s hN hb hl) fun c hc => ok_bind (any24_d hN hc.1) fun r hr => ok_some ⟨hr.1.pl, hr.1.bl, hr.1.gl⟩
theorem drawIsPose_d (hN : 4000000 ≤ N) {code : List Int} (hb : Byt code) (hl : code.length ≤ 1048576) : Ok (S_DrawIsPose N code) fun r => LD r.1 ∧ r.2.length ≤ 64 := by
 unfold S_DrawIsPose
 refine ok_bind (new_s hN hb hl) fun c hc => ok_bind (any24_d hN hc.1) fun r hr => ?_
 obtain ⟨⟨h1, h2, h3⟩, hcur⟩ := hr
 rw [posesS_s hN (by omega) (by omega), Option.bind_some]
 have hpl := posesL_len r.1
 have tail : ∀ {c : Cur} (hc : CK c), Ok ((S_l10Of N c (⟨(max (1 : Int) (r.1.f.places.length : Int)), ([] : List (Int × Int))⟩ : Grf)).bind fun v6 =>
   some ((⟨⟨⟨r.1.f.g.n, r.1.f.g.bars⟩, r.1.f.places⟩, r.1.ground⟩ : Lnk), v6.1.places)) fun r => LD r.1 ∧ r.2.length ≤ 64 := by
  intro c hc
  refine ok_bind (of_d hN hc (k := 0) (by omega) ⟨by simp only; omega, by simp only; omega⟩ ⟨by simp, by simp⟩) fun f hf => ok_some ⟨⟨h1, h2, h3⟩, ?_⟩
  have := hf.1.pl
  simp only at this ⊢
  omega
 refine ok_cnd (fun c1 => ?_) (fun c1 => tail (hc.1.at hcur))
 rw [decide_eq_true_eq] at c1
 simp only at c1
 refine ok_bind (once_s (hc.1.at hcur) 3) fun o ho => ?_
 refine ok_cnd (fun c2 => ?_) (fun c2 => tail (hc.1.at ho))
 refine ok_bind (below_s (hc.1.at ho) _) fun x hx => ?_
 have x0 := hx.nn
 have x1 := hx.lt (by omega)
 simp only at x1
 refine ok_grd ⟨x0, by simp only; omega⟩ (ok_some ⟨⟨h1, h2, h3⟩, ?_⟩)
 have := (posesL_mem (getD_in (l := posesL r.1) (i := x.1.toNat) (d := []) (by omega))).1
 simp only; omega
theorem drawIndex_d (hN : 4000000 ≤ N) {code : List Int} (hb : Byt code) (hl : code.length ≤ 1048576) : Ok (S_DrawIndexOfPose N code) fun r => r.1.length ≤ 625 ∧ (∀ x ∈ r.1, x.length ≤ 64) ∧ r.2.length ≤ 64 := by
 unfold S_DrawIndexOfPose
 refine ok_bind (drawIsPose_d hN hb hl) fun r hr => ?_
 obtain ⟨⟨h1, h2, h3⟩, h4⟩ := hr
 rw [posesS_s hN (by omega) (by omega), Option.bind_some]
 refine ok_some ⟨posesL_len _, fun x hx => ?_, h4⟩
 have := (posesL_mem hx).1
 omega
end Go.Proofs.Ytcljhpldfanhkaa
namespace Go.Proofs.Ytcljhpldfanhkaa
open Go.RowKit
def I_RigidityMatrix_l1 (N : Nat) (f_0 : Frm) (k : (List (List Int)) → Option (List (List Int))) : Nat → ((List (List Int)) × Int) → Option (List (List Int))
 | 0, _ => none
 | n + 1, (l6, x7) =>
  cnd (decide (x7 < (f_0.g.bars.length : Int))) (
   grd (0 ≤ x7 ∧ x7 < (f_0.g.bars.length : Int)) <|
   grd (Rg64 ((2 : Int) * f_0.g.n)) <|
   grd (0 ≤ ((2 : Int) * f_0.g.n) ∧ ((2 : Int) * f_0.g.n) ≤ 4294967296) <|
   grd (0 ≤ ((f_0.g.bars.getD ((x7).toNat) (0, 0)).1) ∧ ((f_0.g.bars.getD ((x7).toNat) (0, 0)).1) < (f_0.places.length : Int)) <|
   grd (0 ≤ ((f_0.g.bars.getD ((x7).toNat) (0, 0)).2) ∧ ((f_0.g.bars.getD ((x7).toNat) (0, 0)).2) < (f_0.places.length : Int)) <|
   grd (Rg64 ((2 : Int) * ((f_0.g.bars.getD ((x7).toNat) (0, 0)).1))) <|
   grd (Rg64 (((2 : Int) * ((f_0.g.bars.getD ((x7).toNat) (0, 0)).1)) + (1 : Int))) <|
   grd (Rg64 (((f_0.places.getD (((f_0.g.bars.getD ((x7).toNat) (0, 0)).1).toNat) (0, 0)).1) - ((f_0.places.getD (((f_0.g.bars.getD ((x7).toNat) (0, 0)).2).toNat) (0, 0)).1))) <|
   grd (Rg64 (((f_0.places.getD (((f_0.g.bars.getD ((x7).toNat) (0, 0)).1).toNat) (0, 0)).2) - ((f_0.places.getD (((f_0.g.bars.getD ((x7).toNat) (0, 0)).2).toNat) (0, 0)).2))) <|
   grd (0 ≤ ((2 : Int) * ((f_0.g.bars.getD ((x7).toNat) (0, 0)).1)) ∧ ((2 : Int) * ((f_0.g.bars.getD ((x7).toNat) (0, 0)).1)) < ((List.replicate ((((2 : Int) * f_0.g.n)).toNat) (0 : Int)).length : Int)) <|
   grd (0 ≤ (((2 : Int) * ((f_0.g.bars.getD ((x7).toNat) (0, 0)).1)) + (1 : Int)) ∧ (((2 : Int) * ((f_0.g.bars.getD ((x7).toNat) (0, 0)).1)) + (1 : Int)) < ((List.replicate ((((2 : Int) * f_0.g.n)).toNat) (0 : Int)).length : Int)) <|
   grd (0 ≤ (((2 : Int) * ((f_0.g.bars.getD ((x7).toNat) (0, 0)).1)) + (1 : Int)) ∧ (((2 : Int) * ((f_0.g.bars.getD ((x7).toNat) (0, 0)).1)) + (1 : Int)) < (((List.replicate ((((2 : Int) * f_0.g.n)).toNat) (0 : Int)).set ((((2 : Int) * ((f_0.g.bars.getD ((x7).toNat) (0, 0)).1))).toNat) (((f_0.places.getD (((f_0.g.bars.getD ((x7).toNat) (0, 0)).1).toNat) (0, 0)).1) - ((f_0.places.getD (((f_0.g.bars.getD ((x7).toNat) (0, 0)).2).toNat) (0, 0)).1))).length : Int)) <|
   grd (Rg64 ((2 : Int) * ((f_0.g.bars.getD ((x7).toNat) (0, 0)).2))) <|
   grd (Rg64 (((2 : Int) * ((f_0.g.bars.getD ((x7).toNat) (0, 0)).2)) + (1 : Int))) <|
   grd (Rg64 (((f_0.places.getD (((f_0.g.bars.getD ((x7).toNat) (0, 0)).2).toNat) (0, 0)).1) - ((f_0.places.getD (((f_0.g.bars.getD ((x7).toNat) (0, 0)).1).toNat) (0, 0)).1))) <|
   grd (Rg64 (((f_0.places.getD (((f_0.g.bars.getD ((x7).toNat) (0, 0)).2).toNat) (0, 0)).2) - ((f_0.places.getD (((f_0.g.bars.getD ((x7).toNat) (0, 0)).1).toNat) (0, 0)).2))) <|
   grd (0 ≤ ((2 : Int) * ((f_0.g.bars.getD ((x7).toNat) (0, 0)).2)) ∧ ((2 : Int) * ((f_0.g.bars.getD ((x7).toNat) (0, 0)).2)) < ((List.replicate ((((2 : Int) * f_0.g.n)).toNat) (0 : Int)).length : Int)) <|
   grd (0 ≤ ((2 : Int) * ((f_0.g.bars.getD ((x7).toNat) (0, 0)).2)) ∧ ((2 : Int) * ((f_0.g.bars.getD ((x7).toNat) (0, 0)).2)) < ((((List.replicate ((((2 : Int) * f_0.g.n)).toNat) (0 : Int)).set ((((2 : Int) * ((f_0.g.bars.getD ((x7).toNat) (0, 0)).1))).toNat) (((f_0.places.getD (((f_0.g.bars.getD ((x7).toNat) (0, 0)).1).toNat) (0, 0)).1) - ((f_0.places.getD (((f_0.g.bars.getD ((x7).toNat) (0, 0)).2).toNat) (0, 0)).1))).set (((((2 : Int) * ((f_0.g.bars.getD ((x7).toNat) (0, 0)).1)) + (1 : Int))).toNat) (((f_0.places.getD (((f_0.g.bars.getD ((x7).toNat) (0, 0)).1).toNat) (0, 0)).2) - ((f_0.places.getD (((f_0.g.bars.getD ((x7).toNat) (0, 0)).2).toNat) (0, 0)).2))).length : Int)) <|
   grd (0 ≤ (((2 : Int) * ((f_0.g.bars.getD ((x7).toNat) (0, 0)).2)) + (1 : Int)) ∧ (((2 : Int) * ((f_0.g.bars.getD ((x7).toNat) (0, 0)).2)) + (1 : Int)) < ((List.replicate ((((2 : Int) * f_0.g.n)).toNat) (0 : Int)).length : Int)) <|
   grd (0 ≤ (((2 : Int) * ((f_0.g.bars.getD ((x7).toNat) (0, 0)).2)) + (1 : Int)) ∧ (((2 : Int) * ((f_0.g.bars.getD ((x7).toNat) (0, 0)).2)) + (1 : Int)) < (((((List.replicate ((((2 : Int) * f_0.g.n)).toNat) (0 : Int)).set ((((2 : Int) * ((f_0.g.bars.getD ((x7).toNat) (0, 0)).1))).toNat) (((f_0.places.getD (((f_0.g.bars.getD ((x7).toNat) (0, 0)).1).toNat) (0, 0)).1) - ((f_0.places.getD (((f_0.g.bars.getD ((x7).toNat) (0, 0)).2).toNat) (0, 0)).1))).set (((((2 : Int) * ((f_0.g.bars.getD ((x7).toNat) (0, 0)).1)) + (1 : Int))).toNat) (((f_0.places.getD (((f_0.g.bars.getD ((x7).toNat) (0, 0)).1).toNat) (0, 0)).2) - ((f_0.places.getD (((f_0.g.bars.getD ((x7).toNat) (0, 0)).2).toNat) (0, 0)).2))).set ((((2 : Int) * ((f_0.g.bars.getD ((x7).toNat) (0, 0)).2))).toNat) (((f_0.places.getD (((f_0.g.bars.getD ((x7).toNat) (0, 0)).2).toNat) (0, 0)).1) - ((f_0.places.getD (((f_0.g.bars.getD ((x7).toNat) (0, 0)).1).toNat) (0, 0)).1))).length : Int)) <|
   grd ((List.replicate ((((2 : Int) * f_0.g.n)).toNat) (0 : Int)).length = (((((List.replicate ((((2 : Int) * f_0.g.n)).toNat) (0 : Int)).set ((((2 : Int) * ((f_0.g.bars.getD ((x7).toNat) (0, 0)).1))).toNat) (((f_0.places.getD (((f_0.g.bars.getD ((x7).toNat) (0, 0)).1).toNat) (0, 0)).1) - ((f_0.places.getD (((f_0.g.bars.getD ((x7).toNat) (0, 0)).2).toNat) (0, 0)).1))).set (((((2 : Int) * ((f_0.g.bars.getD ((x7).toNat) (0, 0)).1)) + (1 : Int))).toNat) (((f_0.places.getD (((f_0.g.bars.getD ((x7).toNat) (0, 0)).1).toNat) (0, 0)).2) - ((f_0.places.getD (((f_0.g.bars.getD ((x7).toNat) (0, 0)).2).toNat) (0, 0)).2))).set ((((2 : Int) * ((f_0.g.bars.getD ((x7).toNat) (0, 0)).2))).toNat) (((f_0.places.getD (((f_0.g.bars.getD ((x7).toNat) (0, 0)).2).toNat) (0, 0)).1) - ((f_0.places.getD (((f_0.g.bars.getD ((x7).toNat) (0, 0)).1).toNat) (0, 0)).1))).set (((((2 : Int) * ((f_0.g.bars.getD ((x7).toNat) (0, 0)).2)) + (1 : Int))).toNat) (((f_0.places.getD (((f_0.g.bars.getD ((x7).toNat) (0, 0)).2).toNat) (0, 0)).2) - ((f_0.places.getD (((f_0.g.bars.getD ((x7).toNat) (0, 0)).1).toNat) (0, 0)).2))).length) <|
   grd (l6.length + 1 ≤ 4294967296) <|
   grd (Rg64 (x7 + (1 : Int))) <|
   I_RigidityMatrix_l1 N f_0 k n ((l6 ++ ([(((((List.replicate ((((2 : Int) * f_0.g.n)).toNat) (0 : Int)).set ((((2 : Int) * ((f_0.g.bars.getD ((x7).toNat) (0, 0)).1))).toNat) (((f_0.places.getD (((f_0.g.bars.getD ((x7).toNat) (0, 0)).1).toNat) (0, 0)).1) - ((f_0.places.getD (((f_0.g.bars.getD ((x7).toNat) (0, 0)).2).toNat) (0, 0)).1))).set (((((2 : Int) * ((f_0.g.bars.getD ((x7).toNat) (0, 0)).1)) + (1 : Int))).toNat) (((f_0.places.getD (((f_0.g.bars.getD ((x7).toNat) (0, 0)).1).toNat) (0, 0)).2) - ((f_0.places.getD (((f_0.g.bars.getD ((x7).toNat) (0, 0)).2).toNat) (0, 0)).2))).set ((((2 : Int) * ((f_0.g.bars.getD ((x7).toNat) (0, 0)).2))).toNat) (((f_0.places.getD (((f_0.g.bars.getD ((x7).toNat) (0, 0)).2).toNat) (0, 0)).1) - ((f_0.places.getD (((f_0.g.bars.getD ((x7).toNat) (0, 0)).1).toNat) (0, 0)).1))).set (((((2 : Int) * ((f_0.g.bars.getD ((x7).toNat) (0, 0)).2)) + (1 : Int))).toNat) (((f_0.places.getD (((f_0.g.bars.getD ((x7).toNat) (0, 0)).2).toNat) (0, 0)).2) - ((f_0.places.getD (((f_0.g.bars.getD ((x7).toNat) (0, 0)).1).toNat) (0, 0)).2)))] : List (List Int))), (x7 + (1 : Int)))) (
   k l6)
def I_RigidityMatrix (N : Nat) (f_0 : Frm) : Option (List (List Int)) :=
 (I_IsFramework N f_0).bind fun v1 =>
 cnd (!v1) (
  some ([] : List (List Int))) (
  I_RigidityMatrix_l1 N f_0 (fun (l4 : List (List Int)) =>
     some l4) N (([] : List (List Int)), (0 : Int)))
set_option maxRecDepth 20000 in
set_option maxHeartbeats 1600000 in
theorem I_RigidityMatrix_w (N : Nat) (f_0 : Frm) (r : List (List Int)) (h : I_RigidityMatrix N f_0 = some r) : PCall Try.prog 158 [fD f_0] [(27, .intss r)] (.row 0 0 r.length) := by
 unfold I_RigidityMatrix at h
 refine pcall_intro (TT := TT) tt Try.func158 rfl rfl Try.ntmps158 (congrArg Array.toList Try.results158) rfl rfl fun w0 => ?_
 refine vSeq ?_
 refine vRegion ?_
 refine oBox rfl rfl rfl rfl rfl rfl rfl rfl rfl ?_
 refine oVal tt rfl rfl rfl rfl rfl trivial ?_
 refine vNil ?_
 change VC _ _ _ _
 refine vSeq ?_
 refine vRegion ?_
 refine oEmpty tt (wNone rfl) rfl rfl rfl rfl ?_
 refine oVal tt rfl rfl rfl rfl rfl trivial ?_
 refine vNil ?_
 change VC _ _ _ _
 iterate 2 refine vSeq ?_
 refine vRegion ?_
 refine oVal tt rfl rfl rfl rfl rfl trivial ?_
 obtain ⟨v1, hc1, h⟩ := bind_inv h
 refine oCall (I_IsFramework_w N f_0 v1 hc1) rfl rfl rfl rfl rfl rfl rfl rfl ⟨⟨rfl, rfl, rfl, trivial⟩, trivial⟩ ?_
 refine oVal tt rfl rfl rfl rfl rfl trivial ?_
 refine vNil ?_
 change VC _ _ _ _
 refine vCond rfl (fun hb2 => ?_) (fun hb2 => ?_)
 ·replace h := cnd_t hb2 h
  refine vSeq ?_
  refine vRegion ?_
  iterate 2 refine oVal tt rfl rfl rfl rfl rfl trivial ?_
  refine vNil ?_
  change VC _ _ _ _
  refine vNilT 2 9001 27 (.intss []) rfl rfl rfl rfl ?_
  refine vRet ?_
  change ∃ _, _
  cases h
  exact ⟨[9001], _, rfl, ⟨rfl, trivial⟩, rfl, (.eq rfl), rfl⟩
 ·replace h := cnd_f hb2 h
  refine vSkip ?_
  change VC _ _ _ _
  iterate 2 refine vSeq ?_
  refine vRegion ?_
  iterate 5 refine oVal tt rfl rfl rfl rfl rfl trivial ?_
  refine vNil ?_
  change VC _ _ _ _
  refine vJoin (F := fun k => I_RigidityMatrix_l1 N f_0 k) h (α := List (List Int)) (J := fun (l4 : List (List Int)) => (⟨[(3, .row 84 0 l4.length)], [(84, some (27, .intss l4))], []⟩ : PS)) ?_ ?_
  ·rintro l4 h
   show VC _ _ _ (⟨[(3, .row 84 0 l4.length)], [(84, some (27, .intss l4))], []⟩ : PS)
   refine vSeq ?_
   refine vRegion ?_
   iterate 2 refine oVal tt rfl rfl rfl rfl rfl trivial ?_
   refine vNil ?_
   change VC _ _ _ _
   refine vRet ?_
   change ∃ _, _
   cases h
   exact ⟨[84], _, rfl, ⟨rfl, trivial⟩, rfl, (.eq rfl), rfl⟩
  ·intro k h
   refine vBlock ?_
   refine vNilT 3 84 27 (.intss []) rfl rfl rfl rfl ?_
   refine vLoopS (α := (List (List Int)) × Int) (fun | (l6, x7) => (⟨[(1, .ptr 1 0), (3, .row 84 0 l6.length), (16, .ro false (.pairs f_0.g.bars)), (17, .int (f_0.g.bars.length : Int)), (18, .int x7)], [(84, some (27, .intss l6))], [(1, some [.int f_0.g.n, .ro false (.pairs f_0.g.bars), .ro false (.pairs f_0.places)])]⟩ : PS)) (I_RigidityMatrix_l1 N f_0 k) h (En.of ⟨rfl, rfl, rfl, rfl, rfl, trivial⟩ ⟨rfl, trivial⟩ ⟨rfl, trivial⟩) (fun _ => rfl) ?_
   rintro n ⟨l6, x7⟩ h
   rw [I_RigidityMatrix_l1] at h
   show VC _ _ _ (⟨[(1, .ptr 1 0), (3, .row 84 0 l6.length), (16, .ro false (.pairs f_0.g.bars)), (17, .int (f_0.g.bars.length : Int)), (18, .int x7)], [(84, some (27, .intss l6))], [(1, some [.int f_0.g.n, .ro false (.pairs f_0.g.bars), .ro false (.pairs f_0.places)])]⟩ : PS)
   refine vSeq ?_
   refine vRegion ?_
   refine oVal tt rfl rfl rfl rfl rfl trivial ?_
   refine vNil ?_
   change VC _ _ _ _
   refine vSeq ?_
   refine vCond rfl (fun hb3 => ?_) (fun hb3 => ?_)
   ·replace h := cnd_t hb3 h
    refine vSkip ?_
    change VC _ _ _ _
    refine vSeq ?_
    refine vBlock ?_
    refine vSeq ?_
    refine vRegion ?_
    obtain ⟨hg4, h⟩ := grd_inv h
    refine oVal tt rfl rfl rfl rfl rfl hg4 ?_
    refine oVal tt rfl rfl rfl rfl rfl trivial ?_
    refine oAlloc tt rfl rfl rfl rfl rfl rfl rfl rfl rfl ?_
    refine oStore tt rfl rfl rfl rfl rfl rfl rfl rfl rfl rfl rfl ⟨trivial, trivial, trivial⟩ ?_
    refine vNil ?_
    change VC _ _ _ _
    refine vSeq ?_
    refine vRegion ?_
    iterate 3 refine oVal tt rfl rfl rfl rfl rfl trivial ?_
    obtain ⟨hg5, h⟩ := grd_inv h
    refine oVal tt rfl rfl rfl rfl rfl hg5 ?_
    obtain ⟨hg6, h⟩ := grd_inv h
    refine oMake tt rfl rfl rfl rfl rfl rfl rfl rfl rfl rfl rfl hg6 ?_
    refine oVal tt rfl rfl rfl rfl rfl trivial ?_
    refine vNil ?_
    change VC _ _ _ _
    refine vSeq ?_
    refine vRegionN 15 [12, 13, 1140000007] [0, 1, 0, 4, 15, 31, 0, 64, 0, 256, 960, 1984, 0, 0, 12351, 32767] (by kernel_rfl) (by kernel_rfl) (by kernel_rfl) (by kernel_rfl) (by kernel_rfl) rfl (by rfl) ?_
    iterate 4 refine nVal tt rfl (wNone rfl) rfl rfl rfl rfl rfl trivial ?_
    obtain ⟨hg7, h⟩ := grd_inv h
    refine nVal tt rfl (wNone rfl) rfl rfl rfl rfl rfl hg7 ?_
    iterate 5 refine nVal tt rfl (wNone rfl) rfl rfl rfl rfl rfl trivial ?_
    obtain ⟨hg8, h⟩ := grd_inv h
    refine nVal tt rfl (wNone rfl) rfl rfl rfl rfl rfl hg8 ?_
    refine nVal tt rfl (wNone rfl) rfl rfl rfl rfl rfl trivial ?_
    iterate 2 refine nAlloc tt (wNone rfl) rfl rfl rfl rfl rfl rfl rfl rfl rfl rfl ?_
    refine nStoreB tt (wNone rfl) rfl rfl rfl rfl rfl rfl rfl rfl rfl rfl rfl rfl ?_
    refine nNil ?_
    change VO _ _ _ _ _
    refine oStore tt rfl rfl rfl rfl rfl rfl rfl rfl rfl rfl rfl ⟨trivial, trivial, trivial⟩ ?_
    refine vNil ?_
    change VC _ _ _ _
    refine vSeq ?_
    refine vRegionN 21 [1200000026] [0, 0, 2, 6, 0, 0, 32, 96, 224, 0, 512, 0, 2048, 7680, 0, 16384, 0, 65536, 245760, 15887, 540175, 2097151, 4194303] (by kernel_rfl) (by kernel_rfl) (by kernel_rfl) (by kernel_rfl) (by kernel_rfl) rfl (by rfl) ?_
    iterate 3 refine nVal tt rfl (wNone rfl) rfl rfl rfl rfl rfl trivial ?_
    obtain ⟨hg9, h⟩ := grd_inv h
    refine nVal tt rfl (wNone rfl) rfl rfl rfl rfl rfl hg9 ?_
    iterate 3 refine nVal tt rfl (wNone rfl) rfl rfl rfl rfl rfl trivial ?_
    refine nVal tt rfl (wNone rfl) rfl rfl rfl rfl rfl hg9 ?_
    obtain ⟨hg10, h⟩ := grd_inv h
    refine nVal tt rfl (wNone rfl) rfl rfl rfl rfl rfl hg10 ?_
    iterate 4 refine nVal tt rfl (wNone rfl) rfl rfl rfl rfl rfl trivial ?_
    obtain ⟨hg11, h⟩ := grd_inv h
    refine nVal tt rfl (wNone rfl) rfl rfl rfl rfl rfl hg11 ?_
    iterate 4 refine nVal tt rfl (wNone rfl) rfl rfl rfl rfl rfl trivial ?_
    obtain ⟨hg12, h⟩ := grd_inv h
    refine nVal tt rfl (wNone rfl) rfl rfl rfl rfl rfl hg12 ?_
    obtain ⟨hg13, h⟩ := grd_inv h
    refine nVal tt rfl (wNone rfl) rfl rfl rfl rfl rfl hg13 ?_
    refine nStoreR tt (wNone rfl) rfl rfl rfl rfl rfl rfl rfl rfl rfl rfl rfl rfl rfl hg13 ?_
    refine nNil ?_
    change VO _ _ _ _ _
    obtain ⟨hg14, h⟩ := grd_inv h
    refine oVal tt rfl rfl rfl rfl rfl hg14 ?_
    obtain ⟨hg15, h⟩ := grd_inv h
    refine oStore tt rfl rfl rfl rfl rfl rfl rfl rfl rfl rfl ⟨_, _, rfl, hg15.1, hg15.2⟩ ⟨hg15, trivial⟩ ?_
    refine vNil ?_
    change VC _ _ _ _
    refine vSeq ?_
    refine vRegionN 21 [1200000026] [0, 0, 2, 6, 0, 0, 32, 96, 224, 0, 512, 0, 2048, 7680, 0, 16384, 0, 65536, 245760, 15887, 540175, 2097151, 4194303] (by kernel_rfl) (by kernel_rfl) (by kernel_rfl) (by kernel_rfl) (by kernel_rfl) rfl (by rfl) ?_
    iterate 3 refine nVal tt rfl (wNone rfl) rfl rfl rfl rfl rfl trivial ?_
    obtain ⟨hg16, h⟩ := grd_inv h
    refine nVal tt rfl (wNone rfl) rfl rfl rfl rfl rfl hg16 ?_
    iterate 3 refine nVal tt rfl (wNone rfl) rfl rfl rfl rfl rfl trivial ?_
    refine nVal tt rfl (wNone rfl) rfl rfl rfl rfl rfl hg16 ?_
    obtain ⟨hg17, h⟩ := grd_inv h
    refine nVal tt rfl (wNone rfl) rfl rfl rfl rfl rfl hg17 ?_
    iterate 4 refine nVal tt rfl (wNone rfl) rfl rfl rfl rfl rfl trivial ?_
    obtain ⟨hg18, h⟩ := grd_inv h
    refine nVal tt rfl (wNone rfl) rfl rfl rfl rfl rfl hg18 ?_
    iterate 4 refine nVal tt rfl (wNone rfl) rfl rfl rfl rfl rfl trivial ?_
    obtain ⟨hg19, h⟩ := grd_inv h
    refine nVal tt rfl (wNone rfl) rfl rfl rfl rfl rfl hg19 ?_
    obtain ⟨hg20, h⟩ := grd_inv h
    refine nVal tt rfl (wNone rfl) rfl rfl rfl rfl rfl hg20 ?_
    obtain ⟨hg21, h⟩ := grd_inv h
    refine nStoreR tt (wNone rfl) rfl rfl rfl rfl rfl rfl rfl rfl rfl rfl rfl rfl rfl hg21 ?_
    refine nNil ?_
    change VO _ _ _ _ _
    obtain ⟨hg22, h⟩ := grd_inv h
    refine oVal tt rfl rfl rfl rfl rfl hg22 ?_
    obtain ⟨hg23, h⟩ := grd_inv h
    refine oStore tt rfl rfl rfl rfl rfl rfl rfl rfl rfl rfl ⟨_, _, rfl, hg23.1, hg23.2⟩ ⟨hg23, trivial⟩ ?_
    refine vNil ?_
    change VC _ _ _ _
    refine vRegion ?_
    iterate 2 refine oVal tt rfl rfl rfl rfl rfl trivial ?_
    obtain ⟨hg24, h⟩ := grd_inv h
    refine oFreeze (t := 82) rfl rfl rfl hg24 ?_
    refine oBuild tt rfl rfl rfl rfl rfl rfl rfl rfl rfl rfl rfl ?_
    obtain ⟨hg25, h⟩ := grd_inv h
    refine oAppend tt rfl rfl rfl rfl rfl rfl rfl rfl rfl rfl rfl rfl rfl rfl rfl rfl (Nat.le_of_eq (Nat.zero_add _)) hg25 ?_
    refine oVal tt rfl rfl rfl rfl rfl trivial ?_
    refine vNil ?_
    change VC _ _ _ _
    refine vRegion ?_
    obtain ⟨hg26, h⟩ := grd_inv h
    refine oVal tt rfl rfl rfl rfl rfl hg26 ?_
    refine oVal tt rfl rfl rfl rfl rfl trivial ?_
    refine vNil ?_
    change ∃ _, _
    exact ⟨((l6 ++ ([(((((List.replicate ((((2 : Int) * f_0.g.n)).toNat) (0 : Int)).set ((((2 : Int) * ((f_0.g.bars.getD ((x7).toNat) (0, 0)).1))).toNat) (((f_0.places.getD (((f_0.g.bars.getD ((x7).toNat) (0, 0)).1).toNat) (0, 0)).1) - ((f_0.places.getD (((f_0.g.bars.getD ((x7).toNat) (0, 0)).2).toNat) (0, 0)).1))).set (((((2 : Int) * ((f_0.g.bars.getD ((x7).toNat) (0, 0)).1)) + (1 : Int))).toNat) (((f_0.places.getD (((f_0.g.bars.getD ((x7).toNat) (0, 0)).1).toNat) (0, 0)).2) - ((f_0.places.getD (((f_0.g.bars.getD ((x7).toNat) (0, 0)).2).toNat) (0, 0)).2))).set ((((2 : Int) * ((f_0.g.bars.getD ((x7).toNat) (0, 0)).2))).toNat) (((f_0.places.getD (((f_0.g.bars.getD ((x7).toNat) (0, 0)).2).toNat) (0, 0)).1) - ((f_0.places.getD (((f_0.g.bars.getD ((x7).toNat) (0, 0)).1).toNat) (0, 0)).1))).set (((((2 : Int) * ((f_0.g.bars.getD ((x7).toNat) (0, 0)).2)) + (1 : Int))).toNat) (((f_0.places.getD (((f_0.g.bars.getD ((x7).toNat) (0, 0)).2).toNat) (0, 0)).2) - ((f_0.places.getD (((f_0.g.bars.getD ((x7).toNat) (0, 0)).1).toNat) (0, 0)).2)))] : List (List Int))), (x7 + (1 : Int))), (En.of ⟨rfl, rfl, rfl, rfl, rfl, trivial⟩ ⟨rfl, trivial⟩ ⟨rfl, trivial⟩), h⟩
   ·replace h := cnd_f hb3 h
    refine vExit ?_
    change ∃ _, _
    exact ⟨l6, (En.of ⟨rfl, trivial⟩ ⟨rfl, trivial⟩ trivial), h⟩
end Go.Proofs.Ytcljhpldfanhkaa
namespace Go.Proofs.Ytcljhpldfanhkaa
open Go.RowKit Go.Deep
def I_reduced_l3 (N : Nat) (columns_1 : Int) (l288 : List (List Int)) (l289 : List Int) (last290 : Int) (c291 : Int) (p339 : Int) (l368 : List (List Int)) (x369 : Int) (k : (List (List Int)) → Option ((List (List Int)) × (List Int) × Int)) : Nat → ((List (List Int)) × Int) → Option ((List (List Int)) × (List Int) × Int)
 | 0, _ => none
 | n + 1, (l380, x381) =>
  cnd (decide (x381 < columns_1)) (
   grd (0 ≤ x369 ∧ x369 < (l380.length : Int)) <|
   grd (0 ≤ x381 ∧ x381 < ((l380.getD ((x369).toNat) []).length : Int)) <|
   grd (Rg64 (((((l288.set (((l289.length : Int)).toNat) (l288.getD ((p339).toNat) [])).set ((p339).toNat) (l288.getD (((l289.length : Int)).toNat) [])).getD (((l289.length : Int)).toNat) []).getD ((c291).toNat) 0) * ((l380.getD ((x369).toNat) []).getD ((x381).toNat) 0))) <|
   grd (0 ≤ (l289.length : Int) ∧ (l289.length : Int) < (l380.length : Int)) <|
   grd (0 ≤ x381 ∧ x381 < ((l380.getD (((l289.length : Int)).toNat) []).length : Int)) <|
   grd (Rg64 (((l368.getD ((x369).toNat) []).getD ((c291).toNat) 0) * ((l380.getD (((l289.length : Int)).toNat) []).getD ((x381).toNat) 0))) <|
   grd (Rg64 ((((((l288.set (((l289.length : Int)).toNat) (l288.getD ((p339).toNat) [])).set ((p339).toNat) (l288.getD (((l289.length : Int)).toNat) [])).getD (((l289.length : Int)).toNat) []).getD ((c291).toNat) 0) * ((l380.getD ((x369).toNat) []).getD ((x381).toNat) 0)) - (((l368.getD ((x369).toNat) []).getD ((c291).toNat) 0) * ((l380.getD (((l289.length : Int)).toNat) []).getD ((x381).toNat) 0)))) <|
   grd (last290 ≠ 0 ∧ Rg64 (Int.tdiv ((((((l288.set (((l289.length : Int)).toNat) (l288.getD ((p339).toNat) [])).set ((p339).toNat) (l288.getD (((l289.length : Int)).toNat) [])).getD (((l289.length : Int)).toNat) []).getD ((c291).toNat) 0) * ((l380.getD ((x369).toNat) []).getD ((x381).toNat) 0)) - (((l368.getD ((x369).toNat) []).getD ((c291).toNat) 0) * ((l380.getD (((l289.length : Int)).toNat) []).getD ((x381).toNat) 0))) last290)) <|
   grd (Rg64 (x381 + (1 : Int))) <|
   I_reduced_l3 N columns_1 l288 l289 last290 c291 p339 l368 x369 k n ((l380.set ((x369).toNat) ((l380.getD ((x369).toNat) []).set ((x381).toNat) (Int.tdiv ((((((l288.set (((l289.length : Int)).toNat) (l288.getD ((p339).toNat) [])).set ((p339).toNat) (l288.getD (((l289.length : Int)).toNat) [])).getD (((l289.length : Int)).toNat) []).getD ((c291).toNat) 0) * ((l380.getD ((x369).toNat) []).getD ((x381).toNat) 0)) - (((l368.getD ((x369).toNat) []).getD ((c291).toNat) 0) * ((l380.getD (((l289.length : Int)).toNat) []).getD ((x381).toNat) 0))) last290))), (x381 + (1 : Int)))) (
   k l380)
def I_reduced_l2 (N : Nat) (columns_1 : Int) (v1 : List (List Int)) (l288 : List (List Int)) (l289 : List Int) (last290 : Int) (c291 : Int) (p339 : Int) (k : (List (List Int)) → Option ((List (List Int)) × (List Int) × Int)) : Nat → ((List (List Int)) × Int) → Option ((List (List Int)) × (List Int) × Int)
 | 0, _ => none
 | n + 1, (l368, x369) =>
  cnd (decide (x369 < (v1.length : Int))) (
   cnd (x369 == (l289.length : Int)) (
    grd (Rg64 (x369 + (1 : Int))) <|
    I_reduced_l2 N columns_1 v1 l288 l289 last290 c291 p339 k n (l368, (x369 + (1 : Int)))) (
    grd (0 ≤ x369 ∧ x369 < (v1.length : Int)) <|
    grd (0 ≤ x369 ∧ x369 < (l368.length : Int)) <|
    grd (0 ≤ c291 ∧ c291 < ((l368.getD ((x369).toNat) []).length : Int)) <|
    I_reduced_l3 N columns_1 l288 l289 last290 c291 p339 l368 x369 (fun (l378 : List (List Int)) =>
       grd (Rg64 (x369 + (1 : Int))) <|
       I_reduced_l2 N columns_1 v1 l288 l289 last290 c291 p339 k n (l378, (x369 + (1 : Int)))) N (l368, (0 : Int)))) (
   k l368)
def I_reduced_l4 (N : Nat) (v1 : List (List Int)) (l288 : List (List Int)) (c291 : Int) (k : Int → Option ((List (List Int)) × (List Int) × Int)) : Nat → Int → Option ((List (List Int)) × (List Int) × Int)
 | 0, _ => none
 | n + 1, p383 =>
  cnd (decide (p383 < (v1.length : Int))) (
   grd (0 ≤ p383 ∧ p383 < (v1.length : Int)) <|
   grd (0 ≤ p383 ∧ p383 < (l288.length : Int)) <|
   grd (0 ≤ c291 ∧ c291 < ((l288.getD ((p383).toNat) []).length : Int)) <|
   cnd (((l288.getD ((p383).toNat) []).getD ((c291).toNat) 0) == (0 : Int)) (
    grd (Rg64 (p383 + (1 : Int))) <|
    I_reduced_l4 N v1 l288 c291 k n (p383 + (1 : Int))) (
    k p383)) (
   k p383)
def I_reduced_l1 (N : Nat) (columns_1 : Int) (v1 : List (List Int)) (k : ((List (List Int)) × (List Int) × Int) → Option ((List (List Int)) × (List Int) × Int)) : Nat → ((List (List Int)) × (List Int) × Int × Int) → Option ((List (List Int)) × (List Int) × Int)
 | 0, _ => none
 | n + 1, (l288, l289, last290, c291) =>
  cnd (decide (c291 < columns_1)) (
   cnd (decide ((l289.length : Int) < (v1.length : Int))) (
    I_reduced_l4 N v1 l288 c291 (fun (p339 : Int) =>
       cnd (p339 == (v1.length : Int)) (
        grd (Rg64 (c291 + (1 : Int))) <|
        I_reduced_l1 N columns_1 v1 k n (l288, l289, last290, (c291 + (1 : Int)))) (
        grd (0 ≤ p339 ∧ p339 < (v1.length : Int)) <|
        grd (0 ≤ p339 ∧ p339 < (l288.length : Int)) <|
        grd (0 ≤ (l289.length : Int) ∧ (l289.length : Int) < (v1.length : Int)) <|
        grd (0 ≤ (l289.length : Int) ∧ (l289.length : Int) < (l288.length : Int)) <|
        grd (0 ≤ (l289.length : Int) ∧ (l289.length : Int) < (((l288.set (((l289.length : Int)).toNat) (l288.getD ((p339).toNat) [])).set ((p339).toNat) (l288.getD (((l289.length : Int)).toNat) [])).length : Int)) <|
        grd (0 ≤ c291 ∧ c291 < ((((l288.set (((l289.length : Int)).toNat) (l288.getD ((p339).toNat) [])).set ((p339).toNat) (l288.getD (((l289.length : Int)).toNat) [])).getD (((l289.length : Int)).toNat) []).length : Int)) <|
        I_reduced_l2 N columns_1 v1 l288 l289 last290 c291 p339 (fun (l360 : List (List Int)) =>
           grd (l289.length + 1 ≤ 4294967296) <|
           grd (Rg64 (c291 + (1 : Int))) <|
           I_reduced_l1 N columns_1 v1 k n (l360, (l289 ++ ([c291] : List Int)), ((((l288.set (((l289.length : Int)).toNat) (l288.getD ((p339).toNat) [])).set ((p339).toNat) (l288.getD (((l289.length : Int)).toNat) [])).getD (((l289.length : Int)).toNat) []).getD ((c291).toNat) 0), (c291 + (1 : Int)))) N (((l288.set (((l289.length : Int)).toNat) (l288.getD ((p339).toNat) [])).set ((p339).toNat) (l288.getD (((l289.length : Int)).toNat) [])), (0 : Int)))) N (l289.length : Int)) (
    k (l288, l289, last290))) (
   k (l288, l289, last290))
def I_reduced (N : Nat) (m_0 : List (List Int)) (columns_1 : Int) : Option ((List (List Int)) × (List Int) × Int) :=
 (I_copyLists N m_0).bind fun v1 =>
 I_reduced_l1 N columns_1 v1 (fun (x : (List (List Int)) × (List Int) × Int) =>
   match x with
   | (l191, l192, last193) =>
    grd (v1.length = l191.length) <|
    some (l191, l192, last193)) N (v1, ([] : List Int), (1 : Int), (0 : Int))
set_option maxRecDepth 20000 in
set_option maxHeartbeats 1600000 in
theorem I_reduced_w (N : Nat) (m_0 : List (List Int)) (columns_1 : Int) (r : (List (List Int)) × (List Int) × Int) (h : I_reduced N m_0 columns_1 = some r) : PCall Try.prog 190 [.ro false (.intss m_0), .int columns_1] [(3, .ints r.2.1)] (.tup [.ro true (.intss r.1), .row 0 0 r.2.1.length, .int r.2.2]) := by
 unfold I_reduced at h
 refine pcall_intro (TT := TT) tt Try.func190 rfl rfl Try.ntmps190 (congrArg Array.toList Try.results190) rfl rfl fun w0 => ?_
 refine vSeq ?_
 refine vRegion ?_
 iterate 3 refine oVal tt rfl rfl rfl rfl rfl trivial ?_
 refine vNil ?_
 change VC _ _ _ _
 refine vSeq ?_
 refine vRegion ?_
 refine oVal tt rfl rfl rfl rfl rfl trivial ?_
 obtain ⟨v1, hc1, h⟩ := bind_inv h
 refine oCallD 10 (I_copyLists_w N m_0 v1 hc1) rfl rfl rfl rfl rfl rfl rfl rfl rfl rfl rfl (fun _ h => by cases h) ⟨rfl, trivial⟩ ?_
 refine oVal tt rfl rfl rfl rfl rfl trivial ?_
 refine vNil ?_
 change VC _ _ _ _
 refine vSeq ?_
 refine vRegion ?_
 refine oEmpty tt (wNone rfl) rfl rfl rfl rfl ?_
 refine oVal tt rfl rfl rfl rfl rfl trivial ?_
 refine vNil ?_
 change VC _ _ _ _
 refine vSeq ?_
 refine vRegion ?_
 refine oVal tt rfl rfl rfl rfl rfl trivial ?_
 refine vNil ?_
 change VC _ _ _ _
 iterate 2 refine vSeq ?_
 refine vRegion ?_
 refine oVal tt rfl rfl rfl rfl rfl trivial ?_
 refine vNil ?_
 change VC _ _ _ _
 refine vJoin (F := fun k => I_reduced_l1 N columns_1 v1 k) h (α := (List (List Int)) × (List Int) × Int) (J := fun | (l191, l192, last193) => (⟨[(7, .row 1180 0 v1.length), (8, .row 127 0 l192.length), (9, .int last193)], [(1180, some (27, dR 10 (.intss l191))), (8589934602, some (3, dF (.intss l191))), (127, some (3, .ints l192))], []⟩ : PS)) ?_ ?_
 ·rintro ⟨l191, l192, last193⟩ h
  show VC _ _ _ (⟨[(7, .row 1180 0 v1.length), (8, .row 127 0 l192.length), (9, .int last193)], [(1180, some (27, dR 10 (.intss l191))), (8589934602, some (3, dF (.intss l191))), (127, some (3, .ints l192))], []⟩ : PS)
  refine vSeq ?_
  refine vRegion ?_
  iterate 6 refine oVal tt rfl rfl rfl rfl rfl trivial ?_
  refine vNil ?_
  change VC _ _ _ _
  obtain ⟨hg2, h⟩ := grd_inv h
  refine vEn (En.freezeD 4 1180 10 (q := (.intss l191)) rfl rfl rfl rfl hg2 rfl rfl) ?_
  refine vRet ?_
  change ∃ _, _
  cases h
  exact ⟨[127], _, rfl, ⟨rfl, trivial⟩, rfl, (.eq rfl), rfl⟩
 ·intro k h
  refine vBlock ?_
  refine vNilT 8 127 3 (.ints []) rfl rfl rfl rfl ?_
  refine vLoopS (α := (List (List Int)) × (List Int) × Int × Int) (fun | (l288, l289, last290, c291) => (⟨[(1, .int columns_1), (7, .row 1180 0 v1.length), (8, .row 127 0 l289.length), (9, .int last290), (10, .int c291)], [(1180, some (27, dR 10 (.intss l288))), (8589934602, some (3, dF (.intss l288))), (127, some (3, .ints l289))], []⟩ : PS)) (I_reduced_l1 N columns_1 v1 k) h (En.of ⟨rfl, rfl, rfl, rfl, rfl, trivial⟩ ⟨rfl, rfl, rfl, trivial⟩ trivial) (fun _ => rfl) ?_
  rintro n ⟨l288, l289, last290, c291⟩ h
  rw [I_reduced_l1] at h
  show VC _ _ _ (⟨[(1, .int columns_1), (7, .row 1180 0 v1.length), (8, .row 127 0 l289.length), (9, .int last290), (10, .int c291)], [(1180, some (27, dR 10 (.intss l288))), (8589934602, some (3, dF (.intss l288))), (127, some (3, .ints l289))], []⟩ : PS)
  iterate 2 refine vSeq ?_
  refine vRegion ?_
  iterate 4 refine oVal tt rfl rfl rfl rfl rfl trivial ?_
  refine oSplit rfl rfl rfl (fun hb3 => ?_) (fun hb3 => ?_)
  ·replace h := cnd_t hb3 h
   iterate 5 refine oValG tt rfl rfl rfl rfl rfl hb3 rfl rfl rfl trivial ?_
   refine oPick rfl rfl rfl rfl rfl hb3 rfl ?_
   refine vNil ?_
   change VC _ _ _ _
   refine vCond rfl (fun hb4 => ?_) (fun hb4 => ?_)
   ·replace h := cnd_t hb4 h
    refine vSkip ?_
    change VC _ _ _ _
    refine vSeq ?_
    refine vBlock ?_
    refine vSeq ?_
    refine vRegion ?_
    iterate 3 refine oVal tt rfl rfl rfl rfl rfl trivial ?_
    refine vNil ?_
    change VC _ _ _ _
    refine vSeq ?_
    refine vRegion ?_
    iterate 2 refine oVal tt rfl rfl rfl rfl rfl trivial ?_
    refine vNil ?_
    change VC _ _ _ _
    refine vSeq ?_
    refine vJoin (F := fun k => I_reduced_l4 N v1 l288 c291 k) h (α := Int) (J := fun (p339 : Int) => (⟨[(1, .int columns_1), (7, .row 1180 0 v1.length), (8, .row 127 0 l289.length), (9, .int last290), (10, .int c291), (11, .int (l289.length : Int)), (12, .int p339)], [(1180, some (27, dR 10 (.intss l288))), (8589934602, some (3, dF (.intss l288))), (127, some (3, .ints l289))], []⟩ : PS)) ?_ ?_
    ·rintro p339 h
     show VC _ _ _ (⟨[(1, .int columns_1), (7, .row 1180 0 v1.length), (8, .row 127 0 l289.length), (9, .int last290), (10, .int c291), (11, .int (l289.length : Int)), (12, .int p339)], [(1180, some (27, dR 10 (.intss l288))), (8589934602, some (3, dF (.intss l288))), (127, some (3, .ints l289))], []⟩ : PS)
     iterate 2 refine vSeq ?_
     refine vRegion ?_
     iterate 4 refine oVal tt rfl rfl rfl rfl rfl trivial ?_
     refine vNil ?_
     change VC _ _ _ _
     refine vCond rfl (fun hb5 => ?_) (fun hb5 => ?_)
     ·replace h := cnd_t hb5 h
      refine vExit ?_
      change VC _ _ _ _
      refine vRegion ?_
      refine oVal tt rfl rfl rfl rfl rfl trivial ?_
      obtain ⟨hg6, h⟩ := grd_inv h
      refine oVal tt rfl rfl rfl rfl rfl hg6 ?_
      refine oVal tt rfl rfl rfl rfl rfl trivial ?_
      refine vNil ?_
      change ∃ _, _
      exact ⟨(l288, l289, last290, (c291 + (1 : Int))), (En.of ⟨rfl, rfl, rfl, rfl, rfl, trivial⟩ ⟨rfl, rfl, rfl, trivial⟩ trivial), h⟩
     ·replace h := cnd_f hb5 h
      refine vSkip ?_
      change VC _ _ _ _
      refine vSeq ?_
      refine vRegionN 14 [1130001180] [0, 0, 0, 0, 0, 0, 48, 112, 0, 0, 768, 1792, 4083, 8179, 16383, 32767] (by kernel_rfl) (by kernel_rfl) (by kernel_rfl) (by kernel_rfl) (by kernel_rfl) rfl (by rfl) ?_
      iterate 6 refine nVal tt rfl (wNone rfl) rfl rfl rfl rfl rfl trivial ?_
      obtain ⟨hg7, h⟩ := grd_inv h
      refine nVal tt rfl (wNone rfl) rfl rfl rfl rfl rfl hg7 ?_
      obtain ⟨hg8, h⟩ := grd_inv h
      refine nLoadD tt (wNone rfl) (.intss l288) rfl rfl rfl rfl rfl rfl rfl rfl rfl rfl rfl hg8 ?_
      iterate 2 refine nVal tt rfl (wNone rfl) rfl rfl rfl rfl rfl trivial ?_
      obtain ⟨hg9, h⟩ := grd_inv h
      refine nVal tt rfl (wNone rfl) rfl rfl rfl rfl rfl hg9 ?_
      obtain ⟨hg10, h⟩ := grd_inv h
      refine nLoadD tt (wNone rfl) (.intss l288) rfl rfl rfl rfl rfl rfl rfl rfl rfl rfl rfl hg10 ?_
      refine nVal tt rfl (wNone rfl) rfl rfl rfl rfl rfl hg9 ?_
      refine nStoreR tt (wNone rfl) rfl rfl rfl rfl rfl rfl rfl rfl rfl rfl rfl rfl rfl (by simpa [Sq.len, dR, idn_len, idr_len] using hg10) ?_
      refine nNil ?_
      change VO _ _ _ _ _
      refine oVal tt rfl rfl rfl rfl rfl hg7 ?_
      refine oStore tt rfl rfl rfl rfl rfl rfl rfl rfl rfl rfl ⟨_, _, rfl, hg8.1, (by simpa [Sq.len, dR, idn_len, idr_len] using hg8.2)⟩ ⟨(by simpa [Sq.len, dR, idn_len, idr_len] using hg8), trivial⟩ ?_
      refine vEnO (En.re 1180 10 rfl rfl (swI 10 l288 (by omega) (by omega)) rfl rfl rfl) ?_
      refine vNil ?_
      change VC _ _ _ _
      refine vSeq ?_
      refine vRegion ?_
      iterate 2 refine oVal tt rfl rfl rfl rfl rfl trivial ?_
      refine oVal tt rfl rfl rfl rfl rfl hg9 ?_
      obtain ⟨hg11, h⟩ := grd_inv h
      refine oLoadD tt (wNone rfl) (.intss ((l288.set (((l289.length : Int)).toNat) (l288.getD ((p339).toNat) [])).set ((p339).toNat) (l288.getD (((l289.length : Int)).toNat) []))) rfl rfl rfl rfl rfl rfl rfl rfl rfl hg11 ?_
      refine oVal tt rfl rfl rfl rfl rfl trivial ?_
      obtain ⟨hg12, h⟩ := grd_inv h
      refine oPureF (wNone rfl) (pIdxI tt (q := (.intss ((l288.set (((l289.length : Int)).toNat) (l288.getD ((p339).toNat) [])).set ((p339).toNat) (l288.getD (((l289.length : Int)).toNat) [])))) rfl rfl rfl rfl rfl rfl (by simp only [Sq.len, List.length_set, List.length_append, List.length_replicate] at *; omega) rfl hg12) rfl rfl ?_
      refine oPureF (wNone rfl) (pLoadI tt (q := (.intss ((l288.set (((l289.length : Int)).toNat) (l288.getD ((p339).toNat) [])).set ((p339).toNat) (l288.getD (((l289.length : Int)).toNat) [])))) rfl rfl rfl rfl rfl (by simp only [Sq.len, List.length_set, List.length_append, List.length_replicate] at *; omega) hg12 rfl) rfl rfl ?_
      refine oVal tt rfl rfl rfl rfl rfl trivial ?_
      refine vNil ?_
      change VC _ _ _ _
      iterate 2 refine vSeq ?_
      refine vRegion ?_
      iterate 3 refine oVal tt rfl rfl rfl rfl rfl trivial ?_
      refine vNil ?_
      change VC _ _ _ _
      refine vJoin (F := fun k => I_reduced_l2 N columns_1 v1 l288 l289 last290 c291 p339 k) h (α := List (List Int)) (J := fun (l360 : List (List Int)) => (⟨[(1, .int columns_1), (7, .row 1180 0 v1.length), (8, .row 127 0 l289.length), (10, .int c291), (13, .int ((((l288.set (((l289.length : Int)).toNat) (l288.getD ((p339).toNat) [])).set ((p339).toNat) (l288.getD (((l289.length : Int)).toNat) [])).getD (((l289.length : Int)).toNat) []).getD ((c291).toNat) 0))], [(1180, some (27, dR 10 (.intss l360))), (8589934602, some (3, dF (.intss l360))), (127, some (3, .ints l289))], []⟩ : PS)) ?_ ?_
      ·rintro l360 h
       show VC _ _ _ (⟨[(1, .int columns_1), (7, .row 1180 0 v1.length), (8, .row 127 0 l289.length), (10, .int c291), (13, .int ((((l288.set (((l289.length : Int)).toNat) (l288.getD ((p339).toNat) [])).set ((p339).toNat) (l288.getD (((l289.length : Int)).toNat) [])).getD (((l289.length : Int)).toNat) []).getD ((c291).toNat) 0))], [(1180, some (27, dR 10 (.intss l360))), (8589934602, some (3, dF (.intss l360))), (127, some (3, .ints l289))], []⟩ : PS)
       refine vSeq ?_
       refine vRegion ?_
       iterate 2 refine oVal tt rfl rfl rfl rfl rfl trivial ?_
       refine oBuild tt rfl rfl rfl rfl rfl rfl rfl rfl rfl rfl rfl ?_
       obtain ⟨hg13, h⟩ := grd_inv h
       refine oAppend tt rfl rfl rfl rfl rfl rfl rfl rfl rfl rfl rfl rfl rfl rfl rfl rfl (Nat.le_of_eq (Nat.zero_add _)) hg13 ?_
       refine oVal tt rfl rfl rfl rfl rfl trivial ?_
       refine vNil ?_
       change VC _ _ _ _
       refine vRegion ?_
       iterate 2 refine oVal tt rfl rfl rfl rfl rfl trivial ?_
       refine vNil ?_
       change VC _ _ _ _
       refine vRegion ?_
       refine oVal tt rfl rfl rfl rfl rfl trivial ?_
       obtain ⟨hg14, h⟩ := grd_inv h
       refine oVal tt rfl rfl rfl rfl rfl hg14 ?_
       refine oVal tt rfl rfl rfl rfl rfl trivial ?_
       refine vNil ?_
       change ∃ _, _
       exact ⟨(l360, (l289 ++ ([c291] : List Int)), ((((l288.set (((l289.length : Int)).toNat) (l288.getD ((p339).toNat) [])).set ((p339).toNat) (l288.getD (((l289.length : Int)).toNat) [])).getD (((l289.length : Int)).toNat) []).getD ((c291).toNat) 0), (c291 + (1 : Int))), (En.of ⟨rfl, rfl, rfl, rfl, rfl, trivial⟩ ⟨rfl, rfl, rfl, trivial⟩ trivial), h⟩
      ·intro k h
       refine vBlock ?_
       refine vLoopS (α := (List (List Int)) × Int) (fun | (l368, x369) => (⟨[(1, .int columns_1), (7, .row 1180 0 v1.length), (8, .row 127 0 l289.length), (9, .int last290), (10, .int c291), (11, .int (l289.length : Int)), (13, .int ((((l288.set (((l289.length : Int)).toNat) (l288.getD ((p339).toNat) [])).set ((p339).toNat) (l288.getD (((l289.length : Int)).toNat) [])).getD (((l289.length : Int)).toNat) []).getD ((c291).toNat) 0)), (77, .int (v1.length : Int)), (78, .int x369)], [(1180, some (27, dR 10 (.intss l368))), (8589934602, some (3, dF (.intss l368))), (127, some (3, .ints l289))], []⟩ : PS)) (I_reduced_l2 N columns_1 v1 l288 l289 last290 c291 p339 k) h (En.of ⟨rfl, rfl, rfl, rfl, rfl, rfl, rfl, rfl, rfl, trivial⟩ ⟨rfl, rfl, rfl, trivial⟩ trivial) (fun _ => rfl) ?_
       rintro n ⟨l368, x369⟩ h
       rw [I_reduced_l2] at h
       show VC _ _ _ (⟨[(1, .int columns_1), (7, .row 1180 0 v1.length), (8, .row 127 0 l289.length), (9, .int last290), (10, .int c291), (11, .int (l289.length : Int)), (13, .int ((((l288.set (((l289.length : Int)).toNat) (l288.getD ((p339).toNat) [])).set ((p339).toNat) (l288.getD (((l289.length : Int)).toNat) [])).getD (((l289.length : Int)).toNat) []).getD ((c291).toNat) 0)), (77, .int (v1.length : Int)), (78, .int x369)], [(1180, some (27, dR 10 (.intss l368))), (8589934602, some (3, dF (.intss l368))), (127, some (3, .ints l289))], []⟩ : PS)
       refine vSeq ?_
       refine vRegion ?_
       refine oVal tt rfl rfl rfl rfl rfl trivial ?_
       refine vNil ?_
       change VC _ _ _ _
       refine vSeq ?_
       refine vCond rfl (fun hb15 => ?_) (fun hb15 => ?_)
       ·replace h := cnd_t hb15 h
        refine vSkip ?_
        change VC _ _ _ _
        refine vSeq ?_
        refine vBlock ?_
        refine vSeq ?_
        refine vRegion ?_
        iterate 2 refine oVal tt rfl rfl rfl rfl rfl trivial ?_
        refine vNil ?_
        change VC _ _ _ _
        iterate 2 refine vSeq ?_
        refine vRegion ?_
        iterate 3 refine oVal tt rfl rfl rfl rfl rfl trivial ?_
        refine vNil ?_
        change VC _ _ _ _
        refine vCond rfl (fun hb16 => ?_) (fun hb16 => ?_)
        ·replace h := cnd_t hb16 h
         refine vExit ?_
         change VC _ _ _ _
         refine vRegion ?_
         obtain ⟨hg17, h⟩ := grd_inv h
         refine oVal tt rfl rfl rfl rfl rfl hg17 ?_
         refine oVal tt rfl rfl rfl rfl rfl trivial ?_
         refine vNil ?_
         change ∃ _, _
         exact ⟨(l368, (x369 + (1 : Int))), (En.of ⟨rfl, rfl, rfl, rfl, rfl, rfl, rfl, rfl, rfl, trivial⟩ ⟨rfl, rfl, rfl, trivial⟩ trivial), h⟩
        ·replace h := cnd_f hb16 h
         refine vSkip ?_
         change VC _ _ _ _
         refine vSeq ?_
         refine vRegion ?_
         iterate 2 refine oVal tt rfl rfl rfl rfl rfl trivial ?_
         obtain ⟨hg18, h⟩ := grd_inv h
         refine oVal tt rfl rfl rfl rfl rfl hg18 ?_
         obtain ⟨hg19, h⟩ := grd_inv h
         refine oLoadD tt (wNone rfl) (.intss l368) rfl rfl rfl rfl rfl rfl rfl rfl rfl hg19 ?_
         refine oVal tt rfl rfl rfl rfl rfl trivial ?_
         obtain ⟨hg20, h⟩ := grd_inv h
         refine oPureF (wNone rfl) (pIdxI tt (q := (.intss l368)) rfl rfl rfl rfl rfl rfl (by simp only [Sq.len, List.length_set, List.length_append, List.length_replicate] at *; omega) rfl hg20) rfl rfl ?_
         refine oPureF (wNone rfl) (pLoadI tt (q := (.intss l368)) rfl rfl rfl rfl rfl (by simp only [Sq.len, List.length_set, List.length_append, List.length_replicate] at *; omega) hg20 rfl) rfl rfl ?_
         refine oVal tt rfl rfl rfl rfl rfl trivial ?_
         refine vNil ?_
         change VC _ _ _ _
         refine vSeq ?_
         refine vRegion ?_
         iterate 2 refine oVal tt rfl rfl rfl rfl rfl trivial ?_
         refine vNil ?_
         change VC _ _ _ _
         refine vJoin (F := fun k => I_reduced_l3 N columns_1 l288 l289 last290 c291 p339 l368 x369 k) h (α := List (List Int)) (J := fun (l378 : List (List Int)) => (⟨[(1, .int columns_1), (7, .row 1180 0 v1.length), (8, .row 127 0 l289.length), (9, .int last290), (10, .int c291), (11, .int (l289.length : Int)), (13, .int ((((l288.set (((l289.length : Int)).toNat) (l288.getD ((p339).toNat) [])).set ((p339).toNat) (l288.getD (((l289.length : Int)).toNat) [])).getD (((l289.length : Int)).toNat) []).getD ((c291).toNat) 0)), (77, .int (v1.length : Int)), (78, .int x369)], [(1180, some (27, dR 10 (.intss l378))), (8589934602, some (3, dF (.intss l378))), (127, some (3, .ints l289))], []⟩ : PS)) ?_ ?_
         ·rintro l378 h
          show VC _ _ _ (⟨[(1, .int columns_1), (7, .row 1180 0 v1.length), (8, .row 127 0 l289.length), (9, .int last290), (10, .int c291), (11, .int (l289.length : Int)), (13, .int ((((l288.set (((l289.length : Int)).toNat) (l288.getD ((p339).toNat) [])).set ((p339).toNat) (l288.getD (((l289.length : Int)).toNat) [])).getD (((l289.length : Int)).toNat) []).getD ((c291).toNat) 0)), (77, .int (v1.length : Int)), (78, .int x369)], [(1180, some (27, dR 10 (.intss l378))), (8589934602, some (3, dF (.intss l378))), (127, some (3, .ints l289))], []⟩ : PS)
          refine vRegion ?_
          obtain ⟨hg21, h⟩ := grd_inv h
          refine oVal tt rfl rfl rfl rfl rfl hg21 ?_
          refine oVal tt rfl rfl rfl rfl rfl trivial ?_
          refine vNil ?_
          change ∃ _, _
          exact ⟨(l378, (x369 + (1 : Int))), (En.of ⟨rfl, rfl, rfl, rfl, rfl, rfl, rfl, rfl, rfl, trivial⟩ ⟨rfl, rfl, rfl, trivial⟩ trivial), h⟩
         ·intro k h
          refine vBlock ?_
          refine vLoopS (α := (List (List Int)) × Int) (fun | (l380, x381) => (⟨[(1, .int columns_1), (7, .row 1180 0 v1.length), (8, .row 127 0 l289.length), (9, .int last290), (10, .int c291), (11, .int (l289.length : Int)), (13, .int ((((l288.set (((l289.length : Int)).toNat) (l288.getD ((p339).toNat) [])).set ((p339).toNat) (l288.getD (((l289.length : Int)).toNat) [])).getD (((l289.length : Int)).toNat) []).getD ((c291).toNat) 0)), (14, .int x369), (15, .int ((l368.getD ((x369).toNat) []).getD ((c291).toNat) 0)), (77, .int (v1.length : Int)), (78, .int x369), (91, .int columns_1), (92, .int x381)], [(1180, some (27, dR 10 (.intss l380))), (8589934602, some (3, dF (.intss l380))), (127, some (3, .ints l289))], []⟩ : PS)) (I_reduced_l3 N columns_1 l288 l289 last290 c291 p339 l368 x369 k) h (En.of ⟨rfl, rfl, rfl, rfl, rfl, rfl, rfl, rfl, rfl, rfl, rfl, rfl, rfl, trivial⟩ ⟨rfl, rfl, rfl, trivial⟩ trivial) (fun _ => rfl) ?_
          rintro n ⟨l380, x381⟩ h
          rw [I_reduced_l3] at h
          show VC _ _ _ (⟨[(1, .int columns_1), (7, .row 1180 0 v1.length), (8, .row 127 0 l289.length), (9, .int last290), (10, .int c291), (11, .int (l289.length : Int)), (13, .int ((((l288.set (((l289.length : Int)).toNat) (l288.getD ((p339).toNat) [])).set ((p339).toNat) (l288.getD (((l289.length : Int)).toNat) [])).getD (((l289.length : Int)).toNat) []).getD ((c291).toNat) 0)), (14, .int x369), (15, .int ((l368.getD ((x369).toNat) []).getD ((c291).toNat) 0)), (77, .int (v1.length : Int)), (78, .int x369), (91, .int columns_1), (92, .int x381)], [(1180, some (27, dR 10 (.intss l380))), (8589934602, some (3, dF (.intss l380))), (127, some (3, .ints l289))], []⟩ : PS)
          refine vSeq ?_
          refine vRegion ?_
          refine oVal tt rfl rfl rfl rfl rfl trivial ?_
          refine vNil ?_
          change VC _ _ _ _
          refine vSeq ?_
          refine vCond rfl (fun hb22 => ?_) (fun hb22 => ?_)
          ·replace h := cnd_t hb22 h
           refine vSkip ?_
           change VC _ _ _ _
           refine vSeq ?_
           refine vBlock ?_
           refine vSeq ?_
           refine vRegion ?_
           iterate 2 refine oVal tt rfl rfl rfl rfl rfl trivial ?_
           refine vNil ?_
           change VC _ _ _ _
           refine vRegionN 26 [] [0, 0, 3, 7, 0, 0, 0, 0, 192, 448, 0, 1984, 4032, 8160, 0, 0, 0, 98304, 229376, 0, 1015808, 2064384, 4177920, 8388576, 0, 33554400, 67108863, 134217727] (by kernel_rfl) (by kernel_rfl) (by kernel_rfl) (by kernel_rfl) (by kernel_rfl) rfl (by rfl) ?_
           iterate 2 refine nVal tt rfl (wNone rfl) rfl rfl rfl rfl rfl trivial ?_
           refine nVal tt rfl (wNone rfl) rfl rfl rfl rfl rfl hg18 ?_
           obtain ⟨hg23, h⟩ := grd_inv h
           refine nLoadD tt (wNone rfl) (.intss l380) rfl rfl rfl rfl rfl rfl rfl rfl rfl rfl rfl hg23 ?_
           iterate 4 refine nVal tt rfl (wNone rfl) rfl rfl rfl rfl rfl trivial ?_
           refine nVal tt rfl (wNone rfl) rfl rfl rfl rfl rfl hg18 ?_
           refine nLoadD tt (wNone rfl) (.intss l380) rfl rfl rfl rfl rfl rfl rfl rfl rfl rfl rfl hg23 ?_
           refine nVal tt rfl (wNone rfl) rfl rfl rfl rfl rfl trivial ?_
           obtain ⟨hg24, h⟩ := grd_inv h
           refine nPureF (wNone rfl) (pIdxI tt (q := (.intss l380)) rfl rfl rfl rfl rfl rfl (by simp only [Sq.len, List.length_set, List.length_append, List.length_replicate] at *; omega) rfl hg24) rfl rfl rfl ?_
           refine nPureF (wNone rfl) (pLoadI tt (q := (.intss l380)) rfl rfl rfl rfl rfl (by simp only [Sq.len, List.length_set, List.length_append, List.length_replicate] at *; omega) hg24 rfl) rfl rfl rfl ?_
           obtain ⟨hg25, h⟩ := grd_inv h
           refine nVal tt rfl (wNone rfl) rfl rfl rfl rfl rfl hg25 ?_
           iterate 3 refine nVal tt rfl (wNone rfl) rfl rfl rfl rfl rfl trivial ?_
           refine nVal tt rfl (wNone rfl) rfl rfl rfl rfl rfl hg9 ?_
           obtain ⟨hg26, h⟩ := grd_inv h
           refine nLoadD tt (wNone rfl) (.intss l380) rfl rfl rfl rfl rfl rfl rfl rfl rfl rfl rfl hg26 ?_
           refine nVal tt rfl (wNone rfl) rfl rfl rfl rfl rfl trivial ?_
           obtain ⟨hg27, h⟩ := grd_inv h
           refine nPureF (wNone rfl) (pIdxI tt (q := (.intss l380)) rfl rfl rfl rfl rfl rfl (by simp only [Sq.len, List.length_set, List.length_append, List.length_replicate] at *; omega) rfl hg27) rfl rfl rfl ?_
           refine nPureF (wNone rfl) (pLoadI tt (q := (.intss l380)) rfl rfl rfl rfl rfl (by simp only [Sq.len, List.length_set, List.length_append, List.length_replicate] at *; omega) hg27 rfl) rfl rfl rfl ?_
           obtain ⟨hg28, h⟩ := grd_inv h
           refine nVal tt rfl (wNone rfl) rfl rfl rfl rfl rfl hg28 ?_
           obtain ⟨hg29, h⟩ := grd_inv h
           refine nVal tt rfl (wNone rfl) rfl rfl rfl rfl rfl hg29 ?_
           refine nVal tt rfl (wNone rfl) rfl rfl rfl rfl rfl trivial ?_
           obtain ⟨hg30, h⟩ := grd_inv h
           refine nVal tt rfl (wNone rfl) rfl rfl rfl rfl rfl hg30 ?_
           refine nNil ?_
           change VO _ _ _ _ _
           refine oPureF (wNone rfl) (pIdxI tt (q := (.intss l380)) rfl rfl rfl rfl rfl rfl (by simp only [Sq.len, List.length_set, List.length_append, List.length_replicate] at *; omega) rfl hg24) rfl rfl ?_
           refine oStoreI 1180 (.intss (l380.set ((x369).toNat) ((l380.getD ((x369).toNat) []).set ((x381).toNat) (Int.tdiv ((((((l288.set (((l289.length : Int)).toNat) (l288.getD ((p339).toNat) [])).set ((p339).toNat) (l288.getD (((l289.length : Int)).toNat) [])).getD (((l289.length : Int)).toNat) []).getD ((c291).toNat) 0) * ((l380.getD ((x369).toNat) []).getD ((x381).toNat) 0)) - (((l368.getD ((x369).toNat) []).getD ((c291).toNat) 0) * ((l380.getD (((l289.length : Int)).toNat) []).getD ((x381).toNat) 0))) last290)))) tt (q := (.intss l380)) rfl rfl rfl rfl rfl rfl rfl rfl rfl rfl (by simp only [Sq.len, List.length_set, List.length_append, List.length_replicate] at *; omega) hg24 rfl (inI _ _ _ _ (by first | omega | (simp only [List.length_set, List.length_append, List.length_replicate] at *; omega)) (by simp)) ?_
           refine vNil ?_
           change VC _ _ _ _
           refine vRegion ?_
           obtain ⟨hg31, h⟩ := grd_inv h
           refine oVal tt rfl rfl rfl rfl rfl hg31 ?_
           refine oVal tt rfl rfl rfl rfl rfl trivial ?_
           refine vNil ?_
           change ∃ _, _
           exact ⟨((l380.set ((x369).toNat) ((l380.getD ((x369).toNat) []).set ((x381).toNat) (Int.tdiv ((((((l288.set (((l289.length : Int)).toNat) (l288.getD ((p339).toNat) [])).set ((p339).toNat) (l288.getD (((l289.length : Int)).toNat) [])).getD (((l289.length : Int)).toNat) []).getD ((c291).toNat) 0) * ((l380.getD ((x369).toNat) []).getD ((x381).toNat) 0)) - (((l368.getD ((x369).toNat) []).getD ((c291).toNat) 0) * ((l380.getD (((l289.length : Int)).toNat) []).getD ((x381).toNat) 0))) last290))), (x381 + (1 : Int))), (En.of ⟨rfl, rfl, rfl, rfl, rfl, rfl, rfl, rfl, rfl, rfl, rfl, rfl, rfl, trivial⟩ ⟨rfl, rfl, rfl, trivial⟩ trivial), h⟩
          ·replace h := cnd_f hb22 h
           refine vExit ?_
           change ∃ _, _
           exact ⟨l380, (En.of ⟨rfl, rfl, rfl, rfl, rfl, rfl, rfl, rfl, rfl, trivial⟩ ⟨rfl, rfl, rfl, trivial⟩ trivial), h⟩
       ·replace h := cnd_f hb15 h
        refine vExit ?_
        change ∃ _, _
        exact ⟨l368, (En.of ⟨rfl, rfl, rfl, rfl, rfl, trivial⟩ ⟨rfl, rfl, rfl, trivial⟩ trivial), h⟩
    ·intro k h
     refine vBlock ?_
     refine vLoopS (α := Int) (fun (p383 : Int) => (⟨[(1, .int columns_1), (7, .row 1180 0 v1.length), (8, .row 127 0 l289.length), (9, .int last290), (10, .int c291), (11, .int (l289.length : Int)), (12, .int p383)], [(1180, some (27, dR 10 (.intss l288))), (8589934602, some (3, dF (.intss l288))), (127, some (3, .ints l289))], []⟩ : PS)) (I_reduced_l4 N v1 l288 c291 k) h (En.of ⟨rfl, rfl, rfl, rfl, rfl, rfl, rfl, trivial⟩ ⟨rfl, rfl, rfl, trivial⟩ trivial) (fun _ => rfl) ?_
     rintro n p383 h
     rw [I_reduced_l4] at h
     show VC _ _ _ (⟨[(1, .int columns_1), (7, .row 1180 0 v1.length), (8, .row 127 0 l289.length), (9, .int last290), (10, .int c291), (11, .int (l289.length : Int)), (12, .int p383)], [(1180, some (27, dR 10 (.intss l288))), (8589934602, some (3, dF (.intss l288))), (127, some (3, .ints l289))], []⟩ : PS)
     iterate 2 refine vSeq ?_
     refine vRegion ?_
     iterate 5 refine oVal tt rfl rfl rfl rfl rfl trivial ?_
     refine oSplit rfl rfl rfl (fun hb32 => ?_) (fun hb32 => ?_)
     ·replace h := cnd_t hb32 h
      iterate 2 refine oValG tt rfl rfl rfl rfl rfl hb32 rfl rfl rfl trivial ?_
      obtain ⟨hg33, h⟩ := grd_inv h
      refine oValG tt rfl rfl rfl rfl rfl hb32 rfl rfl rfl hg33 ?_
      obtain ⟨hg34, h⟩ := grd_inv h
      refine oLoadD tt (wSome rfl rfl rfl rfl hb32) (.intss l288) rfl rfl rfl rfl rfl rfl rfl rfl rfl hg34 ?_
      refine oValG tt rfl rfl rfl rfl rfl hb32 rfl rfl rfl trivial ?_
      obtain ⟨hg35, h⟩ := grd_inv h
      refine oPureF (wSome rfl rfl rfl rfl hb32) (pIdxI tt (q := (.intss l288)) rfl rfl rfl rfl rfl rfl (by simp only [Sq.len, List.length_set, List.length_append, List.length_replicate] at *; omega) rfl hg35) rfl rfl ?_
      refine oPureF (wSome rfl rfl rfl rfl hb32) (pLoadI tt (q := (.intss l288)) rfl rfl rfl rfl rfl (by simp only [Sq.len, List.length_set, List.length_append, List.length_replicate] at *; omega) hg35 rfl) rfl rfl ?_
      refine oValG tt rfl rfl rfl rfl rfl hb32 rfl rfl rfl trivial ?_
      refine oPick rfl rfl rfl rfl rfl hb32 rfl ?_
      refine vNil ?_
      change VC _ _ _ _
      refine vCond rfl (fun hb36 => ?_) (fun hb36 => ?_)
      ·replace h := cnd_t hb36 h
       refine vSkip ?_
       change VC _ _ _ _
       refine vBlock ?_
       refine vRegion ?_
       refine oVal tt rfl rfl rfl rfl rfl trivial ?_
       obtain ⟨hg37, h⟩ := grd_inv h
       refine oVal tt rfl rfl rfl rfl rfl hg37 ?_
       refine oVal tt rfl rfl rfl rfl rfl trivial ?_
       refine vNil ?_
       change ∃ _, _
       exact ⟨(p383 + (1 : Int)), (En.of ⟨rfl, rfl, rfl, rfl, rfl, rfl, rfl, trivial⟩ ⟨rfl, rfl, rfl, trivial⟩ trivial), h⟩
      ·replace h := cnd_f hb36 h
       refine vExit ?_
       change ∃ _, _
       exact ⟨p383, (En.of ⟨rfl, rfl, rfl, rfl, rfl, rfl, rfl, trivial⟩ ⟨rfl, rfl, rfl, trivial⟩ trivial), h⟩
     ·replace h := cnd_f hb32 h
      iterate 8 refine oNoT rfl rfl rfl rfl hb32 rfl rfl ?_
      refine oPickF rfl rfl rfl rfl rfl hb32 rfl ?_
      refine vNil ?_
      change VC _ _ _ _
      refine vCondF rfl rfl ?_
      refine vExit ?_
      change ∃ _, _
      exact ⟨p383, (En.of ⟨rfl, rfl, rfl, rfl, rfl, rfl, rfl, trivial⟩ ⟨rfl, rfl, rfl, trivial⟩ trivial), h⟩
   ·replace h := cnd_f hb4 h
    refine vExit ?_
    change ∃ _, _
    exact ⟨(l288, l289, last290), (En.of ⟨rfl, rfl, rfl, trivial⟩ ⟨rfl, rfl, rfl, trivial⟩ trivial), h⟩
  ·replace h := cnd_f hb3 h
   iterate 5 refine oNoT rfl rfl rfl rfl hb3 rfl rfl ?_
   refine oPickF rfl rfl rfl rfl rfl hb3 rfl ?_
   refine vNil ?_
   change VC _ _ _ _
   refine vCondF rfl rfl ?_
   refine vExit ?_
   change ∃ _, _
   exact ⟨(l288, l289, last290), (En.of ⟨rfl, rfl, rfl, trivial⟩ ⟨rfl, rfl, rfl, trivial⟩ trivial), h⟩
def I_rank (N : Nat) (m_0 : List (List Int)) (columns_1 : Int) : Option (Int) :=
 (I_reduced N m_0 columns_1).bind fun v1 =>
 some (v1.2.1.length : Int)
set_option maxRecDepth 20000 in
set_option maxHeartbeats 1600000 in
theorem I_rank_w (N : Nat) (m_0 : List (List Int)) (columns_1 : Int) (r : Int) (h : I_rank N m_0 columns_1 = some r) : PCall Try.prog 159 [.ro false (.intss m_0), .int columns_1] [] (.int r) := by
 unfold I_rank at h
 refine pcall_intro (TT := TT) tt Try.func159 rfl rfl Try.ntmps159 (congrArg Array.toList Try.results159) rfl rfl fun w0 => ?_
 refine vSeq ?_
 refine vRegion ?_
 refine oVal tt rfl rfl rfl rfl rfl trivial ?_
 refine vNil ?_
 change VC _ _ _ _
 refine vSeq ?_
 refine vRegion ?_
 iterate 2 refine oVal tt rfl rfl rfl rfl rfl trivial ?_
 obtain ⟨v1, hc1, h⟩ := bind_inv h
 refine oCall (I_reduced_w N m_0 columns_1 v1 hc1) rfl rfl rfl rfl rfl rfl rfl rfl ⟨rfl, rfl, trivial⟩ ?_
 iterate 7 refine oVal tt rfl rfl rfl rfl rfl trivial ?_
 refine vNil ?_
 change VC _ _ _ _
 refine vSeq ?_
 refine vRegion ?_
 iterate 3 refine oVal tt rfl rfl rfl rfl rfl trivial ?_
 refine vNil ?_
 change VC _ _ _ _
 refine vRet ?_
 change ∃ _, _
 cases h
 exact ⟨[], _, rfl, trivial, rfl, (.eq rfl), rfl⟩
def I_LinkageFreedom_l2 (N : Nat) (v2 : List Int) (v3 : List (List Int)) (x46 : Int) (k : (List Int) → Option (Int)) : Nat → ((List Int) × Int) → Option (Int)
 | 0, _ => none
 | n + 1, (l57, x58) =>
  cnd (decide (x58 < (v2.length : Int))) (
   grd (0 ≤ x58 ∧ x58 < (v2.length : Int)) <|
   grd (Rg64 ((2 : Int) * (v2.getD ((x58).toNat) 0))) <|
   grd (0 ≤ ((2 : Int) * (v2.getD ((x58).toNat) 0)) ∧ ((2 : Int) * (v2.getD ((x58).toNat) 0)) < ((v3.getD ((x46).toNat) []).length : Int)) <|
   grd (Rg64 (((2 : Int) * (v2.getD ((x58).toNat) 0)) + (1 : Int))) <|
   grd (0 ≤ (((2 : Int) * (v2.getD ((x58).toNat) 0)) + (1 : Int)) ∧ (((2 : Int) * (v2.getD ((x58).toNat) 0)) + (1 : Int)) < ((v3.getD ((x46).toNat) []).length : Int)) <|
   grd (l57.length + 2 ≤ 4294967296) <|
   grd (Rg64 (x58 + (1 : Int))) <|
   I_LinkageFreedom_l2 N v2 v3 x46 k n ((l57 ++ ([((v3.getD ((x46).toNat) []).getD ((((2 : Int) * (v2.getD ((x58).toNat) 0))).toNat) 0), ((v3.getD ((x46).toNat) []).getD (((((2 : Int) * (v2.getD ((x58).toNat) 0)) + (1 : Int))).toNat) 0)] : List Int)), (x58 + (1 : Int)))) (
   k l57)
def I_LinkageFreedom_l1 (N : Nat) (v2 : List Int) (v3 : List (List Int)) (k : (List (List Int)) → Option (Int)) : Nat → ((List (List Int)) × Int) → Option (Int)
 | 0, _ => none
 | n + 1, (l45, x46) =>
  cnd (decide (x46 < (v3.length : Int))) (
   grd (0 ≤ x46 ∧ x46 < (v3.length : Int)) <|
   I_LinkageFreedom_l2 N v2 v3 x46 (fun (l55 : List Int) =>
      grd (l45.length + 1 ≤ 4294967296) <|
      grd (Rg64 (x46 + (1 : Int))) <|
      I_LinkageFreedom_l1 N v2 v3 k n ((l45 ++ ([l55] : List (List Int))), (x46 + (1 : Int)))) N (([] : List Int), (0 : Int))) (
   k l45)
def I_LinkageFreedom (N : Nat) (l_0 : Lnk) : Option (Int) :=
 (I_IsLinkage N l_0).bind fun v1 =>
 cnd (!v1) (
  some (-1 : Int)) (
  (I_FreeJoints N l_0).bind fun v2 =>
  (I_RigidityMatrix N l_0.f).bind fun v3 =>
  I_LinkageFreedom_l1 N v2 v3 (fun (l30 : List (List Int)) =>
     grd (Rg64 ((2 : Int) * (v2.length : Int))) <|
     (I_rank N l30 ((2 : Int) * (v2.length : Int))).bind fun v31 =>
     grd (Rg64 (((2 : Int) * (v2.length : Int)) - v31)) <|
     some (((2 : Int) * (v2.length : Int)) - v31)) N (([] : List (List Int)), (0 : Int)))
set_option maxRecDepth 20000 in
set_option maxHeartbeats 1600000 in
theorem I_LinkageFreedom_w (N : Nat) (l_0 : Lnk) (r : Int) (h : I_LinkageFreedom N l_0 = some r) : PCall Try.prog 83 [lD l_0] [] (.int r) := by
 unfold I_LinkageFreedom at h
 refine pcall_intro (TT := TT) tt Try.func83 rfl rfl Try.ntmps83 (congrArg Array.toList Try.results83) rfl rfl fun w0 => ?_
 refine vSeq ?_
 refine vRegion ?_
 refine oBox rfl rfl rfl rfl rfl rfl rfl rfl rfl ?_
 refine oVal tt rfl rfl rfl rfl rfl trivial ?_
 refine vNil ?_
 change VC _ _ _ _
 iterate 2 refine vSeq ?_
 refine vRegion ?_
 refine oVal tt rfl rfl rfl rfl rfl trivial ?_
 obtain ⟨v1, hc1, h⟩ := bind_inv h
 refine oCall (I_IsLinkage_w N l_0 v1 hc1) rfl rfl rfl rfl rfl rfl rfl rfl ⟨⟨rfl, rfl, rfl, rfl, trivial⟩, trivial⟩ ?_
 refine oVal tt rfl rfl rfl rfl rfl trivial ?_
 refine vNil ?_
 change VC _ _ _ _
 refine vCond rfl (fun hb2 => ?_) (fun hb2 => ?_)
 ·replace h := cnd_t hb2 h
  refine vSeq ?_
  refine vRegion ?_
  refine oVal tt rfl rfl rfl rfl rfl trivial ?_
  refine vNil ?_
  change VC _ _ _ _
  refine vRet ?_
  change ∃ _, _
  cases h
  exact ⟨[], _, rfl, trivial, rfl, (.eq rfl), rfl⟩
 ·replace h := cnd_f hb2 h
  refine vSkip ?_
  change VC _ _ _ _
  refine vSeq ?_
  refine vRegion ?_
  refine oVal tt rfl rfl rfl rfl rfl trivial ?_
  obtain ⟨v2, hc3, h⟩ := bind_inv h
  refine oCall (I_FreeJoints_w N l_0 v2 hc3) rfl rfl rfl rfl rfl rfl rfl rfl ⟨⟨rfl, rfl, rfl, rfl, trivial⟩, trivial⟩ ?_
  refine oVal tt rfl rfl rfl rfl rfl trivial ?_
  refine vNil ?_
  change VC _ _ _ _
  refine vSeq ?_
  refine vRegion ?_
  refine oEmpty tt (wNone rfl) rfl rfl rfl rfl ?_
  refine oVal tt rfl rfl rfl rfl rfl trivial ?_
  refine vNil ?_
  change VC _ _ _ _
  iterate 2 refine vSeq ?_
  refine vRegion ?_
  iterate 2 refine oVal tt rfl rfl rfl rfl rfl trivial ?_
  obtain ⟨v3, hc4, h⟩ := bind_inv h
  refine oCall (I_RigidityMatrix_w N l_0.f v3 hc4) rfl rfl rfl rfl rfl rfl rfl rfl ⟨⟨rfl, rfl, rfl, trivial⟩, trivial⟩ ?_
  iterate 2 refine oVal tt rfl rfl rfl rfl rfl trivial ?_
  refine vNil ?_
  change VC _ _ _ _
  refine vJoin (F := fun k => I_LinkageFreedom_l1 N v2 v3 k) h (α := List (List Int)) (J := fun (l30 : List (List Int)) => (⟨[(3, .row 1140 0 v2.length), (4, .row 49 0 l30.length)], [(1140, some (3, .ints v2)), (49, some (27, .intss l30))], []⟩ : PS)) ?_ ?_
  ·rintro l30 h
   show VC _ _ _ (⟨[(3, .row 1140 0 v2.length), (4, .row 49 0 l30.length)], [(1140, some (3, .ints v2)), (49, some (27, .intss l30))], []⟩ : PS)
   refine vSeq ?_
   refine vRegion ?_
   iterate 2 refine oVal tt rfl rfl rfl rfl rfl trivial ?_
   obtain ⟨hg5, h⟩ := grd_inv h
   refine oVal tt rfl rfl rfl rfl rfl hg5 ?_
   iterate 3 refine oVal tt rfl rfl rfl rfl rfl trivial ?_
   refine oVal tt rfl rfl rfl rfl rfl hg5 ?_
   obtain ⟨v31, hc6, h⟩ := bind_inv h
   refine oCall (I_rank_w N l30 ((2 : Int) * (v2.length : Int)) v31 hc6) rfl rfl rfl rfl rfl rfl rfl rfl ⟨(.inl ⟨rfl, rfl⟩), rfl, trivial⟩ ?_
   obtain ⟨hg7, h⟩ := grd_inv h
   refine oVal tt rfl rfl rfl rfl rfl hg7 ?_
   refine oVal tt rfl rfl rfl rfl rfl trivial ?_
   refine vNil ?_
   change VC _ _ _ _
   refine vRet ?_
   change ∃ _, _
   cases h
   exact ⟨[], _, rfl, trivial, rfl, (.eq rfl), rfl⟩
  ·intro k h
   refine vBlock ?_
   refine vNilT 4 49 27 (.intss []) rfl rfl rfl rfl ?_
   refine vLoopS (α := (List (List Int)) × Int) (fun | (l45, x46) => (⟨[(3, .row 1140 0 v2.length), (4, .row 49 0 l45.length), (18, .row 1180 0 v3.length), (19, .int (v3.length : Int)), (20, .int x46)], [(1140, some (3, .ints v2)), (49, some (27, .intss l45)), (1180, some (27, .intss v3))], []⟩ : PS)) (I_LinkageFreedom_l1 N v2 v3 k) h (En.of ⟨rfl, rfl, rfl, rfl, rfl, trivial⟩ ⟨rfl, rfl, rfl, trivial⟩ trivial) (fun _ => rfl) ?_
   rintro n ⟨l45, x46⟩ h
   rw [I_LinkageFreedom_l1] at h
   show VC _ _ _ (⟨[(3, .row 1140 0 v2.length), (4, .row 49 0 l45.length), (18, .row 1180 0 v3.length), (19, .int (v3.length : Int)), (20, .int x46)], [(1140, some (3, .ints v2)), (49, some (27, .intss l45)), (1180, some (27, .intss v3))], []⟩ : PS)
   refine vSeq ?_
   refine vRegion ?_
   refine oVal tt rfl rfl rfl rfl rfl trivial ?_
   refine vNil ?_
   change VC _ _ _ _
   refine vSeq ?_
   refine vCond rfl (fun hb8 => ?_) (fun hb8 => ?_)
   ·replace h := cnd_t hb8 h
    refine vSkip ?_
    change VC _ _ _ _
    refine vSeq ?_
    refine vBlock ?_
    refine vSeq ?_
    refine vRegion ?_
    obtain ⟨hg9, h⟩ := grd_inv h
    iterate 2 refine oVal tt rfl rfl rfl rfl rfl hg9 ?_
    refine oVal tt rfl rfl rfl rfl rfl trivial ?_
    refine vNil ?_
    change VC _ _ _ _
    refine vSeq ?_
    refine vRegion ?_
    refine oEmpty tt (wNone rfl) rfl rfl rfl rfl ?_
    refine oVal tt rfl rfl rfl rfl rfl trivial ?_
    refine vNil ?_
    change VC _ _ _ _
    iterate 2 refine vSeq ?_
    refine vRegion ?_
    iterate 3 refine oVal tt rfl rfl rfl rfl rfl trivial ?_
    refine vNil ?_
    change VC _ _ _ _
    refine vJoin (F := fun k => I_LinkageFreedom_l2 N v2 v3 x46 k) h (α := List Int) (J := fun (l55 : List Int) => (⟨[(3, .row 1140 0 v2.length), (4, .row 49 0 l45.length), (7, .row 44 0 l55.length), (18, .row 1180 0 v3.length), (19, .int (v3.length : Int)), (20, .int x46)], [(1140, some (3, .ints v2)), (49, some (27, .intss l45)), (44, some (3, .ints l55)), (1180, some (27, .intss v3))], []⟩ : PS)) ?_ ?_
    ·rintro l55 h
     show VC _ _ _ (⟨[(3, .row 1140 0 v2.length), (4, .row 49 0 l45.length), (7, .row 44 0 l55.length), (18, .row 1180 0 v3.length), (19, .int (v3.length : Int)), (20, .int x46)], [(1140, some (3, .ints v2)), (49, some (27, .intss l45)), (44, some (3, .ints l55)), (1180, some (27, .intss v3))], []⟩ : PS)
     refine vRegion ?_
     iterate 2 refine oVal tt rfl rfl rfl rfl rfl trivial ?_
     refine oFreeze (t := 47) rfl rfl rfl rfl ?_
     refine oBuild tt rfl rfl rfl rfl rfl rfl rfl rfl rfl rfl rfl ?_
     obtain ⟨hg10, h⟩ := grd_inv h
     refine oAppend tt rfl rfl rfl rfl rfl rfl rfl rfl rfl rfl rfl rfl rfl rfl rfl rfl (Nat.le_of_eq (Nat.zero_add _)) hg10 ?_
     refine oVal tt rfl rfl rfl rfl rfl trivial ?_
     refine vNil ?_
     change VC _ _ _ _
     refine vRegion ?_
     obtain ⟨hg11, h⟩ := grd_inv h
     refine oVal tt rfl rfl rfl rfl rfl hg11 ?_
     refine oVal tt rfl rfl rfl rfl rfl trivial ?_
     refine vNil ?_
     change ∃ _, _
     exact ⟨((l45 ++ ([l55] : List (List Int))), (x46 + (1 : Int))), (En.of ⟨rfl, rfl, rfl, rfl, rfl, trivial⟩ ⟨rfl, rfl, rfl, trivial⟩ trivial), h⟩
    ·intro k h
     refine vBlock ?_
     refine vNilT 7 44 3 (.ints []) rfl rfl rfl rfl ?_
     refine vLoopS (α := (List Int) × Int) (fun | (l57, x58) => (⟨[(3, .row 1140 0 v2.length), (4, .row 49 0 l45.length), (6, .ro true (.ints (v3.getD ((x46).toNat) []))), (7, .row 44 0 l57.length), (18, .row 1180 0 v3.length), (19, .int (v3.length : Int)), (20, .int x46), (25, .row 1140 0 v2.length), (26, .int (v2.length : Int)), (27, .int x58)], [(1140, some (3, .ints v2)), (49, some (27, .intss l45)), (44, some (3, .ints l57)), (1180, some (27, .intss v3))], []⟩ : PS)) (I_LinkageFreedom_l2 N v2 v3 x46 k) h (En.of ⟨rfl, rfl, rfl, rfl, rfl, rfl, rfl, rfl, rfl, rfl, trivial⟩ ⟨rfl, rfl, rfl, rfl, trivial⟩ trivial) (fun _ => rfl) ?_
     rintro n ⟨l57, x58⟩ h
     rw [I_LinkageFreedom_l2] at h
     show VC _ _ _ (⟨[(3, .row 1140 0 v2.length), (4, .row 49 0 l45.length), (6, .ro true (.ints (v3.getD ((x46).toNat) []))), (7, .row 44 0 l57.length), (18, .row 1180 0 v3.length), (19, .int (v3.length : Int)), (20, .int x46), (25, .row 1140 0 v2.length), (26, .int (v2.length : Int)), (27, .int x58)], [(1140, some (3, .ints v2)), (49, some (27, .intss l45)), (44, some (3, .ints l57)), (1180, some (27, .intss v3))], []⟩ : PS)
     refine vSeq ?_
     refine vRegion ?_
     refine oVal tt rfl rfl rfl rfl rfl trivial ?_
     refine vNil ?_
     change VC _ _ _ _
     refine vSeq ?_
     refine vCond rfl (fun hb12 => ?_) (fun hb12 => ?_)
     ·replace h := cnd_t hb12 h
      refine vSkip ?_
      change VC _ _ _ _
      refine vSeq ?_
      refine vBlock ?_
      refine vSeq ?_
      refine vRegion ?_
      obtain ⟨hg13, h⟩ := grd_inv h
      iterate 2 refine oVal tt rfl rfl rfl rfl rfl hg13 ?_
      refine oVal tt rfl rfl rfl rfl rfl trivial ?_
      refine vNil ?_
      change VC _ _ _ _
      refine vRegionN 13 [12] [0, 0, 0, 4, 14, 30, 0, 0, 128, 384, 960, 1984, 4094, 8191, 16383] (by kernel_rfl) (by kernel_rfl) (by kernel_rfl) (by kernel_rfl) (by kernel_rfl) rfl (by rfl) ?_
      iterate 3 refine nVal tt rfl (wNone rfl) rfl rfl rfl rfl rfl trivial ?_
      obtain ⟨hg14, h⟩ := grd_inv h
      refine nVal tt rfl (wNone rfl) rfl rfl rfl rfl rfl hg14 ?_
      obtain ⟨hg15, h⟩ := grd_inv h
      refine nVal tt rfl (wNone rfl) rfl rfl rfl rfl rfl hg15 ?_
      iterate 3 refine nVal tt rfl (wNone rfl) rfl rfl rfl rfl rfl trivial ?_
      refine nVal tt rfl (wNone rfl) rfl rfl rfl rfl rfl hg14 ?_
      obtain ⟨hg16, h⟩ := grd_inv h
      refine nVal tt rfl (wNone rfl) rfl rfl rfl rfl rfl hg16 ?_
      obtain ⟨hg17, h⟩ := grd_inv h
      refine nVal tt rfl (wNone rfl) rfl rfl rfl rfl rfl hg17 ?_
      refine nVal tt rfl (wNone rfl) rfl rfl rfl rfl rfl trivial ?_
      refine nBuild tt (wNone rfl) rfl rfl rfl rfl rfl rfl rfl rfl rfl rfl rfl rfl ?_
      refine nNil ?_
      change VO _ _ _ _ _
      obtain ⟨hg18, h⟩ := grd_inv h
      refine oAppend tt rfl rfl rfl rfl rfl rfl rfl rfl rfl rfl rfl rfl rfl rfl rfl rfl (Nat.le_of_eq (Nat.zero_add _)) hg18 ?_
      refine oVal tt rfl rfl rfl rfl rfl trivial ?_
      refine vNil ?_
      change VC _ _ _ _
      refine vRegion ?_
      obtain ⟨hg19, h⟩ := grd_inv h
      refine oVal tt rfl rfl rfl rfl rfl hg19 ?_
      refine oVal tt rfl rfl rfl rfl rfl trivial ?_
      refine vNil ?_
      change ∃ _, _
      exact ⟨((l57 ++ ([((v3.getD ((x46).toNat) []).getD ((((2 : Int) * (v2.getD ((x58).toNat) 0))).toNat) 0), ((v3.getD ((x46).toNat) []).getD (((((2 : Int) * (v2.getD ((x58).toNat) 0)) + (1 : Int))).toNat) 0)] : List Int)), (x58 + (1 : Int))), (En.of ⟨rfl, rfl, rfl, rfl, rfl, rfl, rfl, rfl, rfl, rfl, trivial⟩ ⟨rfl, rfl, rfl, rfl, trivial⟩ trivial), h⟩
     ·replace h := cnd_f hb12 h
      refine vExit ?_
      change ∃ _, _
      exact ⟨l57, (En.of ⟨rfl, rfl, rfl, rfl, rfl, rfl, trivial⟩ ⟨rfl, rfl, rfl, rfl, trivial⟩ trivial), h⟩
   ·replace h := cnd_f hb8 h
    refine vExit ?_
    change ∃ _, _
    exact ⟨l45, (En.of ⟨rfl, rfl, trivial⟩ ⟨rfl, rfl, trivial⟩ trivial), h⟩
end Go.Proofs.Ytcljhpldfanhkaa
namespace Go.Proofs.Ytcljhpldfanhkaa
variable {N : Nat}
theorem gcd_l (k : Int → Option Int) : ∀ (f a b fuel : Nat), b < 2 ^ f → 2 * f < fuel → S_GcdOf_l1 N k fuel ((a : Int), (b : Int)) = k ((Nat.gcd a b : Nat) : Int) := by
 have step : ∀ (a b fuel : Nat), 0 < b → S_GcdOf_l1 N k (fuel + 1) ((a : Int), (b : Int)) = S_GcdOf_l1 N k fuel ((b : Int), ((a % b : Nat) : Int)) := fun a b fuel hb => by
  have e : Int.tmod (a : Int) (b : Int) = ((a % b : Nat) : Int) := rfl
  rw [S_GcdOf_l1, cnd_dt (by omega), grd_pos (by omega), e]
 have fin : ∀ (a fuel : Nat), S_GcdOf_l1 N k (fuel + 1) ((a : Int), ((0 : Nat) : Int)) = k (a : Int) := fun a fuel => by
  rw [S_GcdOf_l1, cnd_df (by omega)]
 have hgr : ∀ a b : Nat, Nat.gcd a b = Nat.gcd b (a % b) := fun a b => by rw [Nat.gcd_comm a b, Nat.gcd_rec b a, Nat.gcd_comm b (a % b)]
 intro f
 induction f with
 | zero =>
  intro a b fuel h1 h2
  obtain ⟨fuel, rfl⟩ : ∃ g, fuel = g + 1 := ⟨fuel - 1, by omega⟩
  have : b = 0 := by rw [Nat.pow_zero] at h1; omega
  subst this
  rw [fin, Nat.gcd_zero_right]
 | succ f ih =>
  intro a b fuel h1 h2
  obtain ⟨fuel, rfl⟩ : ∃ g, fuel = g + 2 := ⟨fuel - 2, by omega⟩
  rcases Nat.eq_zero_or_pos b with hb | hb
  ·subst hb; rw [fin, Nat.gcd_zero_right]
  ·rw [step _ _ _ hb, hgr a b]
   have hlt : a % b < b := Nat.mod_lt _ hb
   generalize a % b = r at hlt
   rcases Nat.eq_zero_or_pos r with hr | hr
   ·subst hr; rw [fin, Nat.gcd_zero_right]
   ·rw [step _ _ _ hr, hgr b r]
    have h3 : b % r < r := Nat.mod_lt _ hr
    have h4 : b % r + r ≤ b := by
     have h5 := Nat.div_add_mod b r
     have h6 : 1 ≤ b / r := (Nat.le_div_iff_mul_le hr).2 (by omega)
     have h7 : r * 1 ≤ r * (b / r) := Nat.mul_le_mul_left _ h6
     omega
    rw [Nat.pow_succ] at h1
    exact ih r (b % r) fuel (by omega) (by omega)
theorem gcd_s (hN : 4000000 ≤ N) {a b : Int} (ha : -1000000000 ≤ a ∧ a ≤ 1000000000) (hb : -1000000000 ≤ b ∧ b ≤ 1000000000) : S_GcdOf N a b = some ((Nat.gcd a.natAbs b.natAbs : Nat) : Int) := by
 unfold S_GcdOf
 have h1 : inB a (-9000000000000000000) 9000000000000000000 = true := inB_true.2 (by omega)
 have h2 : inB b (-9000000000000000000) 9000000000000000000 = true := inB_true.2 (by omega)
 have e1 : max a (-a) = ((a.natAbs : Nat) : Int) := by omega
 have e2 : max b (-b) = ((b.natAbs : Nat) : Int) := by omega
 rw [l1In_s, Option.bind_some, h1, Bool.not_true, cnd_false, l1In_s, Option.bind_some, h2, Bool.not_true, cnd_false, grd_R (by omega) (by omega), grd_R (by omega) (by omega), e1, e2]
 have h30 : (2 : Nat) ^ 30 = 1073741824 := by decide
 exact gcd_l _ 30 _ _ _ (by rw [h30]; omega) (by omega)
def gcdF (g : Nat) (l : List Int) : Nat := l.foldl (fun g x => Nat.gcd g x.natAbs) g
theorem gcdF_dvd {d : Nat} : ∀ {l : List Int} {g : Nat}, d ∣ gcdF g l ↔ d ∣ g ∧ ∀ x ∈ l, d ∣ x.natAbs
 | [], g => by simp [gcdF]
 | x :: l, g => by
  have := gcdF_dvd (d := d) (l := l) (g := Nat.gcd g x.natAbs)
  unfold gcdF at this ⊢
  rw [List.foldl_cons, this, Nat.dvd_gcd_iff]
  simp only [List.mem_cons, forall_eq_or_imp, and_assoc]
theorem gcdF_le {B : Nat} : ∀ {l : List Int} {g : Nat}, g ≤ B → (∀ x ∈ l, x.natAbs ≤ B) → gcdF g l ≤ B
 | [], g, h, _ => h
 | x :: l, g, h, h2 => by
  unfold gcdF
  rw [List.foldl_cons]
  refine gcdF_le (l := l) ?_ fun y hy => h2 y (by simp [hy])
  have hx := h2 x (by simp)
  rcases Nat.eq_zero_or_pos g with h0 | h0
  ·subst h0; rw [Nat.gcd_zero_left]; exact hx
  ·exact Nat.le_trans (Nat.gcd_le_left _ h0) h
theorem dropE {α : Type} {l : List α} {i : Nat} (d : α) (hi : i < l.length) : l.drop i = l.getD i d :: l.drop (i + 1) := by
 rw [List.drop_eq_getElem_cons hi, List.getD_eq_getElem?_getD, List.getElem?_eq_getElem hi]; rfl
theorem memE {α : Type} {l : List α} {i : Nat} (d : α) (hi : i < l.length) : l.getD i d ∈ l := by
 rw [List.getD_eq_getElem?_getD, List.getElem?_eq_getElem hi]; exact List.getElem_mem hi
def Sml (v : List Int) : Prop := v.length ≤ 100 ∧ ∀ x ∈ v, -1000000000 ≤ x ∧ x ≤ 1000000000
theorem Sml.at {v : List Int} (h : Sml v) (i : Nat) : -1000000000 ≤ v.getD i 0 ∧ v.getD i 0 ≤ 1000000000 := by
 by_cases hi : i < v.length
 ·exact h.2 _ (memE 0 hi)
 ·rw [List.getD_eq_getElem?_getD, List.getElem?_eq_none (by omega)]; simp
theorem prim_l3 (hN : 4000000 ≤ N) {v : List Int} (hv : Sml v) (k : Int → Option (List Int)) : ∀ (fuel i g : Nat), i ≤ v.length → v.length < fuel + i → g ≤ 1000000000 → S_PrimitiveVector_l3 N v k fuel ((g : Int), (i : Int)) = k ((gcdF g (v.drop i) : Nat) : Int) := by
 have hl := hv.1
 intro fuel
 induction fuel with
 | zero => intro i g h1 h2; omega
 | succ fuel ih =>
  intro i g h1 h2 h3
  rw [S_PrimitiveVector_l3]
  by_cases hi : i < v.length
  ·have hx := hv.at i
   have h1' : inB (v.getD i 0) (-9000000000000000000) 9000000000000000000 = true := inB_true.2 (by omega)
   have hle : Nat.gcd g (v.getD i 0).natAbs ≤ 1000000000 := by
    rcases Nat.eq_zero_or_pos g with h0 | h0
    ·subst h0; rw [Nat.gcd_zero_left]; omega
    ·exact Nat.le_trans (Nat.gcd_le_left _ h0) h3
   rw [cnd_dt (by omega), grd_pos (by omega), show ((i : Int)).toNat = i from by omega, l1In_s, Option.bind_some, h1', Bool.not_true, cnd_false, gcd_s hN (by omega) hx, Option.bind_some, grd_R (by omega) (by omega), succ_cast, dropE 0 hi]
   have e : (((g : Int)).natAbs) = g := by omega
   rw [e]
   refine (ih (i + 1) _ (by omega) (by omega) hle).trans ?_
   rfl
  ·rw [cnd_df (by omega), show i = v.length from by omega, List.drop_length]; rfl
theorem prim_l2 (hN : 4000000 ≤ N) {v : List Int} (hv : Sml v) (k : Int → Option (List Int)) : ∀ (fuel i : Nat) (f : Int), i ≤ v.length → v.length < fuel + i → ∃ f' : Int, S_PrimitiveVector_l2 N v k fuel (f, (i : Int)) = k f' := by
 have hl := hv.1
 intro fuel
 induction fuel with
 | zero => intro i g h1 h2; omega
 | succ fuel ih =>
  intro i f h1 h2
  rw [S_PrimitiveVector_l2]
  by_cases hi : i < v.length
  ·rw [cnd_dt (by omega)]
   cases f == (0 : Int) with
   | true =>
    rw [cnd_true, grd_pos (by omega), grd_R (by omega) (by omega), succ_cast]
    exact ih (i + 1) _ (by omega) (by omega)
   | false =>
    rw [cnd_false, grd_R (by omega) (by omega), succ_cast]
    exact ih (i + 1) _ (by omega) (by omega)
  ·rw [cnd_df (by omega)]; exact ⟨f, rfl⟩
theorem prim_l1 (hN : 4000000 ≤ N) {v : List Int} (hv : Sml v) {g : Int} (hg : g ≠ 0) (k : List Int → Option (List Int)) : ∀ (fuel i : Nat) (L : List Int), i ≤ v.length → v.length < fuel + i → L.length = i → S_PrimitiveVector_l1 N v g k fuel (L, (i : Int)) = k (L ++ (v.drop i).map fun x => Int.tdiv x g) := by
 have hl := hv.1
 intro fuel
 induction fuel with
 | zero => intro i g h1 h2; omega
 | succ fuel ih =>
  intro i L h1 h2 h3
  rw [S_PrimitiveVector_l1]
  by_cases hi : i < v.length
  ·have hx := hv.at i
   have hq : Rg64 (Int.tdiv (v.getD i 0) g) := by
    have h5 := Int.natAbs_tdiv (v.getD i 0) g
    have h6 := Nat.div_le_self (v.getD i 0).natAbs g.natAbs
    have h7 : (Int.tdiv (v.getD i 0) g).natAbs = (v.getD i 0).natAbs / g.natAbs := h5
    constructor <;> omega
   rw [cnd_dt (by omega), grd_pos (by omega), show ((i : Int)).toNat = i from by omega, grd_pos ⟨hg, hq⟩, grd_pos (by omega), grd_R (by omega) (by omega), succ_cast, dropE 0 hi]
   refine (ih (i + 1) _ (by omega) (by omega) (by rw [List.length_append, List.length_singleton]; omega)).trans ?_
   rw [List.map_cons, List.append_assoc]; rfl
  ·rw [cnd_df (by omega), show i = v.length from by omega, List.drop_length, List.map_nil, List.append_nil]
def Prm (w : List Int) : Prop := (∀ x ∈ w, x = 0) ∨ ∀ d : Nat, (∀ x ∈ w, d ∣ x.natAbs) → d = 1
theorem prim_s (hN : 4000000 ≤ N) {v : List Int} (hv : Sml v) : ∃ (w : List Int) (u : Int), S_l9Clean N v = some w ∧ w.length = v.length ∧ u ≠ 0 ∧ (∀ i, v.getD i 0 = u * w.getD i 0) ∧ Prm w := by
 have hl := hv.1
 unfold S_l9Clean S_PrimitiveVector
 have h3 := prim_l3 hN hv (fun (g9 : Int) =>
    cnd (g9 == (0 : Int)) (
     grd (v.length ≤ 4294967296) <|
     some (([] : List Int) ++ v)) (
     S_PrimitiveVector_l2 N v (fun (first12 : Int) =>
        jn (fun (g13 : Int) =>
           S_PrimitiveVector_l1 N v g13 (fun (l16 : List Int) =>
              some l16) N (([] : List Int), (0 : Int))) fun k20 =>
         cnd (decide (first12 < (0 : Int))) (
          grd (Rg64 (-g9)) <|
          k20 (-g9)) (
          k20 g9)) N ((0 : Int), (0 : Int)))) N 0 0 (by omega) (by omega) (by omega)
 rw [List.drop_zero] at h3
 rw [show S_PrimitiveVector_l3 N v _ N ((0 : Int), (0 : Int)) = _ from h3]
 have hgd : ∀ x ∈ v, gcdF 0 v ∣ x.natAbs := (gcdF_dvd.1 (Nat.dvd_refl (gcdF 0 v))).2
 have hgl : gcdF 0 v ≤ 1000000000 := gcdF_le (by omega) fun x hx => by have := hv.2 x hx; omega
 by_cases h0 : gcdF 0 v = 0
 ·have hz : ∀ x ∈ v, x = 0 := fun x hx => by
   have := hgd x hx
   rw [h0, Nat.zero_dvd] at this; omega
  rw [h0]
  show ∃ (w : List Int) (u : Int), (grd (v.length ≤ 4294967296) (some (([] : List Int) ++ v))).bind _ = some w ∧ _
  rw [grd_pos (by omega), List.nil_append, Option.bind_some]
  exact ⟨v, 1, rfl, rfl, by decide, fun i => by rw [Int.one_mul], .inl hz⟩
 ·have hne : (((gcdF 0 v : Nat) : Int) == (0 : Int)) = false := by rw [beq_eq_false_iff_ne]; omega
  rw [hne, cnd_false]
  obtain ⟨f', hf⟩ := prim_l2 hN hv (fun (first12 : Int) =>
        jn (fun (g13 : Int) =>
           S_PrimitiveVector_l1 N v g13 (fun (l16 : List Int) =>
              some l16) N (([] : List Int), (0 : Int))) fun k20 =>
         cnd (decide (first12 < (0 : Int))) (
          grd (Rg64 (-((gcdF 0 v : Nat) : Int))) <|
          k20 (-((gcdF 0 v : Nat) : Int))) (
          k20 ((gcdF 0 v : Nat) : Int))) N 0 0 (by omega) (by omega)
  rw [show S_PrimitiveVector_l2 N v _ N ((0 : Int), (0 : Int)) = _ from hf, jn_def]
  have key : ∀ u : Int, (u = ((gcdF 0 v : Nat) : Int) ∨ u = -((gcdF 0 v : Nat) : Int)) → ∃ (w : List Int) (u' : Int), (S_PrimitiveVector_l1 N v u (fun (l16 : List Int) => some l16) N (([] : List Int), (0 : Int))).bind (fun v1 => some v1) = some w ∧ w.length = v.length ∧ u' ≠ 0 ∧ (∀ i, v.getD i 0 = u' * w.getD i 0) ∧ Prm w := fun u hu => by
   have hu0 : u ≠ 0 := by omega
   have h1 := prim_l1 hN hv hu0 (fun (l16 : List Int) => some l16) N 0 [] (by omega) (by omega) rfl
   rw [List.nil_append, List.drop_zero] at h1
   have hdv : ∀ x ∈ v, u ∣ x := fun x hx => by
    have := hgd x hx
    rw [← Int.natAbs_dvd_natAbs]
    have e : u.natAbs = gcdF 0 v := by omega
    rw [e]; exact this
   refine ⟨v.map fun x => Int.tdiv x u, u, by rw [show S_PrimitiveVector_l1 N v u _ N (([] : List Int), (0 : Int)) = _ from h1]; rfl, List.length_map .., hu0, fun i => ?_, .inr fun d hd => ?_⟩
   ·by_cases hi : i < v.length
    ·rw [List.getD_eq_getElem?_getD, List.getD_eq_getElem?_getD, List.getElem?_map, List.getElem?_eq_getElem hi]
     exact (Int.mul_tdiv_cancel' (hdv _ (List.getElem_mem hi))).symm
    ·rw [List.getD_eq_getElem?_getD, List.getD_eq_getElem?_getD, List.getElem?_map, List.getElem?_eq_none (by omega)]; simp
   ·have h5 : d * gcdF 0 v ∣ gcdF 0 v := gcdF_dvd.2 ⟨Nat.dvd_zero _, fun x hx => by
     have h6 := hd _ (List.mem_map.2 ⟨x, hx, rfl⟩)
     have h7 := congrArg Int.natAbs (Int.mul_tdiv_cancel' (hdv x hx))
     rw [Int.natAbs_mul] at h7
     have e : u.natAbs = gcdF 0 v := by omega
     rw [← h7, e, Nat.mul_comm d]
     exact Nat.mul_dvd_mul_left _ h6⟩
    have h8 := Nat.le_of_dvd (by omega) h5
    have h9 : d ≤ 1 := by
     apply Classical.byContradiction
     intro hc
     have : 2 * gcdF 0 v ≤ d * gcdF 0 v := Nat.mul_le_mul_right _ (by omega)
     omega
    rcases Nat.eq_zero_or_pos d with h10 | h10
    ·subst h10
     rw [Nat.zero_mul, Nat.zero_dvd] at h5; omega
    ·omega
  cases decide (f' < (0 : Int)) with
  | true =>
   rw [cnd_true, grd_R (by omega) (by omega)]
   exact key _ (.inr rfl)
  | false =>
   rw [cnd_false]
   exact key _ (.inl rfl)
theorem mul_bd3 {a b A B : Int} (h1 : -A ≤ a ∧ a ≤ A) (h2 : -B ≤ b ∧ b ≤ B) : -(A * B) ≤ a * b ∧ a * b ≤ A * B := by
 have hA : 0 ≤ A := by omega
 have hB : 0 ≤ B := by omega
 have k1 : 0 ≤ (A - a) * (B - b) := Int.mul_nonneg (by omega) (by omega)
 have k2 : 0 ≤ (A + a) * (B + b) := Int.mul_nonneg (by omega) (by omega)
 have k3 : 0 ≤ (A - a) * (B + b) := Int.mul_nonneg (by omega) (by omega)
 have k4 : 0 ≤ (A + a) * (B - b) := Int.mul_nonneg (by omega) (by omega)
 have e1 : (A - a) * (B - b) = A * B - A * b - a * B + a * b := by grind
 have e2 : (A + a) * (B + b) = A * B + A * b + a * B + a * b := by grind
 have e3 : (A - a) * (B + b) = A * B + A * b - a * B - a * b := by grind
 have e4 : (A + a) * (B - b) = A * B - A * b + a * B - a * b := by grind
 constructor <;> omega
theorem tdiv_bd7 {x g : Int} (h : -7000 ≤ x ∧ x ≤ 7000) : -7000 ≤ Int.tdiv x g ∧ Int.tdiv x g ≤ 7000 := by
 have h5 : (Int.tdiv x g).natAbs = x.natAbs / g.natAbs := Int.natAbs_tdiv x g
 have h6 := Nat.div_le_self x.natAbs g.natAbs
 constructor <;> omega
theorem without_l (hN : 4000000 ≤ N) {a r : List Int} (hl : a.length = r.length) (hl2 : a.length ≤ 100) (ha : ∀ i, -7000 ≤ a.getD i 0 ∧ a.getD i 0 ≤ 7000) (hr : ∀ i, -7000 ≤ r.getD i 0 ∧ r.getD i 0 ≤ 7000) {j : Nat} {g : Int} (hx : -7000 ≤ Int.tdiv (r.getD j 0) g ∧ Int.tdiv (r.getD j 0) g ≤ 7000) (hy : -7000 ≤ Int.tdiv (a.getD j 0) g ∧ Int.tdiv (a.getD j 0) g ≤ 7000) (k : List Int → Option (List Int)) : ∀ (fuel i : Nat) (L : List Int), i ≤ a.length → a.length < fuel + i → L.length = i →
  S_l9Without_l1 N a r (j : Int) g k fuel (L, (i : Int)) = k (L ++ ((List.range a.length).drop i).map fun q => a.getD q 0 * Int.tdiv (r.getD j 0) g - r.getD q 0 * Int.tdiv (a.getD j 0) g) := by
 intro fuel
 induction fuel with
 | zero => intro i g h1 h2; omega
 | succ fuel ih =>
  intro i L h1 h2 h3
  rw [S_l9Without_l1]
  by_cases hi : i < a.length
  ·have p1 := mul_bd3 (ha i) hx
   have p2 := mul_bd3 (hr i) hy
   have e : (List.range a.length).drop i = i :: (List.range a.length).drop (i + 1) := by
    rw [dropE 0 (by rw [List.length_range]; exact hi)]
    congr 1
    rw [List.getD_eq_getElem?_getD, List.getElem?_range hi]; rfl
   rw [cnd_dt (by omega), grd_pos (by omega), show ((i : Int)).toNat = i from by omega, show ((j : Int)).toNat = j from by omega, grd_R (by omega) (by omega), grd_pos (by omega), grd_R (by omega) (by omega), grd_R (by omega) (by omega), grd_pos (by omega), grd_R (by omega) (by omega), succ_cast, e]
   refine (ih (i + 1) _ (by omega) (by omega) (by rw [List.length_append, List.length_singleton]; omega)).trans ?_
   rw [List.map_cons, List.append_assoc]; rfl
  ·rw [cnd_df (by omega), List.drop_of_length_le (by rw [List.length_range]; omega), List.map_nil, List.append_nil]
theorem rng_getD {l : Nat} {f : Nat → Int} {q : Nat} (hq : q < l) : ((List.range l).map f).getD q 0 = f q := by
 rw [List.getD_eq_getElem?_getD, List.getElem?_map, List.getElem?_range hq]; rfl
theorem without_s (hN : 4000000 ≤ N) {a r : List Int} (hl : a.length = r.length) (hl2 : a.length ≤ 100) (ha : ∀ i, -7000 ≤ a.getD i 0 ∧ a.getD i 0 ≤ 7000) (hr : ∀ i, -7000 ≤ r.getD i 0 ∧ r.getD i 0 ≤ 7000) {j : Nat} (hj : j < a.length) (hrj : r.getD j 0 ≠ 0) :
  ∃ (w : List Int) (z : Int), S_l9Without N a r (j : Int) = some w ∧ w.length = a.length ∧ z ≠ 0 ∧ (∀ q, q < a.length → a.getD q 0 * r.getD j 0 - r.getD q 0 * a.getD j 0 = z * w.getD q 0) ∧ Prm w := by
 have haj := ha j
 have hrj' := hr j
 obtain ⟨g, hg⟩ : ∃ g : Nat, Nat.gcd (a.getD j 0).natAbs (r.getD j 0).natAbs = g := ⟨_, rfl⟩
 have hg0 : 0 < g := by rw [← hg]; exact Nat.gcd_pos_of_pos_right _ (by omega)
 have hga : (g : Int) ∣ a.getD j 0 := by rw [← Int.natAbs_dvd_natAbs]; show g ∣ _; rw [← hg]; exact Nat.gcd_dvd_left _ _
 have hgr : (g : Int) ∣ r.getD j 0 := by rw [← Int.natAbs_dvd_natAbs]; show g ∣ _; rw [← hg]; exact Nat.gcd_dvd_right _ _
 have ex := Int.mul_tdiv_cancel' hgr
 have ey := Int.mul_tdiv_cancel' hga
 have bx := tdiv_bd7 (x := r.getD j 0) (g := (g : Int)) hrj'
 have by' := tdiv_bd7 (x := a.getD j 0) (g := (g : Int)) haj
 unfold S_l9Without
 rw [grd_pos (by omega), grd_pos (by omega), show ((j : Int)).toNat = j from by omega, gcd_s hN (by omega) (by omega), Option.bind_some, hg, grd_pos ⟨by omega, by omega, by omega⟩, grd_pos ⟨by omega, by omega, by omega⟩]
 rw [show S_l9Without_l1 N a r (j : Int) (g : Int) _ N (([] : List Int), (0 : Int)) = _ from without_l hN hl hl2 (fun i => by have := ha i; omega) (fun i => by have := hr i; omega) (by omega) (by omega) (fun (l4 : List Int) => (S_l9Clean N l4).bind fun v5 => some v5) N 0 [] (by omega) (by omega) rfl]
 rw [List.nil_append, List.drop_zero]
 have hs : Sml ((List.range a.length).map fun q => a.getD q 0 * Int.tdiv (r.getD j 0) (g : Int) - r.getD q 0 * Int.tdiv (a.getD j 0) (g : Int)) := by
  refine ⟨by rw [List.length_map, List.length_range]; exact hl2, fun x hx => ?_⟩
  obtain ⟨q, hq, rfl⟩ := List.mem_map.1 hx
  have p1 := mul_bd3 (ha q) bx
  have p2 := mul_bd3 (hr q) by'
  omega
 obtain ⟨w, u, w1, w2, w3, w4, w5⟩ := prim_s hN hs
 rw [List.length_map, List.length_range] at w2
 refine ⟨w, (g : Int) * u, by rw [w1]; rfl, w2, Int.mul_ne_zero (by omega) w3, fun q hq => ?_, w5⟩
 have h1 := w4 q
 rw [rng_getD hq] at h1
 rw [Int.mul_assoc, ← h1]
 generalize Int.tdiv (r.getD j 0) (g : Int) = x at *
 generalize Int.tdiv (a.getD j 0) (g : Int) = y at *
 rw [← ex, ← ey]
 grind
end Go.Proofs.Ytcljhpldfanhkaa
namespace Go.Proofs.Ytcljhpldfanhkaa
variable {N : Nat}
def at2 (A : List (List Int)) (i q : Nat) : Int := (A.getD i []).getD q 0
def det2 (x y : Nat → Int) (p q : Nat) : Int := x p * y q - x q * y p
def det3 (x y z : Nat → Int) (p q r : Nat) : Int := x p * det2 y z q r - x q * det2 y z p r + x r * det2 y z p q
def det4 (x y z w : Nat → Int) (p q r s : Nat) : Int := x p * det3 y z w q r s - x q * det3 y z w p r s + x r * det3 y z w p q s - x s * det3 y z w p q r
theorem det2_bd {x y : Nat → Int} {p q : Nat} (hx : ∀ q, -4 ≤ x q ∧ x q ≤ 4) (hy : ∀ q, -4 ≤ y q ∧ y q ≤ 4) : -32 ≤ det2 x y p q ∧ det2 x y p q ≤ 32 := by
 have h1 := mul_bd3 (hx p) (hy q)
 have h2 := mul_bd3 (hx q) (hy p)
 unfold det2; omega
theorem det3_bd {x y z : Nat → Int} {p q r : Nat} (hx : ∀ q, -4 ≤ x q ∧ x q ≤ 4) (hy : ∀ q, -4 ≤ y q ∧ y q ≤ 4) (hz : ∀ q, -4 ≤ z q ∧ z q ≤ 4) : -384 ≤ det3 x y z p q r ∧ det3 x y z p q r ≤ 384 := by
 have h1 := mul_bd3 (hx p) (det2_bd (p := q) (q := r) hy hz)
 have h2 := mul_bd3 (hx q) (det2_bd (p := p) (q := r) hy hz)
 have h3 := mul_bd3 (hx r) (det2_bd (p := p) (q := q) hy hz)
 unfold det3; omega
theorem det4_bd {x y z w : Nat → Int} {p q r s : Nat} (hx : ∀ q, -4 ≤ x q ∧ x q ≤ 4) (hy : ∀ q, -4 ≤ y q ∧ y q ≤ 4) (hz : ∀ q, -4 ≤ z q ∧ z q ≤ 4) (hw : ∀ q, -4 ≤ w q ∧ w q ≤ 4) : -6144 ≤ det4 x y z w p q r s ∧ det4 x y z w p q r s ≤ 6144 := by
 have h1 := mul_bd3 (hx p) (det3_bd (p := q) (q := r) (r := s) hy hz hw)
 have h2 := mul_bd3 (hx q) (det3_bd (p := p) (q := r) (r := s) hy hz hw)
 have h3 := mul_bd3 (hx r) (det3_bd (p := p) (q := q) (r := s) hy hz hw)
 have h4 := mul_bd3 (hx s) (det3_bd (p := p) (q := q) (r := r) hy hz hw)
 unfold det4; omega
theorem d2_12 (x y : Nat → Int) (p c q : Nat) : det2 x y p c * x q - x c * det2 x y p q = x p * det2 x y q c := by unfold det2; grind
theorem d2_23 (x y z : Nat → Int) (p c q : Nat) : det2 x y p c * det2 x z p q - det2 x z p c * det2 x y p q = x p * det3 x y z p c q := by unfold det3 det2; grind
theorem d3_0 (x y z : Nat → Int) (p q c t : Nat) : det3 x y z p q c * det2 x y t q - det2 x y c q * det3 x y z p q t = det2 x y p q * det3 x y z t q c := by unfold det3 det2; grind
theorem d3_1 (x y z : Nat → Int) (p q c t : Nat) : det3 x y z p q c * det2 x y p t - det2 x y p c * det3 x y z p q t = det2 x y p q * det3 x y z p t c := by unfold det3 det2; grind
theorem d3_4 (x y z w : Nat → Int) (p q c t : Nat) : det3 x y z p q c * det3 x y w p q t - det3 x y w p q c * det3 x y z p q t = det2 x y p q * det4 x y z w p q c t := by unfold det4 det3 det2; grind
def Bar (R C : Nat) (b : Nat → Nat → Int) (k c0 c1 c2 : Nat) (last : Int) (a : Nat → Nat → Int) : Prop :=
 match k with
 | 0 => last = 1 ∧ ∀ i q, i < R → q < C → a i q = b i q
 | 1 => last = b 0 c0 ∧ ∀ i q, i < R → q < C → a i q = if i = 0 then b 0 q else det2 (b 0) (b i) c0 q
 | 2 => last = det2 (b 0) (b 1) c0 c1 ∧ ∀ i q, i < R → q < C → a i q = if i = 0 then det2 (b 0) (b 1) q c1 else if i = 1 then det2 (b 0) (b 1) c0 q else det3 (b 0) (b 1) (b i) c0 c1 q
 | 3 => last = det3 (b 0) (b 1) (b 2) c0 c1 c2 ∧ ∀ i q, i < R → q < C → a i q = if i = 0 then det3 (b 0) (b 1) (b 2) q c1 c2 else if i = 1 then det3 (b 0) (b 1) (b 2) c0 q c2 else if i = 2 then det3 (b 0) (b 1) (b 2) c0 c1 q else det4 (b 0) (b 1) (b 2) (b i) c0 c1 c2 q
 | _ => True
def Sm4 (b : Nat → Nat → Int) : Prop := ∀ i q, -4 ≤ b i q ∧ b i q ≤ 4
theorem Bar.bd {R C : Nat} {b : Nat → Nat → Int} (hb : Sm4 b) {k c0 c1 c2 : Nat} {last : Int} {a : Nat → Nat → Int} (h : Bar R C b k c0 c1 c2 last a) (hk : k ≤ 3) {i q : Nat} (hi : i < R) (hq : q < C) : -6144 ≤ a i q ∧ a i q ≤ 6144 := by
 match k, hk, h with
 | 0, _, h => rw [h.2 i q hi hq]; have := hb i q; omega
 | 1, _, h =>
  rw [h.2 i q hi hq]
  split
  ·have := hb 0 q; omega
  ·have := det2_bd (p := c0) (q := q) (hb 0) (hb i); omega
 | 2, _, h =>
  rw [h.2 i q hi hq]
  split
  ·have := det2_bd (p := q) (q := c1) (hb 0) (hb 1); omega
  ·split
   ·have := det2_bd (p := c0) (q := q) (hb 0) (hb 1); omega
   ·have := det3_bd (p := c0) (q := c1) (r := q) (hb 0) (hb 1) (hb i); omega
 | 3, _, h =>
  rw [h.2 i q hi hq]
  split
  ·have := det3_bd (p := q) (q := c1) (r := c2) (hb 0) (hb 1) (hb 2); omega
  ·split
   ·have := det3_bd (p := c0) (q := q) (r := c2) (hb 0) (hb 1) (hb 2); omega
   ·split
    ·have := det3_bd (p := c0) (q := c1) (r := q) (hb 0) (hb 1) (hb 2); omega
    ·have := det4_bd (p := c0) (q := c1) (r := c2) (s := q) (hb 0) (hb 1) (hb 2) (hb i); omega
def Ord (C k c0 c1 c2 c : Nat) : Prop := (1 ≤ k → c0 < c) ∧ (2 ≤ k → c0 < c1 ∧ c1 < c) ∧ (3 ≤ k → c1 < c2 ∧ c2 < c) ∧ c < C ∧ C ≤ 4
theorem d3_pp (x y z : Nat → Int) (p r : Nat) : det3 x y z p p r = 0 := by unfold det3 det2; grind
theorem d3_pqp (x y z : Nat → Int) (p q : Nat) : det3 x y z p q p = 0 := by unfold det3 det2; grind
theorem d3_pqq (x y z : Nat → Int) (p q : Nat) : det3 x y z p q q = 0 := by unfold det3 det2; grind
theorem d4_a (x y z w : Nat → Int) (p q r : Nat) : det4 x y z w p q r p = 0 := by unfold det4 det3 det2; grind
theorem d4_b (x y z w : Nat → Int) (p q r : Nat) : det4 x y z w p q r q = 0 := by unfold det4 det3 det2; grind
theorem d4_c (x y z w : Nat → Int) (p q r : Nat) : det4 x y z w p q r r = 0 := by unfold det4 det3 det2; grind
theorem n10 : ¬ ((1 : Nat) = 0) := by decide
theorem n20 : ¬ ((2 : Nat) = 0) := by decide
theorem n21 : ¬ ((2 : Nat) = 1) := by decide
theorem n30 : ¬ ((3 : Nat) = 0) := by decide
theorem n31 : ¬ ((3 : Nat) = 1) := by decide
theorem n32 : ¬ ((3 : Nat) = 2) := by decide
theorem Bar.step {R C : Nat} {b : Nat → Nat → Int} {k c0 c1 c2 c : Nat} {last : Int} {a : Nat → Nat → Int} (h : Bar R C b k c0 c1 c2 last a) (hk : k ≤ 3) (hkR : k < R) (ho : Ord C k c0 c1 c2 c) :
  ∃ (a' : Nat → Nat → Int) (d0 d1 d2 : Nat), (∀ i q, i < R → q < C → i ≠ k → a k c * a i q - a i c * a k q = last * a' i q) ∧ (∀ q, q < C → a' k q = a k q) ∧ Bar R C b (k + 1) d0 d1 d2 (a k c) a' ∧
   ((1 ≤ k → d0 = c0) ∧ (k = 0 → d0 = c) ∧ (2 ≤ k → d1 = c1) ∧ (k = 1 → d1 = c) ∧ (3 ≤ k → d2 = c2) ∧ (k = 2 → d2 = c)) := by
 obtain ⟨o1, o2, o3, o4, o5⟩ := ho
 match k, hk, h with
 | 0, _, h =>
  obtain ⟨h1, h2⟩ := h
  refine ⟨fun i q => if i = 0 then b 0 q else det2 (b 0) (b i) c q, c, 0, 0, fun i q hi hq hne => ?_, fun q hq => ?_, ⟨?_, fun i q hi hq => rfl⟩, by omega⟩
  ·dsimp only
   rw [h2 0 c hkR o4, h2 i q hi hq, h2 i c hi o4, h2 0 q hkR hq, h1, if_neg hne]
   unfold det2; grind
  ·dsimp only; rw [if_pos rfl, h2 0 q hkR hq]
  ·rw [h2 0 c hkR o4]
 | 1, _, h =>
  obtain ⟨h1, h2⟩ := h
  have o1 := o1 (by omega)
  refine ⟨fun i q => if i = 0 then det2 (b 0) (b 1) q c else if i = 1 then det2 (b 0) (b 1) c0 q else det3 (b 0) (b 1) (b i) c0 c q, c0, c, 0, fun i q hi hq hne => ?_, fun q hq => ?_, ⟨?_, fun i q hi hq => rfl⟩, by omega⟩
  ·dsimp only
   rw [h2 1 c hkR o4, h2 i q hi hq, h2 i c hi o4, h2 1 q hkR hq, h1]
   simp only [if_neg n10]
   by_cases hi0 : i = 0
   ·simp only [if_pos hi0]; exact d2_12 _ _ _ _ _
   ·simp only [if_neg hi0, if_neg hne]; exact d2_23 _ _ _ _ _ _
  ·dsimp only; rw [h2 1 q hkR hq]; simp only [if_neg n10, if_true]
  ·rw [h2 1 c hkR o4]; simp only [if_neg n10]
 | 2, _, h =>
  obtain ⟨h1, h2⟩ := h
  refine ⟨fun i q => if i = 0 then det3 (b 0) (b 1) (b 2) q c1 c else if i = 1 then det3 (b 0) (b 1) (b 2) c0 q c else if i = 2 then det3 (b 0) (b 1) (b 2) c0 c1 q else det4 (b 0) (b 1) (b 2) (b i) c0 c1 c q, c0, c1, c, fun i q hi hq hne => ?_, fun q hq => ?_, ⟨?_, fun i q hi hq => rfl⟩, by omega⟩
  ·dsimp only
   rw [h2 2 c hkR o4, h2 i q hi hq, h2 i c hi o4, h2 2 q hkR hq, h1]
   simp only [if_neg n20, if_neg n21]
   by_cases hi0 : i = 0
   ·simp only [if_pos hi0]; exact d3_0 _ _ _ _ _ _ _
   ·simp only [if_neg hi0]
    by_cases hi1 : i = 1
    ·simp only [if_pos hi1]; exact d3_1 _ _ _ _ _ _ _
    ·simp only [if_neg hi1, if_neg hne]; exact d3_4 _ _ _ _ _ _ _ _
  ·dsimp only; rw [h2 2 q hkR hq]; simp only [if_neg n20, if_neg n21, if_true]
  ·rw [h2 2 c hkR o4]; simp only [if_neg n20, if_neg n21]
 | 3, _, h =>
  obtain ⟨h1, h2⟩ := h
  have p0 := o1 (by omega)
  have p1 := o2 (by omega)
  have p2 := o3 (by omega)
  clear o1 o2 o3
  have q3 : c = 3 := by omega
  have q2 : c2 = 2 := by omega
  have q1 : c1 = 1 := by omega
  have q0 : c0 = 0 := by omega
  have hC : C = 4 := by omega
  subst q0 q1 q2 q3
  clear p0 p1 p2
  refine ⟨fun i q => if i = 3 then a 3 q else if i = q then a 3 3 else 0, 0, 1, 2, fun i q hi hq hne => ?_, fun q hq => ?_, trivial, by omega⟩
  ·dsimp only
   rw [if_neg hne]
   have z3 : q ≠ 3 → a 3 q = 0 := fun hq3 => by
    rw [h2 3 q hkR hq]
    simp only [if_neg n30, if_neg n31, if_neg n32]
    obtain h | h | h : q = 0 ∨ q = 1 ∨ q = 2 := by omega
    all_goals (subst h; first | rw [d4_a] | rw [d4_b] | rw [d4_c])
   by_cases hq3 : q = 3
   ·subst hq3
    rw [if_neg hne, Int.mul_zero]; grind
   ·rw [z3 hq3, Int.mul_zero, Int.sub_zero]
    by_cases hiq : i = q
    ·subst hiq
     rw [if_pos rfl, h1, h2 i i hi hq]
     obtain h | h | h : i = 0 ∨ i = 1 ∨ i = 2 := by omega
     ·subst h; simp only [if_true]; exact Int.mul_comm _ _
     ·subst h; simp only [if_neg n10, if_true]; exact Int.mul_comm _ _
     ·subst h; simp only [if_neg n20, if_neg n21, if_true]; exact Int.mul_comm _ _
    ·rw [if_neg hiq, Int.mul_zero]
     have z : a i q = 0 := by
      rw [h2 i q hi hq]
      by_cases i0 : i = 0
      ·simp only [if_pos i0]
       obtain h | h : q = 1 ∨ q = 2 := by omega
       ·subst h; rw [d3_pp]
       ·subst h; rw [d3_pqp]
      ·by_cases i1 : i = 1
       ·simp only [if_neg i0, if_pos i1]
        obtain h | h : q = 0 ∨ q = 2 := by omega
        ·subst h; rw [d3_pp]
        ·subst h; rw [d3_pqq]
       ·by_cases i2 : i = 2
        ·simp only [if_neg i0, if_neg i1, if_pos i2]
         obtain h | h : q = 0 ∨ q = 1 := by omega
         ·subst h; rw [d3_pqp]
         ·subst h; rw [d3_pqq]
        ·simp only [if_neg i0, if_neg i1, if_neg i2]
         obtain h | h | h : q = 0 ∨ q = 1 ∨ q = 2 := by omega
         all_goals (subst h; first | rw [d4_a] | rw [d4_b] | rw [d4_c])
     rw [z, Int.mul_zero]
  ·dsimp only; rw [if_pos rfl]
theorem Bar.swap {R C : Nat} {b : Nat → Nat → Int} {k c0 c1 c2 : Nat} {last : Int} {a : Nat → Nat → Int} (h : Bar R C b k c0 c1 c2 last a) {p : Nat} (hkp : k ≤ p) (hp : p < R) :
  Bar R C (fun i => if i = k then b p else if i = p then b k else b i) k c0 c1 c2 last (fun i => if i = k then a p else if i = p then a k else a i) := by
 match k, h with
 | 0, h =>
  refine ⟨h.1, fun i q hi hq => ?_⟩
  dsimp only
  by_cases hk : i = 0
  ·simp only [if_pos hk]; rw [h.2 p q hp hq]
  ·simp only [if_neg hk]
   by_cases hip : i = p
   ·simp only [if_pos hip]; rw [h.2 0 q (by omega) hq]
   ·simp only [if_neg hip]; rw [h.2 i q hi hq]
 | 1, h =>
  have e0 : (if (0 : Nat) = 1 then b p else if 0 = p then b 1 else b 0) = b 0 := by rw [if_neg (show ¬ ((0 : Nat) = 1) by decide), if_neg (show ¬ (0 = p) by omega)]
  refine ⟨by rw [h.1]; dsimp only; rw [e0], fun i q hi hq => ?_⟩
  dsimp only
  rw [e0]
  by_cases hk : i = 1
  ·simp only [if_pos hk, if_neg (show ¬ (i = 0) by omega)]; rw [h.2 p q hp hq]; simp only [if_neg (show ¬ (p = 0) by omega)]
  ·simp only [if_neg hk]
   by_cases hip : i = p
   ·simp only [if_pos hip, if_neg (show ¬ (i = 0) by omega)]; rw [h.2 1 q (by omega) hq]; simp only [if_neg (show ¬ ((1 : Nat) = 0) by decide)]
   ·simp only [if_neg hip]; rw [h.2 i q hi hq]
 | 2, h =>
  have e0 : (if (0 : Nat) = 2 then b p else if 0 = p then b 2 else b 0) = b 0 := by rw [if_neg (show ¬ ((0 : Nat) = 2) by decide), if_neg (show ¬ (0 = p) by omega)]
  have e1 : (if (1 : Nat) = 2 then b p else if 1 = p then b 2 else b 1) = b 1 := by rw [if_neg (show ¬ ((1 : Nat) = 2) by decide), if_neg (show ¬ (1 = p) by omega)]
  refine ⟨by rw [h.1]; dsimp only; rw [e0, e1], fun i q hi hq => ?_⟩
  dsimp only
  rw [e0, e1]
  by_cases hk : i = 2
  ·simp only [if_pos hk, if_neg (show ¬ (i = 0) by omega), if_neg (show ¬ (i = 1) by omega)]; rw [h.2 p q hp hq]; simp only [if_neg (show ¬ (p = 0) by omega), if_neg (show ¬ (p = 1) by omega)]
  ·simp only [if_neg hk]
   by_cases hip : i = p
   ·simp only [if_pos hip, if_neg (show ¬ (i = 0) by omega), if_neg (show ¬ (i = 1) by omega)]; rw [h.2 2 q (by omega) hq]; simp only [if_neg (show ¬ ((2 : Nat) = 0) by decide), if_neg (show ¬ ((2 : Nat) = 1) by decide)]
   ·simp only [if_neg hip]; rw [h.2 i q hi hq]
 | 3, h =>
  have e0 : (if (0 : Nat) = 3 then b p else if 0 = p then b 3 else b 0) = b 0 := by rw [if_neg (show ¬ ((0 : Nat) = 3) by decide), if_neg (show ¬ (0 = p) by omega)]
  have e1 : (if (1 : Nat) = 3 then b p else if 1 = p then b 3 else b 1) = b 1 := by rw [if_neg (show ¬ ((1 : Nat) = 3) by decide), if_neg (show ¬ (1 = p) by omega)]
  have e2 : (if (2 : Nat) = 3 then b p else if 2 = p then b 3 else b 2) = b 2 := by rw [if_neg (show ¬ ((2 : Nat) = 3) by decide), if_neg (show ¬ (2 = p) by omega)]
  refine ⟨by rw [h.1]; dsimp only; rw [e0, e1, e2], fun i q hi hq => ?_⟩
  dsimp only
  rw [e0, e1, e2]
  by_cases hk : i = 3
  ·simp only [if_pos hk, if_neg (show ¬ (i = 0) by omega), if_neg (show ¬ (i = 1) by omega), if_neg (show ¬ (i = 2) by omega)]; rw [h.2 p q hp hq]; simp only [if_neg (show ¬ (p = 0) by omega), if_neg (show ¬ (p = 1) by omega), if_neg (show ¬ (p = 2) by omega)]
  ·simp only [if_neg hk]
   by_cases hip : i = p
   ·simp only [if_pos hip, if_neg (show ¬ (i = 0) by omega), if_neg (show ¬ (i = 1) by omega), if_neg (show ¬ (i = 2) by omega)]; rw [h.2 3 q (by omega) hq]; simp only [if_neg (show ¬ ((3 : Nat) = 0) by decide), if_neg (show ¬ ((3 : Nat) = 1) by decide), if_neg (show ¬ ((3 : Nat) = 2) by decide)]
   ·simp only [if_neg hip]; rw [h.2 i q hi hq]
 | k + 4, h => exact trivial
theorem Bar.ext {R C : Nat} {b : Nat → Nat → Int} {k c0 c1 c2 : Nat} {last : Int} {a a2 : Nat → Nat → Int} (h : Bar R C b k c0 c1 c2 last a) (he : ∀ i q, i < R → q < C → a2 i q = a i q) : Bar R C b k c0 c1 c2 last a2 := by
 match k, h with
 | 0, h => exact ⟨h.1, fun i q hi hq => by rw [he i q hi hq]; exact h.2 i q hi hq⟩
 | 1, h => exact ⟨h.1, fun i q hi hq => by rw [he i q hi hq]; exact h.2 i q hi hq⟩
 | 2, h => exact ⟨h.1, fun i q hi hq => by rw [he i q hi hq]; exact h.2 i q hi hq⟩
 | 3, h => exact ⟨h.1, fun i q hi hq => by rw [he i q hi hq]; exact h.2 i q hi hq⟩
 | k + 4, h => exact trivial
theorem mult_of {C : Nat} {W : List Int} (hW : W.length = C) (hP : Prm W) {x : Nat → Int} {last w : Int} (hl : last ≠ 0) (hw : w ≠ 0) (h : ∀ q, q < C → last * x q = w * W.getD q 0) : ∃ u : Int, u ≠ 0 ∧ ∀ q, q < C → x q = u * W.getD q 0 := by
 rcases hP with hz | hp
 ·refine ⟨1, by decide, fun q hq => ?_⟩
  have e : W.getD q 0 = 0 := hz _ (memE 0 (by omega))
  have h1 := h q hq
  rw [e, Int.mul_zero] at h1
  rw [e, Int.mul_zero]
  exact (Int.mul_eq_zero.1 h1).resolve_left hl
 ·have hg : 0 < Nat.gcd last.natAbs w.natAbs := Nat.gcd_pos_of_pos_left _ (by omega)
  have h1 : last.natAbs / Nat.gcd last.natAbs w.natAbs = 1 := by
   refine hp _ fun y hy => ?_
   obtain ⟨q, hq, rfl⟩ := List.mem_iff_getElem.1 hy
   have h2 := h q (by omega)
   have e : W.getD q 0 = W[q] := by rw [List.getD_eq_getElem?_getD, List.getElem?_eq_getElem hq]; rfl
   rw [e] at h2
   have h3 : last.natAbs ∣ w.natAbs * (W[q]).natAbs := by
    rw [← Int.natAbs_mul, ← h2, Int.natAbs_mul]; exact Nat.dvd_mul_right _ _
   have hc := Nat.coprime_div_gcd_div_gcd hg
   have h4 : last.natAbs / Nat.gcd last.natAbs w.natAbs ∣ w.natAbs / Nat.gcd last.natAbs w.natAbs * (W[q]).natAbs := by
    obtain ⟨c, hcc⟩ := h3
    refine ⟨c, ?_⟩
    have a1 := Nat.div_mul_cancel (Nat.gcd_dvd_left last.natAbs w.natAbs)
    have a2 := Nat.div_mul_cancel (Nat.gcd_dvd_right last.natAbs w.natAbs)
    refine Nat.eq_of_mul_eq_mul_right hg ?_
    calc w.natAbs / Nat.gcd last.natAbs w.natAbs * (W[q]).natAbs * Nat.gcd last.natAbs w.natAbs = (w.natAbs / Nat.gcd last.natAbs w.natAbs * Nat.gcd last.natAbs w.natAbs) * (W[q]).natAbs := by rw [Nat.mul_assoc, Nat.mul_comm (W[q]).natAbs, ← Nat.mul_assoc]
     _ = last.natAbs * c := by rw [a2, hcc]
     _ = last.natAbs / Nat.gcd last.natAbs w.natAbs * c * Nat.gcd last.natAbs w.natAbs := by rw [Nat.mul_assoc, Nat.mul_comm c, ← Nat.mul_assoc, a1]
   exact hc.dvd_of_dvd_mul_left h4
  have h5 : last ∣ w := by
   rw [← Int.natAbs_dvd_natAbs]
   have a1 := Nat.div_mul_cancel (Nat.gcd_dvd_left last.natAbs w.natAbs)
   rw [h1, Nat.one_mul] at a1
   rw [← a1]
   exact Nat.gcd_dvd_right _ _
  obtain ⟨u, rfl⟩ := h5
  refine ⟨u, fun e => hw (by rw [e, Int.mul_zero]), fun q hq => ?_⟩
  have h2 := h q hq
  rw [Int.mul_assoc] at h2
  exact Int.eq_of_mul_eq_mul_left hl h2
theorem mult_bd {u s x : Int} (hu : u ≠ 0) (h : x = u * s) {B : Int} (hx : -B ≤ x ∧ x ≤ B) : -B ≤ s ∧ s ≤ B := by
 have h1 : x.natAbs = u.natAbs * s.natAbs := by rw [h, Int.natAbs_mul]
 have h2 : 1 * s.natAbs ≤ u.natAbs * s.natAbs := Nat.mul_le_mul_right _ (by omega)
 omega
end Go.Proofs.Ytcljhpldfanhkaa
namespace Go.Proofs.Ytcljhpldfanhkaa
variable {N : Nat}
theorem gset {α : Type} (l : List α) (i p : Nat) (x d : α) (hi : i < l.length) : (l.set i x).getD p d = if p = i then x else l.getD p d := by
 rw [List.getD_eq_getElem?_getD, List.getElem?_set]
 by_cases h : i = p
 ·subst h; simp [hi]
 ·rw [if_neg h, if_neg (fun e => h e.symm), List.getD_eq_getElem?_getD]
theorem ext_getD {α : Type} {A B : List α} (d : α) (hl : A.length = B.length) (h : ∀ i, i < A.length → A.getD i d = B.getD i d) : A = B := by
 apply List.ext_getElem hl
 intro i h1 h2
 have := h i h1
 rw [List.getD_eq_getElem?_getD, List.getD_eq_getElem?_getD, List.getElem?_eq_getElem h1, List.getElem?_eq_getElem h2] at this
 exact this
def tab {α : Type} (R : Nat) (f : Nat → α) : List α := (List.range R).map f
theorem tab_len {α : Type} (R : Nat) (f : Nat → α) : (tab R f).length = R := by simp [tab]
theorem tab_get {α : Type} {R : Nat} (f : Nat → α) (d : α) {i : Nat} (hi : i < R) : (tab R f).getD i d = f i := by
 unfold tab
 rw [List.getD_eq_getElem?_getD, List.getElem?_map, List.getElem?_range hi]; rfl
def rowT (L : List (List Int)) (i r C t : Nat) (d f last : Int) : List Int := tab C fun q => if q < t then Int.tdiv (d * at2 L i q - f * at2 L r q) last else at2 L i q
theorem redI3 (hN : 4000000 ≤ N) {M L : List (List Int)} {P : List Int} {last d f : Int} {c p i C : Nat} (hC : C ≤ 100) (hi : i < L.length) (hr : P.length < L.length) (hne : i ≠ P.length) (hrow : (L.getD i []).length = C) (hrowr : (L.getD P.length []).length = C)
  (hd : (((M.set P.length (M.getD p [])).set p (M.getD P.length [])).getD P.length []).getD c 0 = d) (hf : (L.getD i []).getD c 0 = f) (bd : -7000 ≤ d ∧ d ≤ 7000) (bf : -7000 ≤ f ∧ f ≤ 7000) (bL : ∀ q, q < C → -7000 ≤ at2 L i q ∧ at2 L i q ≤ 7000) (bR : ∀ q, q < C → -7000 ≤ at2 L P.length q ∧ at2 L P.length q ≤ 7000) (hl : last ≠ 0)
  (k : List (List Int) → Option (List (List Int) × List Int × Int)) : ∀ (n t fuel : Nat), t + n = C → n < fuel →
  I_reduced_l3 N (C : Int) M P last (c : Int) (p : Int) L (i : Int) k fuel (L.set i (rowT L i P.length C t d f last), (t : Int)) = k (L.set i (rowT L i P.length C C d f last)) := by
 intro n
 induction n with
 | zero =>
  intro t fuel h1 h2
  obtain ⟨fuel, rfl⟩ : ∃ g, fuel = g + 1 := ⟨fuel - 1, by omega⟩
  obtain rfl : t = C := by omega
  rw [I_reduced_l3, cnd_df (by omega)]
 | succ n ih =>
  intro t fuel h1 h2
  obtain ⟨fuel, rfl⟩ : ∃ g, fuel = g + 1 := ⟨fuel - 1, by omega⟩
  have ht : t < C := by omega
  have p1 := mul_bd3 bd (bL t ht)
  have p2 := mul_bd3 bf (bR t ht)
  have q1 : (L.set i (rowT L i P.length C t d f last)).getD i [] = rowT L i P.length C t d f last := by rw [gset _ _ _ _ _ hi, if_pos rfl]
  have q2 : (L.set i (rowT L i P.length C t d f last)).getD P.length [] = L.getD P.length [] := by rw [gset _ _ _ _ _ hi, if_neg (fun e => hne e.symm)]
  have q3 : (rowT L i P.length C t d f last).getD t 0 = at2 L i t := by unfold rowT; rw [tab_get _ _ ht, if_neg (by omega)]
  have q4 : (L.getD P.length []).getD t 0 = at2 L P.length t := rfl
  have q5 : (rowT L i P.length C t d f last).length = C := tab_len _ _
  have q6 : (L.set i (rowT L i P.length C t d f last)).length = L.length := List.length_set
  have eR : (rowT L i P.length C t d f last).set t (Int.tdiv (d * at2 L i t - f * at2 L P.length t) last) = rowT L i P.length C (t + 1) d f last := by
   refine ext_getD 0 (by rw [List.length_set, q5]; exact (tab_len _ _).symm) fun q hq => ?_
   rw [List.length_set, q5] at hq
   rw [gset _ _ _ _ _ (by rw [q5]; exact ht)]
   unfold rowT
   rw [tab_get _ _ hq, tab_get _ _ hq]
   by_cases e : q = t
   ·rw [if_pos e, if_pos (by omega), e]
   ·rw [if_neg e]
    by_cases e2 : q < t
    ·rw [if_pos e2, if_pos (by omega)]
    ·rw [if_neg e2, if_neg (by omega)]
  have hq : Rg64 (Int.tdiv (d * at2 L i t - f * at2 L P.length t) last) := by
   have h5 : (Int.tdiv (d * at2 L i t - f * at2 L P.length t) last).natAbs = (d * at2 L i t - f * at2 L P.length t).natAbs / last.natAbs := Int.natAbs_tdiv _ _
   have h6 := Nat.div_le_self (d * at2 L i t - f * at2 L P.length t).natAbs last.natAbs
   constructor <;> omega
  have hstep : I_reduced_l3 N (C : Int) M P last (c : Int) (p : Int) L (i : Int) k (fuel + 1) (L.set i (rowT L i P.length C t d f last), (t : Int)) = I_reduced_l3 N (C : Int) M P last (c : Int) (p : Int) L (i : Int) k fuel (L.set i (rowT L i P.length C (t + 1) d f last), ((t + 1 : Nat) : Int)) := by
   rw [I_reduced_l3, cnd_dt (by omega), show ((i : Int)).toNat = i from Int.toNat_natCast i, show ((t : Int)).toNat = t from Int.toNat_natCast t, show ((c : Int)).toNat = c from Int.toNat_natCast c, show ((p : Int)).toNat = p from Int.toNat_natCast p, show (((P.length : Nat) : Int)).toNat = P.length from Int.toNat_natCast _, q1, q2, q3, q4, hd, hf, q5, q6, hrowr, grd_pos (by omega), grd_pos (by omega), grd_R (by omega) (by omega), grd_pos (by omega), grd_pos (by omega), grd_R (by omega) (by omega), grd_R (by omega) (by omega), grd_pos (p := last ≠ 0 ∧ Rg64 (Int.tdiv (d * at2 L i t - f * at2 L P.length t) last)) ⟨hl, hq⟩, grd_R (by omega) (by omega), succ_cast, eR, List.set_set]
  rw [hstep]
  exact ih (t + 1) fuel (by omega) (by omega)
def stI (X : List (List Int)) (r c C R : Nat) (last : Int) (i : Nat) : List (List Int) := tab R fun t => if t < i ∧ t ≠ r then tab C fun q => Int.tdiv (at2 X r c * at2 X t q - at2 X t c * at2 X r q) last else X.getD t []
theorem redI2 (hN : 4000000 ≤ N) {v1 M : List (List Int)} {P : List Int} {last : Int} {c p C R : Nat} (hC : C ≤ 100) (hR : R ≤ 1000) (hv : v1.length = R) (hr : P.length < R) (hc : c < C) {X : List (List Int)} (hX : (M.set P.length (M.getD p [])).set p (M.getD P.length []) = X) (hXl : X.length = R) (hrow : ∀ t, t < R → (X.getD t []).length = C)
  (bX : ∀ t q, t < R → q < C → -7000 ≤ at2 X t q ∧ at2 X t q ≤ 7000) (hl : last ≠ 0) (k : List (List Int) → Option (List (List Int) × List Int × Int)) : ∀ (n i fuel : Nat), i + n = R → n < fuel →
  I_reduced_l2 N (C : Int) v1 M P last (c : Int) (p : Int) k fuel (stI X P.length c C R last i, (i : Int)) = k (stI X P.length c C R last R) := by
 have hd : (((M.set P.length (M.getD p [])).set p (M.getD P.length [])).getD P.length []).getD c 0 = at2 X P.length c := by rw [hX]; rfl
 intro n
 induction n with
 | zero =>
  intro i fuel h1 h2
  obtain ⟨fuel, rfl⟩ : ∃ g, fuel = g + 1 := ⟨fuel - 1, by omega⟩
  obtain rfl : i = R := by omega
  rw [I_reduced_l2, cnd_df (by omega)]
 | succ n ih =>
  intro i fuel h1 h2
  obtain ⟨fuel, rfl⟩ : ∃ g, fuel = g + 1 := ⟨fuel - 1, by omega⟩
  have hi : i < R := by omega
  have hlen : (stI X P.length c C R last i).length = R := tab_len _ _
  have gr : (stI X P.length c C R last i).getD P.length [] = X.getD P.length [] := by unfold stI; rw [tab_get _ _ hr, if_neg (by omega)]
  have gi : (stI X P.length c C R last i).getD i [] = X.getD i [] := by unfold stI; rw [tab_get _ _ hi, if_neg (by omega)]
  rw [I_reduced_l2, cnd_dt (by omega)]
  by_cases hir : i = P.length
  ·have e : ((i : Int) == ((P.length : Nat) : Int)) = true := by rw [beq_iff_eq]; omega
   have e2 : stI X P.length c C R last (i + 1) = stI X P.length c C R last i := by
    refine ext_getD [] (by rw [hlen]; exact tab_len _ _) fun t ht => ?_
    have ht : t < R := by rw [show (stI X P.length c C R last (i + 1)).length = R from tab_len _ _] at ht; exact ht
    unfold stI
    rw [tab_get _ _ ht, tab_get _ _ ht]
    by_cases h3 : t < i ∧ t ≠ P.length
    ·rw [if_pos h3, if_pos (by omega)]
    ·rw [if_neg h3, if_neg (by omega)]
   rw [e, cnd_true, grd_R (by omega) (by omega), succ_cast, ← e2]
   exact ih (i + 1) fuel (by omega) (by omega)
  ·have e : ((i : Int) == ((P.length : Nat) : Int)) = false := by rw [beq_eq_false_iff_ne]; omega
   have hgi : ((stI X P.length c C R last i).getD i []).length = C := by rw [gi]; exact hrow i hi
   rw [e, cnd_false, grd_pos (by omega), show ((i : Int)).toNat = i from Int.toNat_natCast i, grd_pos (by rw [hlen]; omega), grd_pos (by rw [hgi]; omega)]
   have at1 : ∀ q, at2 (stI X P.length c C R last i) i q = at2 X i q := fun q => by unfold at2; rw [gi]
   have at3 : ∀ q, at2 (stI X P.length c C R last i) P.length q = at2 X P.length q := fun q => by unfold at2; rw [gr]
   have h0 : (stI X P.length c C R last i).set i (rowT (stI X P.length c C R last i) i P.length C 0 (at2 X P.length c) (at2 X i c) last) = stI X P.length c C R last i := by
    refine ext_getD [] (by rw [List.length_set]) fun t ht => ?_
    rw [gset _ _ _ _ _ (by rw [hlen]; exact hi)]
    split
    ·rename_i hti
     rw [hti, gi]
     refine ext_getD 0 ?_ fun q hq => ?_
     ·unfold rowT; rw [tab_len]; exact (hrow i hi).symm
     ·unfold rowT at hq ⊢
      rw [tab_len] at hq
      rw [tab_get _ _ hq, if_neg (by omega), at1]; rfl
    ·rfl
   have h1' : (stI X P.length c C R last i).set i (rowT (stI X P.length c C R last i) i P.length C C (at2 X P.length c) (at2 X i c) last) = stI X P.length c C R last (i + 1) := by
    refine ext_getD [] (by rw [List.length_set, hlen]; exact (tab_len _ _).symm) fun t ht => ?_
    rw [List.length_set, hlen] at ht
    rw [gset _ _ _ _ _ (by rw [hlen]; exact hi)]
    unfold stI
    rw [tab_get _ _ ht, tab_get _ _ ht]
    by_cases hti : t = i
    ·rw [if_pos hti, if_pos (by omega), hti]
     unfold rowT
     refine ext_getD 0 (by rw [tab_len, tab_len]) fun q hq => ?_
     rw [tab_len] at hq
     rw [tab_get _ _ hq, tab_get _ _ hq, if_pos hq]
     have a1 := at1 q
     have a2 := at3 q
     unfold stI at a1 a2
     rw [a1, a2]
    ·rw [if_neg hti]
     by_cases h3 : t < i ∧ t ≠ P.length
     ·rw [if_pos h3, if_pos (by omega)]
     ·rw [if_neg h3, if_neg (by omega)]
   have h3 := redI3 hN (M := M) (L := stI X P.length c C R last i) (P := P) (last := last) (d := at2 X P.length c) (f := at2 X i c) (c := c) (p := p) (i := i) (C := C) hC (by omega) (by omega) hir hgi (by rw [gr]; exact hrow _ hr) hd (by rw [gi]; rfl) (bX _ _ hr hc) (bX _ _ hi hc) (fun q hq => by rw [at1]; exact bX _ _ hi hq) (fun q hq => by rw [at3]; exact bX _ _ hr hq) hl
    (fun (l378 : List (List Int)) => grd (Rg64 ((i : Int) + (1 : Int))) <| I_reduced_l2 N (C : Int) v1 M P last (c : Int) (p : Int) k fuel (l378, ((i : Int) + (1 : Int)))) C 0 N (by omega) (by omega)
   rw [h0, h1'] at h3
   refine Eq.trans h3 ?_
   show grd _ _ = _
   rw [grd_R (by omega) (by omega), succ_cast]
   exact ih (i + 1) fuel (by omega) (by omega)
theorem srch_x (hN : 4000000 ≤ N) {v1 l7 A S : List (List Int)} {R C c : Nat} (hR : R ≤ 1000) (hv : v1.length = R) (h7 : l7.length = R) (lA : A.length = R) (lS : S.length = R) (rA : ∀ t, t < R → (A.getD t []).length = C) (rS : ∀ t, t < R → (S.getD t []).length = C) (hc : c < C) (hz : ∀ t, t < R → (at2 A t c = 0 ↔ at2 S t c = 0))
  : ∀ (n p fI fS : Nat), p + n = R → n < fI → n < fS →
  ∃ t : Nat, p ≤ t ∧ t ≤ R ∧ (t < R → at2 A t c ≠ 0) ∧ (∀ kI : Int → Option (List (List Int) × List Int × Int), I_reduced_l4 N v1 A (c : Int) kI fI (p : Int) = kI (t : Int)) ∧ (∀ kS : Int → Option (List (List Int) × List Int), S_l9Reduced_l3 N l7 S (c : Int) kS fS (p : Int) = kS (t : Int)) := by
 intro n
 induction n with
 | zero =>
  intro p fI fS h1 h2 h3
  obtain ⟨fI, rfl⟩ : ∃ g, fI = g + 1 := ⟨fI - 1, by omega⟩
  obtain ⟨fS, rfl⟩ : ∃ g, fS = g + 1 := ⟨fS - 1, by omega⟩
  refine ⟨p, Nat.le_refl _, by omega, fun h => by omega, fun kI => ?_, fun kS => ?_⟩
  ·rw [I_reduced_l4, cnd_df (by omega)]
  ·rw [S_l9Reduced_l3, cnd_df (by omega)]
 | succ n ih =>
  intro p fI fS h1 h2 h3
  obtain ⟨fI, rfl⟩ : ∃ g, fI = g + 1 := ⟨fI - 1, by omega⟩
  obtain ⟨fS, rfl⟩ : ∃ g, fS = g + 1 := ⟨fS - 1, by omega⟩
  have hp : p < R := by omega
  have r1 := rA p hp
  have r2 := rS p hp
  have ep : ((p : Int)).toNat = p := Int.toNat_natCast p
  have ec : ((c : Int)).toNat = c := Int.toNat_natCast c
  have eI : ∀ kI : Int → Option (List (List Int) × List Int × Int), I_reduced_l4 N v1 A (c : Int) kI (fI + 1) (p : Int) = cnd (at2 A p c == 0) (I_reduced_l4 N v1 A (c : Int) kI fI ((p + 1 : Nat) : Int)) (kI (p : Int)) := fun kI => by
   rw [I_reduced_l4, cnd_dt (by omega), ep, ec, r1, grd_pos (by omega), grd_pos (by omega), grd_pos (by omega), grd_R (by omega) (by omega), succ_cast]; rfl
  have eS : ∀ kS : Int → Option (List (List Int) × List Int), S_l9Reduced_l3 N l7 S (c : Int) kS (fS + 1) (p : Int) = cnd (at2 S p c == 0) (S_l9Reduced_l3 N l7 S (c : Int) kS fS ((p + 1 : Nat) : Int)) (kS (p : Int)) := fun kS => by
   rw [S_l9Reduced_l3, cnd_dt (by omega), ep, ec, r2, grd_pos (by omega), grd_pos (by omega), grd_pos (by omega), grd_R (by omega) (by omega), succ_cast]; rfl
  by_cases h0 : at2 A p c = 0
  ·have h0' := (hz p hp).1 h0
   rw [beq_iff_eq.2 h0] at eI
   rw [beq_iff_eq.2 h0'] at eS
   obtain ⟨t, t1, t2, t3, t4, t5⟩ := ih (p + 1) fI fS (by omega) (by omega) (by omega)
   exact ⟨t, by omega, t2, t3, fun kI => (eI kI).trans (t4 kI), fun kS => (eS kS).trans (t5 kS)⟩
  ·have h0' : ¬ at2 S p c = 0 := fun e => h0 ((hz p hp).2 e)
   rw [beq_eq_false_iff_ne.2 h0] at eI
   rw [beq_eq_false_iff_ne.2 h0'] at eS
   exact ⟨p, Nat.le_refl _, by omega, fun _ => h0, eI, eS⟩
def stS (X : List (List Int)) (W : Nat → List Int) (r c R i : Nat) : List (List Int) := tab R fun t => if t < i ∧ t ≠ r ∧ at2 X t c ≠ 0 then W t else X.getD t []
theorem redS2 (hN : 4000000 ≤ N) {l7 S : List (List Int)} {P : List Int} {c p C R : Nat} (hR : R ≤ 1000) (h7 : l7.length = R) (hr : P.length < R) (hc : c < C) {X : List (List Int)} (hXl : X.length = R) (hrow : ∀ t, t < R → (X.getD t []).length = C) {W : Nat → List Int}
  (hW : ∀ t, t < R → t ≠ P.length → at2 X t c ≠ 0 → S_l9Without N (X.getD t []) (S.getD p []) (c : Int) = some (W t)) (k : List (List Int) → Option (List (List Int) × List Int)) : ∀ (n i fuel : Nat), i + n = R → n < fuel →
  S_l9Reduced_l2 N l7 S P (c : Int) (p : Int) k fuel (stS X W P.length c R i, (i : Int)) = k (stS X W P.length c R R) := by
 intro n
 induction n with
 | zero =>
  intro i fuel h1 h2
  obtain ⟨fuel, rfl⟩ : ∃ g, fuel = g + 1 := ⟨fuel - 1, by omega⟩
  obtain rfl : i = R := by omega
  rw [S_l9Reduced_l2, cnd_df (by omega)]
 | succ n ih =>
  intro i fuel h1 h2
  obtain ⟨fuel, rfl⟩ : ∃ g, fuel = g + 1 := ⟨fuel - 1, by omega⟩
  have hi : i < R := by omega
  have hlen : (stS X W P.length c R i).length = R := tab_len _ _
  have gi : (stS X W P.length c R i).getD i [] = X.getD i [] := by unfold stS; rw [tab_get _ _ hi, if_neg (by omega)]
  have same : ¬ (i ≠ P.length ∧ at2 X i c ≠ 0) → stS X W P.length c R (i + 1) = stS X W P.length c R i := fun hn => by
   refine ext_getD [] (by rw [hlen]; exact tab_len _ _) fun t ht => ?_
   have ht : t < R := by rw [show (stS X W P.length c R (i + 1)).length = R from tab_len _ _] at ht; exact ht
   unfold stS
   rw [tab_get _ _ ht, tab_get _ _ ht]
   by_cases h3 : t < i ∧ t ≠ P.length ∧ at2 X t c ≠ 0
   ·rw [if_pos h3, if_pos ⟨by omega, h3.2⟩]
   ·rw [if_neg h3, if_neg]
    rintro ⟨h4, h5⟩
    by_cases hti : t = i
    ·subst hti; exact hn h5
    ·exact h3 ⟨by omega, h5⟩
  rw [S_l9Reduced_l2, cnd_dt (by omega)]
  by_cases hir : i = P.length
  ·have e : ((i : Int) != ((P.length : Nat) : Int)) = false := by rw [bne_eq_false_iff_eq]; omega
   rw [e, cnd_false, grd_R (by omega) (by omega), succ_cast, ← same (fun h => h.1 hir)]
   exact ih (i + 1) fuel (by omega) (by omega)
  ·have e : ((i : Int) != ((P.length : Nat) : Int)) = true := by rw [bne_iff_ne]; omega
   have hgi := hrow i hi
   rw [e, cnd_true, show ((i : Int)).toNat = i from Int.toNat_natCast i, show ((c : Int)).toNat = c from Int.toNat_natCast c, show ((p : Int)).toNat = p from Int.toNat_natCast p, gi, hlen, hgi, grd_pos (by omega), grd_pos (by omega), grd_pos (by omega)]
   show cnd (at2 X i c != 0) _ _ = _
   by_cases h0 : at2 X i c = 0
   ·have e0 : (at2 X i c != 0) = false := by rw [bne_eq_false_iff_eq]; exact h0
    rw [e0, cnd_false, grd_R (by omega) (by omega), succ_cast, ← same (fun h => h.2 h0)]
    exact ih (i + 1) fuel (by omega) (by omega)
   ·have e0 : (at2 X i c != 0) = true := by rw [bne_iff_ne]; exact h0
    have nxt : (stS X W P.length c R i).set i (W i) = stS X W P.length c R (i + 1) := by
     refine ext_getD [] (by rw [List.length_set, hlen]; exact (tab_len _ _).symm) fun t ht => ?_
     rw [List.length_set, hlen] at ht
     rw [gset _ _ _ _ _ (by rw [hlen]; exact hi)]
     unfold stS
     rw [tab_get _ _ ht, tab_get _ _ ht]
     by_cases hti : t = i
     ·rw [if_pos hti, hti, if_pos ⟨by omega, hir, h0⟩]
     ·rw [if_neg hti]
      by_cases h3 : t < i ∧ t ≠ P.length ∧ at2 X t c ≠ 0
      ·rw [if_pos h3, if_pos ⟨by omega, h3.2⟩]
      ·rw [if_neg h3, if_neg (fun h => h3 ⟨by omega, h.2⟩)]
    rw [e0, cnd_true, hW i hi hir h0, Option.bind_some, grd_R (by omega) (by omega), succ_cast, nxt]
    exact ih (i + 1) fuel (by omega) (by omega)
theorem sw_get1 {X : List (List Int)} {r p t : Nat} (hr : r < X.length) (hp : p < X.length) : ((X.set r (X.getD p [])).set p (X.getD r [])).getD t [] = if t = r then X.getD p [] else if t = p then X.getD r [] else X.getD t [] := by
 rw [gset _ _ _ _ _ (by rw [List.length_set]; exact hp), gset _ _ _ _ _ hr]
 by_cases h1 : t = p
 ·rw [if_pos h1]
  by_cases h2 : t = r
  ·rw [if_pos h2, ← h1, ← h2]
  ·rw [if_neg h2, if_pos h1]
 ·rw [if_neg h1, if_neg h1]
theorem sw_get2 {X : List (List Int)} {r p t : Nat} (hr : r < X.length) (hp : p < X.length) : ((X.set p (X.getD r [])).set r (X.getD p [])).getD t [] = if t = r then X.getD p [] else if t = p then X.getD r [] else X.getD t [] := by
 rw [gset _ _ _ _ _ (by rw [List.length_set]; exact hr), gset _ _ _ _ _ hp]
structure Inv (R C : Nat) (A S : List (List Int)) (b : Nat → Nat → Int) (k c0 c1 c2 : Nat) (last : Int) : Prop where
 lA : A.length = R
 lS : S.length = R
 rA : ∀ t, t < R → (A.getD t []).length = C
 rS : ∀ t, t < R → (S.getD t []).length = C
 rel : ∀ t, t < R → ∃ u : Int, u ≠ 0 ∧ ∀ q, q < C → at2 A t q = u * at2 S t q
 prm : ∀ t, t < R → Prm (S.getD t [])
 bar : Bar R C b k c0 c1 c2 last (at2 A)
 l0 : last ≠ 0
theorem Inv.zero {R C : Nat} {A S : List (List Int)} {b : Nat → Nat → Int} {k c0 c1 c2 : Nat} {last : Int} (h : Inv R C A S b k c0 c1 c2 last) {c : Nat} (hc : c < C) : ∀ t, t < R → (at2 A t c = 0 ↔ at2 S t c = 0) := fun t ht => by
 obtain ⟨u, u0, hu⟩ := h.rel t ht
 rw [hu c hc, Int.mul_eq_zero]
 exact ⟨fun h => h.resolve_left u0, fun h => .inr h⟩
theorem Inv.pivot (hN : 4000000 ≤ N) {R C : Nat} (hC : C ≤ 4) (hR : R ≤ 1000) {A S : List (List Int)} {b : Nat → Nat → Int} (hb : Sm4 b) {P : List Int} {c0 c1 c2 : Nat} {last : Int} (h : Inv R C A S b P.length c0 c1 c2 last) {c p : Nat} (ho : Ord C P.length c0 c1 c2 c) (hk : P.length ≤ 3) (hp1 : P.length ≤ p) (hp : p < R) (hnz : at2 A p c ≠ 0) {v1 l7 : List (List Int)} (hv : v1.length = R) (h7 : l7.length = R) :
  ∃ (A' S' : List (List Int)) (b' : Nat → Nat → Int) (d0 d1 d2 : Nat), Sm4 b' ∧ Inv R C A' S' b' (P.length + 1) d0 d1 d2 (at2 A p c) ∧ ((1 ≤ P.length → d0 = c0) ∧ (P.length = 0 → d0 = c) ∧ (2 ≤ P.length → d1 = c1) ∧ (P.length = 1 → d1 = c) ∧ (3 ≤ P.length → d2 = c2) ∧ (P.length = 2 → d2 = c)) ∧
   (((A.set P.length (A.getD p [])).set p (A.getD P.length [])).getD P.length []).getD c 0 = at2 A p c ∧
   ((A.set P.length (A.getD p [])).set p (A.getD P.length [])).length = R ∧ (((A.set P.length (A.getD p [])).set p (A.getD P.length [])).getD P.length []).length = C ∧
   (∀ kI : List (List Int) → Option (List (List Int) × List Int × Int), I_reduced_l2 N (C : Int) v1 A P last (c : Int) (p : Int) kI N ((A.set P.length (A.getD p [])).set p (A.getD P.length []), (0 : Int)) = kI A') ∧
   (∀ kS : List (List Int) → Option (List (List Int) × List Int), S_l9Reduced_l2 N l7 S P (c : Int) (p : Int) kS N ((S.set p (S.getD P.length [])).set P.length (S.getD p []), (0 : Int)) = kS S') := by
 obtain ⟨lA, lS, rA, rS, rel, prm, bar, l0⟩ := h
 have hr : P.length < R := by omega
 have hc : c < C := ho.2.2.2.1
 obtain ⟨X, hX⟩ : ∃ X, (A.set P.length (A.getD p [])).set p (A.getD P.length []) = X := ⟨_, rfl⟩
 obtain ⟨Y, hY⟩ : ∃ Y, (S.set p (S.getD P.length [])).set P.length (S.getD p []) = Y := ⟨_, rfl⟩
 have gX : ∀ t, X.getD t [] = if t = P.length then A.getD p [] else if t = p then A.getD P.length [] else A.getD t [] := fun t => by rw [← hX]; exact sw_get1 (by omega) (by omega)
 have gY : ∀ t, Y.getD t [] = if t = P.length then S.getD p [] else if t = p then S.getD P.length [] else S.getD t [] := fun t => by rw [← hY]; exact sw_get2 (by omega) (by omega)
 have lX : X.length = R := by rw [← hX]; simp [lA]
 have lY : Y.length = R := by rw [← hY]; simp [lS]
 have sel3 : ∀ (Q : List Int → List Int → Prop) (hQ : ∀ t, t < R → Q (A.getD t []) (S.getD t [])) (t : Nat), t < R → Q (X.getD t []) (Y.getD t []) := fun Q hQ t ht => by
  rw [gX, gY]
  by_cases h1 : t = P.length
  ·rw [if_pos h1, if_pos h1]; exact hQ p hp
  ·rw [if_neg h1, if_neg h1]
   by_cases h2 : t = p
   ·rw [if_pos h2, if_pos h2]; exact hQ _ hr
   ·rw [if_neg h2, if_neg h2]; exact hQ t ht
 have rX : ∀ t, t < R → (X.getD t []).length = C := fun t ht => (sel3 (fun x y => x.length = C ∧ y.length = C) (fun t ht => ⟨rA t ht, rS t ht⟩) t ht).1
 have rY : ∀ t, t < R → (Y.getD t []).length = C := fun t ht => (sel3 (fun x y => x.length = C ∧ y.length = C) (fun t ht => ⟨rA t ht, rS t ht⟩) t ht).2
 have relX : ∀ t, t < R → ∃ u : Int, u ≠ 0 ∧ ∀ q, q < C → at2 X t q = u * at2 Y t q := fun t ht => sel3 (fun x y => ∃ u : Int, u ≠ 0 ∧ ∀ q, q < C → x.getD q 0 = u * y.getD q 0) (fun t ht => rel t ht) t ht
 have prmY : ∀ t, t < R → Prm (Y.getD t []) := fun t ht => sel3 (fun x y => Prm y) (fun t ht => prm t ht) t ht
 have aX : at2 X = fun i => if i = P.length then at2 A p else if i = p then at2 A P.length else at2 A i := by
  funext i q
  unfold at2
  rw [gX]
  by_cases h1 : i = P.length
  ·simp only [if_pos h1]
  ·simp only [if_neg h1]
   by_cases h2 : i = p
   ·simp only [if_pos h2]
   ·simp only [if_neg h2]
 have barX := bar.swap hp1 hp
 rw [← aX] at barX
 have hb' : Sm4 (fun i => if i = P.length then b p else if i = p then b P.length else b i) := fun i q => by
  dsimp only
  split
  ·exact hb p q
  ·split
   ·exact hb _ q
   ·exact hb i q
 have hd : at2 X P.length c = at2 A p c := by unfold at2; rw [gX, if_pos rfl]
 have bX : ∀ t q, t < R → q < C → -7000 ≤ at2 X t q ∧ at2 X t q ≤ 7000 := fun t q ht hq => by have := barX.bd hb' hk ht hq; omega
 obtain ⟨a', d0, d1, d2, s1, s2, s3, s4⟩ := barX.step hk hr ho
 rw [hd] at s1 s3
 have I2 := fun kI => redI2 hN (v1 := v1) (M := A) (P := P) (last := last) (c := c) (p := p) (C := C) (R := R) (by omega) hR hv hr hc hX lX rX bX l0 kI R 0 N (by omega) (by omega)
 have bY : ∀ t q, t < R → q < C → -7000 ≤ at2 Y t q ∧ at2 Y t q ≤ 7000 := fun t q ht hq => by
  obtain ⟨u, u0, hu⟩ := relX t ht
  exact mult_bd u0 (hu q hq) (bX t q ht hq)
 have bY' : ∀ t i, t < R → -7000 ≤ (Y.getD t []).getD i 0 ∧ (Y.getD t []).getD i 0 ≤ 7000 := fun t i ht => by
  by_cases hi : i < C
  ·exact bY t i ht hi
  ·rw [List.getD_eq_getElem?_getD, List.getElem?_eq_none (by rw [rY t ht]; omega)]; simp
 have hSp : S.getD p [] = Y.getD P.length [] := by rw [gY, if_pos rfl]
 obtain ⟨ur, ur0, hur⟩ := relX P.length hr
 have hYr : at2 Y P.length c ≠ 0 := fun e => hnz (by rw [← hd, hur c hc, e, Int.mul_zero])
 have exW : ∀ t, ∃ W : List Int, t < R → t ≠ P.length → at2 Y t c ≠ 0 → (S_l9Without N (Y.getD t []) (S.getD p []) (c : Int) = some W ∧ W.length = C ∧ (∃ z : Int, z ≠ 0 ∧ ∀ q, q < C → at2 Y t q * at2 Y P.length c - at2 Y P.length q * at2 Y t c = z * W.getD q 0) ∧ Prm W) := fun t => by
  by_cases ht : t < R
  ·obtain ⟨w, z, w1, w2, w3, w4, w5⟩ := without_s hN (a := Y.getD t []) (r := Y.getD P.length []) (by rw [rY t ht, rY _ hr]) (by rw [rY t ht]; omega) (fun i => bY' t i ht) (fun i => bY' _ i hr) (j := c) (by rw [rY t ht]; exact hc) hYr
   rw [rY t ht] at w2 w4
   exact ⟨w, fun _ _ _ => ⟨by rw [hSp]; exact w1, w2, ⟨z, w3, w4⟩, w5⟩⟩
  ·exact ⟨[], fun h => absurd h ht⟩
 let W : Nat → List Int := fun t => (exW t).choose
 have hW : ∀ t, t < R → t ≠ P.length → at2 Y t c ≠ 0 → (S_l9Without N (Y.getD t []) (S.getD p []) (c : Int) = some (W t) ∧ (W t).length = C ∧ (∃ z : Int, z ≠ 0 ∧ ∀ q, q < C → at2 Y t q * at2 Y P.length c - at2 Y P.length q * at2 Y t c = z * (W t).getD q 0) ∧ Prm (W t)) := fun t => (exW t).choose_spec
 have S2 := fun kS => redS2 hN (l7 := l7) (S := S) (P := P) (c := c) (p := p) (C := C) (R := R) hR h7 hr hc (X := Y) lY rY (W := W) (fun t h1 h2 h3 => (hW t h1 h2 h3).1) kS R 0 N (by omega) (by omega)
 have i0 : stI X P.length c C R last 0 = X := by
  refine ext_getD [] (by rw [lX]; exact tab_len _ _) fun t ht => ?_
  rw [show (stI X P.length c C R last 0).length = R from tab_len _ _] at ht
  unfold stI; rw [tab_get _ _ ht, if_neg (by omega)]
 have s0 : stS Y W P.length c R 0 = Y := by
  refine ext_getD [] (by rw [lY]; exact tab_len _ _) fun t ht => ?_
  rw [show (stS Y W P.length c R 0).length = R from tab_len _ _] at ht
  unfold stS; rw [tab_get _ _ ht, if_neg (by omega)]
 simp only [i0] at I2
 simp only [s0] at S2
 have new : ∀ t q, t < R → q < C → at2 (stI X P.length c C R last R) t q = a' t q := fun t q ht hq => by
  unfold at2 stI
  rw [tab_get _ _ ht]
  by_cases h1 : t = P.length
  ·rw [if_neg (by omega), h1]; exact (s2 q hq).symm
  ·rw [if_pos ⟨ht, h1⟩, tab_get _ _ hq, hd, s1 t q ht hq h1]
   exact Int.mul_tdiv_cancel_left _ l0
 refine ⟨stI X P.length c C R last R, stS Y W P.length c R R, _, d0, d1, d2, hb', ⟨tab_len _ _, tab_len _ _, fun t ht => ?_, fun t ht => ?_, fun t ht => ?_, fun t ht => ?_, ?_, hnz⟩, s4, ?_, ?_, ?_, fun kI => by rw [hX]; exact I2 kI, fun kS => by rw [hY]; exact S2 kS⟩
 ·unfold stI
  rw [tab_get _ _ ht]
  split
  ·exact tab_len _ _
  ·exact rX t ht
 ·unfold stS
  rw [tab_get _ _ ht]
  split
  ·rename_i h1; exact (hW t ht h1.2.1 h1.2.2).2.1
  ·exact rY t ht
 ·by_cases h1 : t = P.length
  ·refine ⟨ur, ur0, fun q hq => ?_⟩
   rw [new t q ht hq, h1, s2 q hq, hur q hq]
   unfold at2 stS
   rw [tab_get _ _ hr, if_neg (by omega)]
  ·obtain ⟨u, u0, hu⟩ := relX t ht
   have base : ∀ q, q < C → last * a' t q = u * ur * (at2 Y t q * at2 Y P.length c - at2 Y P.length q * at2 Y t c) := fun q hq => by
    rw [← s1 t q ht hq h1, ← hd, hur c hc, hu q hq, hu c hc, hur q hq]; grind
   by_cases h0 : at2 Y t c = 0
   ·obtain ⟨u', v0, hv'⟩ := mult_of (C := C) (W := Y.getD t []) (rY t ht) (prmY t ht) (x := a' t) (w := u * ur * at2 Y P.length c) l0 (Int.mul_ne_zero (Int.mul_ne_zero u0 ur0) hYr) (fun q hq => by
     rw [base q hq, h0, Int.mul_zero, Int.sub_zero]
     show _ = u * ur * at2 Y P.length c * at2 Y t q
     grind)
    refine ⟨u', v0, fun q hq => ?_⟩
    rw [new t q ht hq, hv' q hq]
    unfold at2 stS
    rw [tab_get _ _ ht, if_neg (fun h => h.2.2 h0)]
   ·obtain ⟨w1, w2, ⟨z, z0, hz⟩, w5⟩ := hW t ht h1 h0
    obtain ⟨u', v0, hv'⟩ := mult_of (C := C) (W := W t) w2 w5 (x := a' t) (w := u * ur * z) l0 (Int.mul_ne_zero (Int.mul_ne_zero u0 ur0) z0) (fun q hq => by rw [base q hq, hz q hq]; exact (Int.mul_assoc (u * ur) z _).symm)
    refine ⟨u', v0, fun q hq => ?_⟩
    rw [new t q ht hq, hv' q hq]
    show _ = u' * ((stS Y W P.length c R R).getD t []).getD q 0
    unfold stS
    rw [tab_get _ _ ht, if_pos ⟨ht, h1, h0⟩]
 ·unfold stS
  rw [tab_get _ _ ht]
  split
  ·rename_i h1; exact (hW t ht h1.2.1 h1.2.2).2.2.2
  ·exact prmY t ht
 ·refine Bar.ext s3 fun t q ht hq => new t q ht hq
 ·rw [hX]; exact hd
 ·rw [hX]; exact lX
 ·rw [hX]; exact rX _ hr
end Go.Proofs.Ytcljhpldfanhkaa
namespace Go.Proofs.Ytcljhpldfanhkaa
variable {N : Nat}
theorem red_rest (hN : 4000000 ≤ N) {R C : Nat} (hC : C ≤ 4) (hR : R ≤ 1000) {l7 S : List (List Int)} {P : List Int} (h7 : l7.length = R) (lS : S.length = R) (rS : ∀ t, t < R → (S.getD t []).length = C) (hP : P.length = R) (kS : List (List Int) × List Int → Option (List (List Int) × List Int)) : ∀ (n c fS : Nat), c + n = C → n < fS → S_l9Reduced_l1 N l7 kS fS (S, P, (c : Int)) = kS (S, P) := by
 intro n
 induction n with
 | zero =>
  intro c fS h1 h2
  obtain ⟨fS, rfl⟩ : ∃ g, fS = g + 1 := ⟨fS - 1, by omega⟩
  rw [S_l9Reduced_l1]
  by_cases hR0 : 0 < R
  ·have r0 := rS 0 hR0
   rw [cnd_dt (by omega), show ((0 : Int)).toNat = 0 from rfl, r0, grd_pos (by omega), grd_pos (by omega), cnd_df (by omega)]
  ·rw [cnd_df (by omega)]
 | succ n ih =>
  intro c fS h1 h2
  obtain ⟨fS, rfl⟩ : ∃ g, fS = g + 1 := ⟨fS - 1, by omega⟩
  rw [S_l9Reduced_l1]
  by_cases hR0 : 0 < R
  ·have r0 := rS 0 hR0
   obtain ⟨M, rfl⟩ : ∃ M, N = M + 1 := ⟨N - 1, by omega⟩
   rw [cnd_dt (by omega), show ((0 : Int)).toNat = 0 from rfl, r0, grd_pos (by omega), grd_pos (by omega), cnd_dt (by omega), S_l9Reduced_l3, cnd_df (by omega)]
   have e : (((P.length : Nat) : Int) == ((l7.length : Nat) : Int)) = true := by rw [beq_iff_eq]; omega
   rw [e, cnd_true, grd_R (by omega) (by omega), succ_cast]
   exact ih (c + 1) fS (by omega) (by omega)
  ·rw [cnd_df (by omega)]
set_option maxHeartbeats 1600000 in
theorem red_main (hN : 4000000 ≤ N) {R C : Nat} (hC : C ≤ 4) (hR : R ≤ 1000) {v1 l7 : List (List Int)} (hv : v1.length = R) (h7 : l7.length = R) (kI : List (List Int) × List Int × Int → Option (List (List Int) × List Int × Int)) (kS : List (List Int) × List Int → Option (List (List Int) × List Int)) :
  ∀ (n c : Nat) (A S : List (List Int)) (b : Nat → Nat → Int) (P : List Int) (c0 c1 c2 : Nat) (last : Int) (fI fS : Nat), c + n = C → n < fI → n < fS → Sm4 b → Inv R C A S b P.length c0 c1 c2 last → ((1 ≤ P.length → c0 < c) ∧ (2 ≤ P.length → c0 < c1 ∧ c1 < c) ∧ (3 ≤ P.length → c1 < c2 ∧ c2 < c)) → P.length ≤ c → P.length ≤ R →
  ∃ (Af Sf : List (List Int)) (Pf : List Int) (lf : Int), Af.length = R ∧ Sf.length = R ∧ Pf.length ≤ C ∧ I_reduced_l1 N (C : Int) v1 kI fI (A, P, last, (c : Int)) = kI (Af, Pf, lf) ∧ S_l9Reduced_l1 N l7 kS fS (S, P, (c : Int)) = kS (Sf, Pf) := by
 intro n
 induction n with
 | zero =>
  intro c A S b P c0 c1 c2 last fI fS h1 h2 h3 hb hi ho hk hkR
  obtain ⟨fI, rfl⟩ : ∃ g, fI = g + 1 := ⟨fI - 1, by omega⟩
  obtain ⟨fS, rfl⟩ : ∃ g, fS = g + 1 := ⟨fS - 1, by omega⟩
  refine ⟨A, S, P, last, hi.lA, hi.lS, by omega, ?_, ?_⟩
  ·rw [I_reduced_l1, cnd_df (by omega)]
  ·have lS := hi.lS
   rw [S_l9Reduced_l1]
   by_cases hR0 : 0 < R
   ·have r0 := hi.rS 0 hR0
    rw [cnd_dt (by omega), show ((0 : Int)).toNat = 0 from rfl, r0, grd_pos (by omega), grd_pos (by omega), cnd_df (by omega)]
   ·rw [cnd_df (by omega)]
 | succ n ih =>
  intro c A S b P c0 c1 c2 last fI fS h1 h2 h3 hb hi ho hk hkR
  by_cases hPR : P.length < R
  ·obtain ⟨fI, rfl⟩ : ∃ g, fI = g + 1 := ⟨fI - 1, by omega⟩
   obtain ⟨fS, rfl⟩ : ∃ g, fS = g + 1 := ⟨fS - 1, by omega⟩
   have hc : c < C := by omega
   have lA := hi.lA
   have lS := hi.lS
   have r0 := hi.rS 0 (by omega)
   obtain ⟨t, t1, t2, t3, t4, t5⟩ := srch_x hN hR hv h7 hi.lA hi.lS hi.rA hi.rS hc (hi.zero hc) (R - P.length) P.length N N (by omega) (by omega) (by omega)
   have et : ((t : Int)).toNat = t := Int.toNat_natCast t
   have ec : ((c : Int)).toNat = c := Int.toNat_natCast c
   have eP : (((P.length : Nat) : Int)).toNat = P.length := Int.toNat_natCast _
   by_cases htR : t < R
   ·have hnz := t3 htR
    obtain ⟨A', S', b', d0, d1, d2, a1, a2, a3, a4, a5, a6, a7, a8⟩ := hi.pivot hN hC hR hb (c := c) (p := t) ⟨ho.1, ho.2.1, ho.2.2, hc, hC⟩ (by omega) t1 htR hnz hv h7
    have hPl : (P ++ [(c : Int)]).length = P.length + 1 := by rw [List.length_append, List.length_singleton]
    rw [← hPl] at a2
    obtain ⟨Af, Sf, Pf, lf, b1, b2, b3, b4, b5⟩ := ih (c + 1) A' S' b' (P ++ [(c : Int)]) d0 d1 d2 (at2 A t c) fI fS (by omega) (by omega) (by omega) a1 a2 (by rw [hPl]; omega) (by omega) (by omega)
    refine ⟨Af, Sf, Pf, lf, b1, b2, b3, ?_, ?_⟩
    ·have e : ((t : Int) == ((v1.length : Nat) : Int)) = false := by rw [beq_eq_false_iff_ne]; omega
     rw [I_reduced_l1, cnd_dt (by omega), cnd_dt (by omega), t4, e, cnd_false, et, ec, eP, a4, a5, a6, grd_pos (by omega), grd_pos (by omega), grd_pos (by omega), grd_pos (by omega), grd_pos (by omega), grd_pos (by omega), a7]
     rw [grd_pos (by omega), grd_R (by omega) (by omega), succ_cast]
     exact b4
    ·have e : ((t : Int) == ((l7.length : Nat) : Int)) = false := by rw [beq_eq_false_iff_ne]; omega
     rw [S_l9Reduced_l1, cnd_dt (by omega), show ((0 : Int)).toNat = 0 from rfl, r0, grd_pos (by omega), grd_pos (by omega), cnd_dt (by omega), t5, e, cnd_false, et, eP, List.length_set, grd_pos (by omega), grd_pos (by omega), grd_pos (by omega), grd_pos (by omega), grd_pos (by omega), a8]
     rw [grd_pos (by omega), grd_R (by omega) (by omega), succ_cast]
     exact b5
   ·obtain ⟨Af, Sf, Pf, lf, b1, b2, b3, b4, b5⟩ := ih (c + 1) A S b P c0 c1 c2 last fI fS (by omega) (by omega) (by omega) hb hi (by omega) (by omega) (by omega)
    refine ⟨Af, Sf, Pf, lf, b1, b2, b3, ?_, ?_⟩
    ·have e : ((t : Int) == ((v1.length : Nat) : Int)) = true := by rw [beq_iff_eq]; omega
     rw [I_reduced_l1, cnd_dt (by omega), cnd_dt (by omega), t4, e, cnd_true, grd_R (by omega) (by omega), succ_cast]
     exact b4
    ·have e : ((t : Int) == ((l7.length : Nat) : Int)) = true := by rw [beq_iff_eq]; omega
     rw [S_l9Reduced_l1, cnd_dt (by omega), show ((0 : Int)).toNat = 0 from rfl, r0, grd_pos (by omega), grd_pos (by omega), cnd_dt (by omega), t5, e, cnd_true, grd_R (by omega) (by omega), succ_cast]
     exact b5
  ·refine ⟨A, S, P, last, hi.lA, hi.lS, by omega, ?_, red_rest hN hC hR h7 hi.lS hi.rS (by omega) kS (n + 1) c fS h1 h3⟩
   obtain ⟨fI, rfl⟩ : ∃ g, fI = g + 1 := ⟨fI - 1, by omega⟩
   rw [I_reduced_l1, cnd_dt (by omega), cnd_df (by omega)]
structure M4 (R C : Nat) (m : List (List Int)) : Prop where
 len : m.length = R
 row : ∀ t, t < R → (m.getD t []).length = C
 bd : ∀ t q, -4 ≤ at2 m t q ∧ at2 m t q ≤ 4
theorem copyL_s (hN : 4000000 ≤ N) {m : List (List Int)} (hl : m.length ≤ 1000) (hr : ∀ t, t < m.length → (m.getD t []).length ≤ 1000) : I_copyLists N m = some m := by
 have key : ∀ (fuel i : Nat), i ≤ m.length → m.length < fuel + i → I_copyLists_l1 N m (fun (l7 : List (List Int)) => some l7) fuel (m.take i, (i : Int)) = some m := by
  intro fuel
  induction fuel with
  | zero => intro i h1 h2; omega
  | succ fuel ih =>
   intro i h1 h2
   rw [I_copyLists_l1]
   by_cases hi : i < m.length
   ·have r1 := hr i hi
    have e : m.take (i + 1) = m.take i ++ [m.getD i []] := by
     rw [List.take_add_one, List.getElem?_eq_getElem hi, List.getD_eq_getElem?_getD, List.getElem?_eq_getElem hi]; rfl
    have hl2 : (m.take i).length = i := by rw [List.length_take]; omega
    unfold I_copyInts
    rw [cnd_dt (by omega), grd_pos (by omega), show ((i : Int)).toNat = i from Int.toNat_natCast i, grd_pos (by omega), Option.bind_some, grd_pos (by omega), grd_R (by omega) (by omega), succ_cast, List.nil_append, ← e]
    exact ih (i + 1) (by omega) (by omega)
   ·rw [cnd_df (by omega), List.take_of_length_le (by omega)]
 exact key N 0 (by omega) (by omega)
theorem cleanAll (hN : 4000000 ≤ N) {R C : Nat} (hC : C ≤ 4) (hR : R ≤ 1000) {m : List (List Int)} (hm : M4 R C m) : ∃ S : List (List Int), S.length = R ∧ (∀ t, t < R → (S.getD t []).length = C) ∧ (∀ t, t < R → ∃ u : Int, u ≠ 0 ∧ ∀ q, q < C → at2 m t q = u * at2 S t q) ∧ (∀ t, t < R → Prm (S.getD t [])) ∧
  ∀ kS : List (List Int) → Option (List (List Int) × List Int), S_l9Reduced_l4 N m kS N (([] : List (List Int)), (0 : Int)) = kS S := by
 have hml := hm.len
 have ex : ∀ t, ∃ w : List Int, t < R → (S_l9Clean N (m.getD t []) = some w ∧ w.length = C ∧ (∃ u : Int, u ≠ 0 ∧ ∀ q, (m.getD t []).getD q 0 = u * w.getD q 0) ∧ Prm w) := fun t => by
  by_cases ht : t < R
  ·obtain ⟨w, u, w1, w2, w3, w4, w5⟩ := prim_s hN (v := m.getD t []) ⟨by rw [hm.row t ht]; omega, fun x hx => by
    obtain ⟨q, hq, rfl⟩ := List.mem_iff_getElem.1 hx
    have := hm.bd t q
    unfold at2 at this
    rw [List.getD_eq_getElem?_getD (i := q), List.getElem?_eq_getElem hq] at this
    simp only [Option.getD_some] at this
    omega⟩
   exact ⟨w, fun _ => ⟨w1, by rw [w2]; exact hm.row t ht, ⟨u, w3, w4⟩, w5⟩⟩
  ·exact ⟨[], fun h => absurd h ht⟩
 let W : Nat → List Int := fun t => (ex t).choose
 have hW : ∀ t, t < R → (S_l9Clean N (m.getD t []) = some (W t) ∧ (W t).length = C ∧ (∃ u : Int, u ≠ 0 ∧ ∀ q, (m.getD t []).getD q 0 = u * (W t).getD q 0) ∧ Prm (W t)) := fun t => (ex t).choose_spec
 refine ⟨tab R W, tab_len _ _, fun t ht => by rw [tab_get _ _ ht]; exact (hW t ht).2.1, fun t ht => ?_, fun t ht => by rw [tab_get _ _ ht]; exact (hW t ht).2.2.2, fun kS => ?_⟩
 ·obtain ⟨u, u0, hu⟩ := (hW t ht).2.2.1
  refine ⟨u, u0, fun q hq => ?_⟩
  unfold at2
  rw [tab_get _ _ ht]; exact hu q
 ·have key : ∀ (fuel i : Nat), i ≤ R → R < fuel + i → S_l9Reduced_l4 N m kS fuel (tab i W, (i : Int)) = kS (tab R W) := by
   intro fuel
   induction fuel with
   | zero => intro i h1 h2; omega
   | succ fuel ih =>
    intro i h1 h2
    rw [S_l9Reduced_l4]
    by_cases hi : i < R
    ·have e : tab (i + 1) W = tab i W ++ [W i] := by unfold tab; rw [List.range_succ, List.map_append]; rfl
     have hl2 : (tab i W).length = i := tab_len _ _
     rw [cnd_dt (by omega), grd_pos (by omega), show ((i : Int)).toNat = i from Int.toNat_natCast i, (hW i hi).1, Option.bind_some, grd_pos (by omega), grd_R (by omega) (by omega), succ_cast, ← e]
     exact ih (i + 1) (by omega) (by omega)
    ·rw [cnd_df (by omega), show i = R from by omega]
  exact key N 0 (by omega) (by omega)
theorem rank_xx (hN : 4000000 ≤ N) {R C : Nat} (hC : C ≤ 4) (hR : R ≤ 1000) {m : List (List Int)} (hm : M4 R C m) : ∃ (Sf : List (List Int)) (Pf : List Int), Pf.length ≤ 4 ∧ S_l9Reduced N m = some (Sf, Pf) ∧ I_rank N m (C : Int) = some (Pf.length : Int) := by
 have hml := hm.len
 obtain ⟨S, s1, s2, s3, s4, s5⟩ := cleanAll hN hC hR hm
 have hinv : Inv R C m S (at2 m) 0 0 0 0 1 := ⟨hml, s1, hm.row, s2, s3, s4, ⟨rfl, fun _ _ _ _ => rfl⟩, by decide⟩
 obtain ⟨Af, Sf, Pf, lf, b1, b2, b3, b4, b5⟩ := red_main hN hC hR (v1 := m) (l7 := S) hml s1 (fun x => match x with | (l191, l192, last193) => grd (m.length = l191.length) <| some (l191, l192, last193)) (fun x => match x with | (l76, l77) => grd (S.length = l76.length) <| some (l76, l77)) C 0 m S (at2 m) [] 0 0 0 1 N N (by omega) (by omega) (by omega) hm.bd hinv (by simp) (by simp) (by simp)
 refine ⟨Sf, Pf, by omega, ?_, ?_⟩
 ·unfold S_l9Reduced
  rw [s5]
  refine Eq.trans b5 ?_
  show grd _ _ = _
  rw [grd_pos (by omega)]
 ·unfold I_rank I_reduced
  rw [copyL_s hN (by omega) (fun t ht => by rw [hm.row t (by omega)]; omega), Option.bind_some]
  have : I_reduced_l1 N (C : Int) m (fun x => match x with | (l191, l192, last193) => grd (m.length = l191.length) <| some (l191, l192, last193)) N (m, ([] : List Int), (1 : Int), (0 : Int)) = some (Af, Pf, lf) := by
   refine Eq.trans b4 ?_
   show grd _ _ = _
   rw [grd_pos (by omega)]
  refine (congrArg (fun z : Option (List (List Int) × List Int × Int) => z.bind fun v1 => some ((v1.2.1.length : Nat) : Int)) this).trans rfl
end Go.Proofs.Ytcljhpldfanhkaa
namespace Go.Proofs.Ytcljhpldfanhkaa
variable {N : Nat}
def rigR (f : Frm) (i : Nat) : List Int :=
 ((((List.replicate ((((2 : Int) * f.g.n)).toNat) (0 : Int)).set ((((2 : Int) * ((f.g.bars.getD i (0, 0)).1))).toNat) (((f.places.getD (((f.g.bars.getD i (0, 0)).1).toNat) (0, 0)).1) - ((f.places.getD (((f.g.bars.getD i (0, 0)).2).toNat) (0, 0)).1))).set (((((2 : Int) * ((f.g.bars.getD i (0, 0)).1)) + (1 : Int))).toNat) (((f.places.getD (((f.g.bars.getD i (0, 0)).1).toNat) (0, 0)).2) - ((f.places.getD (((f.g.bars.getD i (0, 0)).2).toNat) (0, 0)).2))).set ((((2 : Int) * ((f.g.bars.getD i (0, 0)).2))).toNat) (-(((f.places.getD (((f.g.bars.getD i (0, 0)).1).toNat) (0, 0)).1) - ((f.places.getD (((f.g.bars.getD i (0, 0)).2).toNat) (0, 0)).1)))).set (((((2 : Int) * ((f.g.bars.getD i (0, 0)).2)) + (1 : Int))).toNat) (-(((f.places.getD (((f.g.bars.getD i (0, 0)).1).toNat) (0, 0)).2) - ((f.places.getD (((f.g.bars.getD i (0, 0)).2).toNat) (0, 0)).2)))
theorem place_bd {f : Frm} (hf : isFr f = true) (x : Nat) : 0 ≤ (f.places.getD x (0, 0)).1 ∧ (f.places.getD x (0, 0)).1 ≤ 4 ∧ 0 ≤ (f.places.getD x (0, 0)).2 ∧ (f.places.getD x (0, 0)).2 ≤ 4 := by
 obtain ⟨_, _, _, _, h, _⟩ := isFr_parts hf
 by_cases hx : x < f.places.length
 ·exact onGrid_bd (h x hx)
 ·rw [List.getD_eq_getElem?_getD, List.getElem?_eq_none (by omega)]; simp
theorem tab_succ {α : Type} (i : Nat) (f : Nat → α) : tab (i + 1) f = tab i f ++ [f i] := by unfold tab; rw [List.range_succ, List.map_append]; rfl
set_option maxHeartbeats 1600000 in
theorem rigS_s (hN : 4000000 ≤ N) {f : Frm} (hf : isFr f = true) : S_RigidityMatrix N f = some (tab f.g.bars.length (rigR f)) := by
 obtain ⟨hg, h1, h2, h3, h4, h5⟩ := isFr_parts hf
 have hfr : S_IsFramework N f = some true := by rw [isFrS_s N hN (by omega), hf]
 unfold S_RigidityMatrix
 have key : ∀ (fuel i : Nat), i ≤ f.g.bars.length → f.g.bars.length < fuel + i → S_RigidityMatrix_l1 N f (fun (l7 : List (List Int)) => some l7) fuel (tab i (rigR f), (i : Int)) = some (tab f.g.bars.length (rigR f)) := by
  intro fuel
  induction fuel with
  | zero => intro i h1 h2; omega
  | succ fuel ih =>
   intro i h6 h7
   by_cases hi : i < f.g.bars.length
   ·have hb := bar_bdd hg hi
    have hp1 := place_bd hf ((f.g.bars.getD i (0, 0)).1.toNat)
    have hp2 := place_bd hf ((f.g.bars.getD i (0, 0)).2.toNat)
    have hl : (tab i (rigR f)).length = i := tab_len _ _
    have nx := ih (i + 1) (by omega) (by omega)
    rw [tab_succ] at nx
    unfold rigR at nx hl ⊢
    rw [S_RigidityMatrix_l1, cnd_dt (by omega), hfr, Option.bind_some, cnd_true, show ((i : Int)).toNat = i from Int.toNat_natCast i]
    generalize (f.g.bars.getD i (0, 0)).1 = a at *
    generalize (f.g.bars.getD i (0, 0)).2 = b at *
    generalize f.places.getD a.toNat (0, 0) = p at *
    generalize f.places.getD b.toNat (0, 0) = q at *
    have hz : ∀ x : Int, ((List.replicate ((2 * f.g.n).toNat) x).length : Int) = 2 * f.g.n := fun x => by rw [List.length_replicate]; omega
    have hz2 : ∀ x : Int, (List.replicate ((2 * f.g.n).toNat) x).length = (2 * f.g.n).toNat := fun x => List.length_replicate ..
    repeat rw [List.length_set]
    rw [hz]
    repeat (first | rw [grd_R (by omega) (by omega)] | rw [grd_pos (by omega)])
    rw [succ_cast]
    exact nx
   ·rw [S_RigidityMatrix_l1, cnd_df (by omega), show i = f.g.bars.length from by omega]
 exact key N 0 (by omega) (by omega)
set_option maxHeartbeats 1600000 in
theorem rigI_s (hN : 4000000 ≤ N) {f : Frm} (hf : isFr f = true) : I_RigidityMatrix N f = some (tab f.g.bars.length (rigR f)) := by
 obtain ⟨hg, h1, h2, h3, h4, h5⟩ := isFr_parts hf
 unfold I_RigidityMatrix
 rw [isFrI_s N hN (by omega), hf, Option.bind_some, Bool.not_true, cnd_false]
 have key : ∀ (fuel i : Nat), i ≤ f.g.bars.length → f.g.bars.length < fuel + i → I_RigidityMatrix_l1 N f (fun (l4 : List (List Int)) => some l4) fuel (tab i (rigR f), (i : Int)) = some (tab f.g.bars.length (rigR f)) := by
  intro fuel
  induction fuel with
  | zero => intro i h1 h2; omega
  | succ fuel ih =>
   intro i h6 h7
   by_cases hi : i < f.g.bars.length
   ·have hb := bar_bdd hg hi
    have hp1 := place_bd hf ((f.g.bars.getD i (0, 0)).1.toNat)
    have hp2 := place_bd hf ((f.g.bars.getD i (0, 0)).2.toNat)
    have hl : (tab i (rigR f)).length = i := tab_len _ _
    have nx := ih (i + 1) (by omega) (by omega)
    rw [tab_succ] at nx
    unfold rigR at nx hl ⊢
    rw [I_RigidityMatrix_l1, cnd_dt (by omega), show ((i : Int)).toNat = i from Int.toNat_natCast i]
    generalize (f.g.bars.getD i (0, 0)).1 = a at *
    generalize (f.g.bars.getD i (0, 0)).2 = b at *
    generalize f.places.getD a.toNat (0, 0) = p at *
    generalize f.places.getD b.toNat (0, 0) = q at *
    have hz : ∀ x : Int, ((List.replicate ((2 * f.g.n).toNat) x).length : Int) = 2 * f.g.n := fun x => by rw [List.length_replicate]; omega
    have e1 : q.1 - p.1 = -(p.1 - q.1) := by omega
    have e2 : q.2 - p.2 = -(p.2 - q.2) := by omega
    rw [e1, e2]
    repeat rw [List.length_set]
    rw [hz]
    repeat (first | rw [grd_R (by omega) (by omega)] | rw [grd_pos (by omega)])
    rw [succ_cast]
    exact nx
   ·rw [I_RigidityMatrix_l1, cnd_df (by omega), show i = f.g.bars.length from by omega]
 exact key N 0 (by omega) (by omega)
theorem set_bd {l : List Int} {i : Nat} {x : Int} (h : ∀ q, -4 ≤ l.getD q 0 ∧ l.getD q 0 ≤ 4) (hx : -4 ≤ x ∧ x ≤ 4) (q : Nat) : -4 ≤ (l.set i x).getD q 0 ∧ (l.set i x).getD q 0 ≤ 4 := by
 by_cases hi : i < l.length
 ·rw [gset _ _ _ _ _ hi]
  split
  ·exact hx
  ·exact h q
 ·rw [List.set_eq_of_length_le (by omega)]; exact h q
theorem rigR_len (f : Frm) (i : Nat) : (rigR f i).length = (2 * f.g.n).toNat := by
 unfold rigR
 repeat rw [List.length_set]
 rw [List.length_replicate]
theorem rigR_bd {f : Frm} (hf : isFr f = true) (i q : Nat) : -4 ≤ (rigR f i).getD q 0 ∧ (rigR f i).getD q 0 ≤ 4 := by
 have hp1 := place_bd hf ((f.g.bars.getD i (0, 0)).1.toNat)
 have hp2 := place_bd hf ((f.g.bars.getD i (0, 0)).2.toNat)
 unfold rigR
 refine set_bd (set_bd (set_bd (set_bd (fun q => ?_) ?_) ?_) ?_) ?_ q
 ·by_cases hq : q < (2 * f.g.n).toNat
  ·rw [List.getD_eq_getElem?_getD, List.getElem?_replicate, if_pos hq]; simp
  ·rw [List.getD_eq_getElem?_getD, List.getElem?_replicate, if_neg hq]; simp
 all_goals omega
def colsF (row : List Int) (F : List Int) : List Int := F.flatMap fun v => [row.getD ((2 * v).toNat) 0, row.getD ((2 * v + 1).toNat) 0]
theorem colsF_len (row : List Int) : ∀ F : List Int, (colsF row F).length = 2 * F.length
 | [] => rfl
 | v :: F => by
  have := colsF_len row F
  unfold colsF at this ⊢
  rw [List.flatMap_cons, List.length_append, this, List.length_cons]
  simp; omega
theorem colsF_bd {row : List Int} (h : ∀ q, -4 ≤ row.getD q 0 ∧ row.getD q 0 ≤ 4) (F : List Int) (q : Nat) : -4 ≤ (colsF row F).getD q 0 ∧ (colsF row F).getD q 0 ≤ 4 := by
 by_cases hq : q < (colsF row F).length
 ·have hm := memE (l := colsF row F) 0 hq
  unfold colsF at hm
  rw [List.mem_flatMap] at hm
  obtain ⟨v, _, hv⟩ := hm
  unfold colsF
  rcases List.mem_cons.1 hv with hv | hv
  ·rw [hv]; exact h _
  ·rw [List.mem_singleton.1 hv]; exact h _
 ·rw [List.getD_eq_getElem?_getD, List.getElem?_eq_none (by omega)]; simp
theorem colsF_snoc (row : List Int) (F : List Int) (v : Int) : colsF row (F ++ [v]) = colsF row F ++ [row.getD ((2 * v).toNat) 0, row.getD ((2 * v + 1).toNat) 0] := by
 unfold colsF
 rw [List.flatMap_append]; simp
theorem take_sn {l : List Int} {i : Nat} (h : i < l.length) : l.take (i + 1) = l.take i ++ [l.getD i 0] := by
 rw [List.take_add_one, List.getElem?_eq_getElem h, List.getD_eq_getElem?_getD, List.getElem?_eq_getElem h]; rfl
theorem lfS2 (hN : 4000000 ≤ N) {F : List Int} {M : List (List Int)} {n : Int} {i : Nat} (hn : 0 ≤ n ∧ n ≤ 10) (hF : F.length ≤ 2) (hFv : ∀ v ∈ F, 0 ≤ v ∧ v < n) (hi : i < M.length) (hM : M.length ≤ 100) (hr : (M.getD i []).length = (2 * n).toNat) (k : List Int → Option Int) : ∀ (fuel j : Nat), j ≤ F.length → F.length < fuel + j →
  S_LinkageFreedom_l2 N M F (i : Int) k fuel (colsF (M.getD i []) (F.take j), (j : Int)) = k (colsF (M.getD i []) F) ∧ I_LinkageFreedom_l2 N F M (i : Int) k fuel (colsF (M.getD i []) (F.take j), (j : Int)) = k (colsF (M.getD i []) F) := by
 intro fuel
 induction fuel with
 | zero => intro j h1 h2; omega
 | succ fuel ih =>
  intro j h1 h2
  by_cases hj : j < F.length
  ·have hv := hFv _ (memE 0 hj)
   have nx := ih (j + 1) (by omega) (by omega)
   rw [take_sn hj, colsF_snoc] at nx
   have hl := colsF_len (M.getD i []) (F.take j)
   rw [List.length_take] at hl
   have ei : ((i : Int)).toNat = i := Int.toNat_natCast i
   have ej : ((j : Int)).toNat = j := Int.toNat_natCast j
   constructor
   ·rw [S_LinkageFreedom_l2, cnd_dt (by omega), ei, ej, hr]
    repeat (first | rw [grd_R (by omega) (by omega)] | rw [grd_pos (by omega)])
    rw [succ_cast]
    exact nx.1
   ·rw [I_LinkageFreedom_l2, cnd_dt (by omega), ei, ej, hr]
    repeat (first | rw [grd_R (by omega) (by omega)] | rw [grd_pos (by omega)])
    rw [succ_cast]
    exact nx.2
  ·have e : F.take j = F := List.take_of_length_le (by omega)
   rw [e]
   constructor
   ·rw [S_LinkageFreedom_l2, cnd_df (by omega)]
   ·rw [I_LinkageFreedom_l2, cnd_df (by omega)]
theorem lf1 (hN : 4000000 ≤ N) {F : List Int} {M : List (List Int)} {n : Int} (hn : 0 ≤ n ∧ n ≤ 10) (hF : F.length ≤ 2) (hFv : ∀ v ∈ F, 0 ≤ v ∧ v < n) (hM : M.length ≤ 100) (hr : ∀ i, i < M.length → (M.getD i []).length = (2 * n).toNat) (kS kI : List (List Int) → Option Int) : ∀ (fuel i : Nat), i ≤ M.length → M.length < fuel + i →
  S_LinkageFreedom_l1 N M F kS fuel (tab i fun t => colsF (M.getD t []) F, (i : Int)) = kS (tab M.length fun t => colsF (M.getD t []) F) ∧ I_LinkageFreedom_l1 N F M kI fuel (tab i fun t => colsF (M.getD t []) F, (i : Int)) = kI (tab M.length fun t => colsF (M.getD t []) F) := by
 intro fuel
 induction fuel with
 | zero => intro i h1 h2; omega
 | succ fuel ih =>
  intro i h1 h2
  by_cases hi : i < M.length
  ·have nx := ih (i + 1) (by omega) (by omega)
   rw [tab_succ] at nx
   have hl : (tab i fun t => colsF (M.getD t []) F).length = i := tab_len _ _
   have z0 : ∀ row : List Int, colsF row (F.take 0) = [] := fun row => by rw [List.take_zero]; rfl
   constructor
   ·have h3 := (lfS2 hN hn hF hFv hi hM (hr i hi) (fun (l55 : List Int) =>
      grd ((tab i fun t => colsF (M.getD t []) F).length + 1 ≤ 4294967296) <|
      grd (Rg64 ((i : Int) + (1 : Int))) <|
      S_LinkageFreedom_l1 N M F kS fuel ((tab i fun t => colsF (M.getD t []) F) ++ ([l55] : List (List Int)), ((i : Int) + (1 : Int)))) N 0 (by omega) (by omega)).1
    rw [z0] at h3
    rw [S_LinkageFreedom_l1, cnd_dt (by omega)]
    refine Eq.trans h3 ?_
    show grd _ (grd _ _) = _
    rw [grd_pos (by omega), grd_R (by omega) (by omega), succ_cast]
    exact nx.1
   ·have h3 := (lfS2 hN hn hF hFv hi hM (hr i hi) (fun (l55 : List Int) =>
      grd ((tab i fun t => colsF (M.getD t []) F).length + 1 ≤ 4294967296) <|
      grd (Rg64 ((i : Int) + (1 : Int))) <|
      I_LinkageFreedom_l1 N F M kI fuel ((tab i fun t => colsF (M.getD t []) F) ++ ([l55] : List (List Int)), ((i : Int) + (1 : Int)))) N 0 (by omega) (by omega)).2
    rw [z0] at h3
    rw [I_LinkageFreedom_l1, cnd_dt (by omega), grd_pos (by omega)]
    refine Eq.trans h3 ?_
    show grd _ (grd _ _) = _
    rw [grd_pos (by omega), grd_R (by omega) (by omega), succ_cast]
    exact nx.2
  ·have e : i = M.length := by omega
   constructor
   ·rw [S_LinkageFreedom_l1, cnd_df (by omega), e]
   ·rw [I_LinkageFreedom_l1, cnd_df (by omega), e]
theorem freedom_x (hN : 4000000 ≤ N) {l : Lnk} (hp : l.f.places.length ≤ 3000000) (hg : l.ground.length ≤ 3000000) : ∃ x : Int, S_LinkageFreedom N l = some x ∧ I_LinkageFreedom N l = some x := by
 unfold S_LinkageFreedom I_LinkageFreedom
 rw [isLkS_s N hN hp hg, isLkI_s N hN hp hg, Option.bind_some, Option.bind_some]
 cases hl : isLk l with
 | false => exact ⟨-1, rfl, rfl⟩
 | true =>
  have hf := (isLk_parts hl).1
  obtain ⟨hgr, h1, h2, h3, h4, h5⟩ := isFr_parts hf
  have hnn := isGraph_nn hgr
  obtain ⟨f1, f2, f3⟩ := free_facts hl
  rw [Bool.not_true, cnd_false, cnd_false, rigS_s hN hf, rigI_s hN hf, freeS_s N hN hp hg, freeI_s N hN hp hg, Option.bind_some, Option.bind_some, Option.bind_some, Option.bind_some]
  obtain ⟨M, hM⟩ : ∃ M, tab l.f.g.bars.length (rigR l.f) = M := ⟨_, rfl⟩
  have lM : M.length = l.f.g.bars.length := by rw [← hM]; exact tab_len _ _
  have gM : ∀ i, i < M.length → M.getD i [] = rigR l.f i := fun i hi => by rw [← hM]; exact tab_get _ _ (by omega)
  rw [hM]
  have lt := lf1 hN (F := freeJ l) (M := M) (n := l.f.g.n) (by omega) f1 (fun v hv => by have := f3 v hv; omega) (by omega) (fun i hi => by rw [gM i hi]; exact rigR_len _ _)
   (fun (l30 : List (List Int)) =>
     (S_l9Reduced N l30).bind fun v31 =>
     grd (Rg64 ((2 : Int) * ((freeJ l).length : Int))) <|
     grd (Rg64 (((2 : Int) * ((freeJ l).length : Int)) - (v31.2.length : Int))) <|
     some (((2 : Int) * ((freeJ l).length : Int)) - (v31.2.length : Int)))
   (fun (l30 : List (List Int)) =>
     grd (Rg64 ((2 : Int) * ((freeJ l).length : Int))) <|
     (I_rank N l30 ((2 : Int) * ((freeJ l).length : Int))).bind fun v31 =>
     grd (Rg64 (((2 : Int) * ((freeJ l).length : Int)) - v31)) <|
     some (((2 : Int) * ((freeJ l).length : Int)) - v31)) N 0 (by omega) (by omega)
  have hm4 : M4 M.length (2 * (freeJ l).length) (tab M.length fun t => colsF (M.getD t []) (freeJ l)) := by
   refine ⟨tab_len _ _, fun t ht => by rw [tab_get _ _ ht]; exact colsF_len _ _, fun t q => ?_⟩
   unfold at2
   by_cases ht : t < M.length
   ·rw [tab_get _ _ ht]
    exact colsF_bd (fun q => by rw [gM t ht]; exact rigR_bd hf t q) _ q
   ·have e : (tab M.length fun t => colsF (M.getD t []) (freeJ l)).getD t [] = [] := by
     rw [List.getD_eq_getElem?_getD, List.getElem?_eq_none (by rw [tab_len]; omega)]; rfl
    rw [e]; simp
  obtain ⟨Sf, Pf, r1, r2, r3⟩ := rank_xx hN (by omega) (by omega) hm4
  have ec : ((2 * (freeJ l).length : Nat) : Int) = (2 : Int) * ((freeJ l).length : Int) := by omega
  rw [ec] at r3
  refine ⟨((2 : Int) * ((freeJ l).length : Int)) - (Pf.length : Int), Eq.trans lt.1 ?_, Eq.trans lt.2 ?_⟩
  ·show (S_l9Reduced N _).bind _ = _
   rw [r2, Option.bind_some]
   show grd _ (grd (Rg64 (_ - (Pf.length : Int))) _) = _
   rw [grd_R (by omega) (by omega), grd_R (by omega) (by omega)]
  ·show grd _ _ = _
   rw [grd_R (by omega) (by omega), r3, Option.bind_some, grd_R (by omega) (by omega)]
end Go.Proofs.Ytcljhpldfanhkaa
namespace Go.Proofs.Ytcljhpldfanhkaa
variable {n : Nat} {N : Nat}
end Go.Proofs.Ytcljhpldfanhkaa
namespace Go.Proofs.Ytcljhpldfanhkaa
variable {n : Nat}
end Go.Proofs.Ytcljhpldfanhkaa
namespace Go.Proofs.Ytcljhpldfanhkaa
variable {n : Nat} {N : Nat}
end Go.Proofs.Ytcljhpldfanhkaa
namespace Go.Proofs.Ytcljhpldfanhkaa
variable {n : Nat}
end Go.Proofs.Ytcljhpldfanhkaa
namespace Go.Proofs.Ytcljhpldfanhkaa
variable {n : Nat} {N : Nat}
end Go.Proofs.Ytcljhpldfanhkaa
namespace Go.Proofs.Ytcljhpldfanhkaa
variable {n : Nat} {N : Nat}
end Go.Proofs.Ytcljhpldfanhkaa
namespace Go.Proofs.Ytcljhpldfanhkaa
variable {N : Nat}
end Go.Proofs.Ytcljhpldfanhkaa
namespace Go.Proofs.Ytcljhpldfanhkaa
open Go.RowKit
end Go.Proofs.Ytcljhpldfanhkaa
namespace Go.Proofs.Ytcljhpldfanhkaa
open Go.RowKit
end Go.Proofs.Ytcljhpldfanhkaa
namespace Go.Proofs.Ytcljhpldfanhkaa
open Go.RowKit
end Go.Proofs.Ytcljhpldfanhkaa
namespace Go.Proofs.Ytcljhpldfanhkaa
variable {N : Nat}
end Go.Proofs.Ytcljhpldfanhkaa
namespace Go.Proofs.Ytcljhpldfanhkaa
open Go.RowKit
variable {n : Nat} {N : Nat}
end Go.Proofs.Ytcljhpldfanhkaa
namespace Go.Proofs.Ytcljhpldfanhkaa
open Go.RowKit
variable {n : Nat} {N : Nat}
end Go.Proofs.Ytcljhpldfanhkaa
namespace Go.Proofs.Ytcljhpldfanhkaa
open Go.RowKit
variable {n : Nat} {N : Nat}
theorem has_s (hN : 4000000 ≤ N) {l : List Int} (hl : l.length ≤ 3000000) (x : Int) : L_has N l x = some (l.contains x) := by
 have key : ∀ (fuel i : Nat), i ≤ l.length → l.length < fuel + i → L_has_l1 N l x (fun (_ : Unit) => some false) fuel (i : Int) = some ((l.drop i).contains x) := by
  intro fuel
  induction fuel with
  | zero => intro i h1 h2; omega
  | succ fuel ih =>
   intro i h1 h2
   rw [L_has_l1]
   by_cases hi : i < l.length
   ·have e2 : ((i : Int)).toNat = i := rfl
    have ed : l.drop i = l.getD i 0 :: l.drop (i + 1) := by
     rw [List.drop_eq_getElem_cons hi]; simp [List.getD_eq_getElem?_getD, hi]
    rw [cnd_dt (by omega), grd_pos (by omega), e2, ed, List.contains_cons]
    by_cases e : l.getD i 0 = x
    ·rw [cnd_eqt e, e]; simp
    ·rw [cnd_eqf e, grd_R (by omega) (by omega), succ_cast, ih (i + 1) (by omega) (by omega)]
     have : (x == l.getD i 0) = false := by simpa using fun h => e h.symm
     rw [this, Bool.false_or]
   ·rw [cnd_df (by omega), List.drop_eq_nil_of_le (by omega)]; rfl
 have := key N 0 (by omega) (by omega)
 simpa [L_has] using this
theorem sameInts_s (hN : 4000000 ≤ N) {l : List Int} (hl : l.length ≤ 3000000) : L_sameInts N l l = some true := by
 have key : ∀ (fuel i : Nat), i ≤ l.length → l.length < fuel + i → L_sameInts_l1 N l l (fun (_ : Unit) => some true) fuel (i : Int) = some true := by
  intro fuel
  induction fuel with
  | zero => intro i h1 h2; omega
  | succ fuel ih =>
   intro i h1 h2
   rw [L_sameInts_l1]
   by_cases hi : i < l.length
   ·rw [cnd_dt (by omega), grd_pos (by omega), grd_pos (by omega), cnd_nef rfl, grd_R (by omega) (by omega), succ_cast, ih (i + 1) (by omega) (by omega)]
   ·rw [cnd_df (by omega)]
 unfold L_sameInts
 rw [cnd_nef rfl]
 exact key N 0 (by omega) (by omega)
end Go.Proofs.Ytcljhpldfanhkaa
