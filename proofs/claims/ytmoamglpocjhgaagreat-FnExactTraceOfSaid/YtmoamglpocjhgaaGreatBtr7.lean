/- Texts that the proof needs, put together: M16 G103 Qp G104. -/
import Derived.Test.YtmoamglpocjhgaaGreatBtr3
import Derived.Test.YtmoamglpocjhgaaGreatBtr4
import Derived.Test.YtmoamglpocjhgaaGreatBtr5
import Derived.Test.YtmoamglpocjhgaaGreatBtr6
set_option linter.unusedVariables false
set_option linter.unusedSimpArgs false
namespace Go.Proofs.YtmoamglpocjhgaaGreat
open Go.RowKit Go.Deep
section
variable {C : Cx} {ops : Array Oper} {K : PS → Prop} {o : Oper} {rest : List Oper} {s : PS} {TT : List (Nat × Ty)} {tm : List (Nat × D)} {rw' : List (Nat × Option (TypeId × Sq))} {bx : List (Nat × Option (List D))} {cr B : List Nat} {j : Nat}
theorem pLoadIP (hT : TTOK C.P TT) {x : Operand} {t te : TypeId} {q : Sq} {offs : List (Nat × Nat)} {zs : List Value} {F k : Nat} {i : Int} {cs : List D} (hop : o.op = .load t x) (hy : look TT t = some (.st offs zs)) (hx : s.ev x = .iptr F k i 0) (hf : s.r (FK + F) = some (te, dF q)) (hq : q.deep = true) (hk : k < q.len) (hi : 0 ≤ i ∧ i < ((q.nn k).len : Int)) (hd : (q.nn k).elem true i.toNat = cs) (hz : zs.length = cs.length) (hF : Nat.blt F 4294967296 = true := by rfl) : PurF C o s (.agg cs) :=
 ⟨fun s1 hs hfk M a w hr => by
  rw [Nat.blt_eq] at hF
  have hev := hr.ev x
  rw [hs x (by rw [hop]; simp [Op.operands]), hx] at hev
  have hinn := deep_r hF hq (s := s1) (by rw [hfk _ fk_notF]; exact hf) k
  rw [if_pos hk] at hinn
  have hflat : (q.nn k).isRefs = false := nn_refs q k
  rcases hr.row _ _ _ hinn with ⟨hg, h0⟩ | ⟨g, cap, cur, hg, hh, hl, hm, hcs, hc⟩
  ·omega
  ·generalize hgv : a.eval x = v at hev
   cases hev with
   | iptr _ _ _ _ _ hv =>
    have hv' := hv g cap _ hg
    have hi' : i.toNat < (q.nn k).len := by omega
    have hsz : zs.length = (q.nn k).sz := by rw [hz, ← hd, Sq.elem_len]
    have hcell : ∀ j, j < zs.length → w.cell? ⟨g, i.toNat * (q.nn k).sz + j, none⟩ = some (cur.getD (i.toNat * (q.nn k).sz + j) undef) := fun j hj => by
     have hlt : i.toNat * (q.nn k).sz + j < cur.size := by
      rw [hcs]
      have h4 : (i.toNat + 1) * (q.nn k).sz ≤ cap * (q.nn k).sz := Nat.mul_le_mul_right _ (by omega)
      rw [Nat.add_mul, Nat.one_mul] at h4; omega
     rw [cell_of_row w g _ cur te (0, 0) hh]; simp [hlt]
    obtain ⟨⟨fs, hu, _⟩, ⟨ii, hii, hs2, _⟩, _⟩ := hT t _ hy
    have hrun := run_loadCells (P := C.P) (w := w) ⟨g, i.toNat * (q.nn k).sz, none⟩ zs.length (fun j => cur.getD (i.toNat * (q.nn k).sz + j) undef) (fun j hj => by rw [add_lit]; exact hcell j hj)
    unfold loadCells at hrun
    refine ⟨.agg (List.map (fun j => cur.getD (i.toNat * (q.nn k).sz + j) undef) (List.range zs.length)).toArray, ?_, ?_⟩
    ·have hrun2 : (Instr.loadAt t (a.eval x)).run C.P w = .ok (.agg (List.map (fun j => cur.getD (i.toNat * (q.nn k).sz + j) undef) (List.range zs.length)).toArray) w := by
      rw [hgv, hv', Nat.add_zero]
      simp [Instr.loadAt, Instr.sureAddr, loadVar, isAgg, Go.run_underlying hu, sizeOf, typeInfo, hii, hs2, go_sem, loadCells, hrun]
     unfold execOp
     rw [hop]
     show ((do pure (Next.value (← Instr.loadAt t (a.eval x))) : Sem Next)).run C.P w = _
     rw [Sem.run_bind, hrun2]; rfl
    ·refine .agg _ _ (by simp [hz]) fun j d hjd => ?_
     have hj : j < zs.length := by rw [hz]; exact (List.getElem?_eq_some_iff.1 hjd).1
     have := hc i.toNat j d hi' (by rw [Sq.relem_eq hflat, hd]; exact hjd)
     simpa [hj] using this⟩
end
end Go.Proofs.YtmoamglpocjhgaaGreat
namespace Go.Proofs.YtmoamglpocjhgaaGreat
open Go.RowKit Go.Deep
def I_TraceOf_l1 (N : Nat) (joint_1 : Int) (v2 : (List (List (Int × Int))) × Bool) (v3 : List Int) (k : (List (Int × Int)) → Option (List (Int × Int))) : Nat → ((List (Int × Int)) × Int) → Option (List (Int × Int))
 | 0, _ => none
 | n + 1, (l15, x16) =>
  cnd (decide (x16 < (v3.length : Int))) (
   grd (0 ≤ x16 ∧ x16 < (v3.length : Int)) <|
   grd (0 ≤ (v3.getD ((x16).toNat) 0) ∧ (v3.getD ((x16).toNat) 0) < (v2.1.length : Int)) <|
   grd (0 ≤ joint_1 ∧ joint_1 < ((v2.1.getD (((v3.getD ((x16).toNat) 0)).toNat) []).length : Int)) <|
   (G_Contains_Place N l15 ((((v2.1.getD (((v3.getD ((x16).toNat) 0)).toNat) []).getD ((joint_1).toNat) (0, 0)).1), (((v2.1.getD (((v3.getD ((x16).toNat) 0)).toNat) []).getD ((joint_1).toNat) (0, 0)).2))).bind fun v18 =>
   cnd (!v18) (
    grd (l15.length + 1 ≤ 4294967296) <|
    grd (Rg64 (x16 + (1 : Int))) <|
    I_TraceOf_l1 N joint_1 v2 v3 k n ((l15 ++ ([((((v2.1.getD (((v3.getD ((x16).toNat) 0)).toNat) []).getD ((joint_1).toNat) (0, 0)).1), (((v2.1.getD (((v3.getD ((x16).toNat) 0)).toNat) []).getD ((joint_1).toNat) (0, 0)).2))] : List (Int × Int))), (x16 + (1 : Int)))) (
    grd (Rg64 (x16 + (1 : Int))) <|
    I_TraceOf_l1 N joint_1 v2 v3 k n (l15, (x16 + (1 : Int))))) (
   k l15)
def I_TraceOf (N : Nat) (l_0 : Lnk) (joint_1 : Int) : Option (List (Int × Int)) :=
 (M_Graph_has N l_0.f.g joint_1).bind fun v1 =>
 cnd (!v1) (
  some ([] : List (Int × Int))) (
  (I_PosesOf N l_0).bind fun v2 =>
  (I_RoomOf N l_0).bind fun v3 =>
  I_TraceOf_l1 N joint_1 v2 v3 (fun (l10 : List (Int × Int)) =>
     (G_SortFunc_Place N l10).bind fun v11 =>
     grd (l10.length = v11.length) <|
     some v11) N (([] : List (Int × Int)), (0 : Int)))
set_option maxRecDepth 20000 in
set_option maxHeartbeats 1600000 in
theorem I_TraceOf_w (N : Nat) (l_0 : Lnk) (joint_1 : Int) (r : List (Int × Int)) (h : I_TraceOf N l_0 joint_1 = some r) : PCall Tryz.prog 22 [lD l_0, .int joint_1] [(83, .pairs r)] (.row 0 0 r.length) := by
 unfold I_TraceOf at h
 refine pcall_intro (TT := TT) tt Tryz.func22 rfl rfl Tryz.ntmps22 (congrArg Array.toList Tryz.results22) rfl rfl fun w0 => ?_
 refine vSeq ?_
 refine vRegion ?_
 refine oBox rfl rfl rfl rfl rfl rfl rfl rfl rfl ?_
 refine oVal tt rfl rfl rfl rfl rfl trivial ?_
 refine vNil ?_
 change VC _ _ _ _
 refine vSeq ?_
 refine vRegion ?_
 refine oEmpty tt (wNone rfl) rfl rfl rfl rfl ?_
 refine oVal tt rfl rfl rfl rfl rfl trivial ?_
 refine vNil ?_
 change VC _ _ _ _
 iterate 2 refine vSeq ?_
 refine vRegion ?_
 iterate 4 refine oVal tt rfl rfl rfl rfl rfl trivial ?_
 obtain ⟨v1, hc1, h⟩ := bind_inv h
 refine oCall (M_Graph_has_w N l_0.f.g joint_1 v1 hc1) rfl rfl rfl rfl rfl rfl rfl rfl ⟨⟨rfl, rfl, trivial⟩, rfl, trivial⟩ ?_
 refine oVal tt rfl rfl rfl rfl rfl trivial ?_
 refine vNil ?_
 change VC _ _ _ _
 refine vCond rfl (fun hb2 => ?_) (fun hb2 => ?_)
 ·replace h := cnd_t hb2 h
  refine vSeq ?_
  refine vRegion ?_
  iterate 2 refine oVal tt rfl rfl rfl rfl rfl trivial ?_
  refine vNil ?_
  change VC _ _ _ _
  refine vNilT 4 9001 83 (.pairs []) rfl rfl rfl rfl ?_
  refine vRet ?_
  change ∃ _, _
  cases h
  exact ⟨[9001], _, rfl, ⟨rfl, trivial⟩, rfl, (.eq rfl), rfl⟩
 ·replace h := cnd_f hb2 h
  refine vSkip ?_
  change VC _ _ _ _
  refine vSeq ?_
  refine vRegion ?_
  refine oVal tt rfl rfl rfl rfl rfl trivial ?_
  obtain ⟨v2, hc3, h⟩ := bind_inv h
  refine oCallD 10 (I_PosesOf_w N l_0 v2 hc3) rfl rfl rfl rfl rfl rfl rfl rfl rfl rfl rfl (fun _ h => by cases h) ⟨⟨rfl, rfl, rfl, rfl, trivial⟩, trivial⟩ ?_
  iterate 5 refine oVal tt rfl rfl rfl rfl rfl trivial ?_
  refine vNil ?_
  change VC _ _ _ _
  iterate 2 refine vSeq ?_
  refine vRegion ?_
  refine oVal tt rfl rfl rfl rfl rfl trivial ?_
  obtain ⟨v3, hc4, h⟩ := bind_inv h
  refine oCall (I_RoomOf_w N l_0 v3 hc4) rfl rfl rfl rfl rfl rfl rfl rfl ⟨⟨rfl, rfl, rfl, rfl, trivial⟩, trivial⟩ ?_
  iterate 2 refine oVal tt rfl rfl rfl rfl rfl trivial ?_
  refine vNil ?_
  change VC _ _ _ _
  refine vJoin (F := fun k => I_TraceOf_l1 N joint_1 v2 v3 k) h (α := List (Int × Int)) (J := fun (l10 : List (Int × Int)) => (⟨[(5, .row 49 0 l10.length)], [(49, some (83, .pairs l10))], []⟩ : PS)) ?_ ?_
  ·rintro l10 h
   show VC _ _ _ (⟨[(5, .row 49 0 l10.length)], [(49, some (83, .pairs l10))], []⟩ : PS)
   refine vSeq ?_
   refine vRegion ?_
   refine oVal tt rfl rfl rfl rfl rfl trivial ?_
   obtain ⟨v11, hc5, h⟩ := bind_inv h
   refine oMCall (G_SortFunc_Place_w N l10 v11 hc5) [49] [] [49] rfl rfl rfl rfl rfl rfl ⟨rfl, trivial⟩ trivial ⟨⟨rfl, rfl⟩, ⟨rfl, rfl⟩, trivial⟩ ?_
   refine vNil ?_
   change VC _ _ _ _
   refine vSeq ?_
   refine vRegion ?_
   iterate 2 refine oVal tt rfl rfl rfl rfl rfl trivial ?_
   refine vNil ?_
   change VC _ _ _ _
   obtain ⟨hg6, h⟩ := grd_inv h
   refine vRet ?_
   change ∃ _, _
   cases h
   exact ⟨[49], _, rfl, ⟨rfl, trivial⟩, rfl, (.eq (by simp only [hg6]; rfl)), rfl⟩
  ·intro k h
   refine vBlock ?_
   refine vNilT 5 49 83 (.pairs []) rfl rfl rfl rfl ?_
   refine vLoopS (α := (List (Int × Int)) × Int) (fun | (l15, x16) => (⟨[(1, .int joint_1), (5, .row 49 0 l15.length), (6, .row 1200 0 v2.1.length), (24, .row 1240 0 v3.length), (25, .int (v3.length : Int)), (26, .int x16)], [(49, some (83, .pairs l15)), (1200, some (49, dR 10 (.pairss v2.1))), (8589934602, some (83, dF (.pairss v2.1))), (1240, some (3, .ints v3))], []⟩ : PS)) (I_TraceOf_l1 N joint_1 v2 v3 k) h (En.of ⟨rfl, rfl, rfl, rfl, rfl, rfl, trivial⟩ ⟨rfl, rfl, rfl, rfl, trivial⟩ trivial) (fun _ => rfl) ?_
   rintro n ⟨l15, x16⟩ h
   rw [I_TraceOf_l1] at h
   show VC _ _ _ (⟨[(1, .int joint_1), (5, .row 49 0 l15.length), (6, .row 1200 0 v2.1.length), (24, .row 1240 0 v3.length), (25, .int (v3.length : Int)), (26, .int x16)], [(49, some (83, .pairs l15)), (1200, some (49, dR 10 (.pairss v2.1))), (8589934602, some (83, dF (.pairss v2.1))), (1240, some (3, .ints v3))], []⟩ : PS)
   refine vSeq ?_
   refine vRegion ?_
   refine oVal tt rfl rfl rfl rfl rfl trivial ?_
   refine vNil ?_
   change VC _ _ _ _
   refine vSeq ?_
   refine vCond rfl (fun hb7 => ?_) (fun hb7 => ?_)
   ·replace h := cnd_t hb7 h
    refine vSkip ?_
    change VC _ _ _ _
    refine vSeq ?_
    refine vBlock ?_
    refine vSeq ?_
    refine vRegion ?_
    obtain ⟨hg8, h⟩ := grd_inv h
    iterate 2 refine oVal tt rfl rfl rfl rfl rfl hg8 ?_
    refine oVal tt rfl rfl rfl rfl rfl trivial ?_
    refine vNil ?_
    change VC _ _ _ _
    refine vSeq ?_
    refine vRegion ?_
    iterate 3 refine oVal tt rfl rfl rfl rfl rfl trivial ?_
    obtain ⟨hg9, h⟩ := grd_inv h
    refine oVal tt rfl rfl rfl rfl rfl hg9 ?_
    refine oLoadD tt (wNone rfl) (.pairss v2.1) rfl rfl rfl rfl rfl rfl rfl rfl rfl hg9 ?_
    refine oVal tt rfl rfl rfl rfl rfl trivial ?_
    obtain ⟨hg10, h⟩ := grd_inv h
    refine oPureF (wNone rfl) (pIdxI tt (q := (.pairss v2.1)) rfl rfl rfl rfl rfl rfl (by simp only [Sq.len, List.length_set, List.length_append, List.length_replicate] at *; omega) rfl hg10) rfl rfl ?_
    refine oPureF (wNone rfl) (pLoadIP tt (q := (.pairss v2.1)) rfl rfl rfl rfl rfl (by simp only [Sq.len, List.length_set, List.length_append, List.length_replicate] at *; omega) hg10 rfl rfl) rfl rfl ?_
    obtain ⟨v18, hc11, h⟩ := bind_inv h
    refine oCall (G_Contains_Place_w N l15 ((((v2.1.getD (((v3.getD ((x16).toNat) 0)).toNat) []).getD ((joint_1).toNat) (0, 0)).1), (((v2.1.getD (((v3.getD ((x16).toNat) 0)).toNat) []).getD ((joint_1).toNat) (0, 0)).2)) v18 hc11) rfl rfl rfl rfl rfl rfl rfl rfl ⟨(.inl ⟨rfl, rfl⟩), ⟨rfl, rfl, trivial⟩, trivial⟩ ?_
    refine oVal tt rfl rfl rfl rfl rfl trivial ?_
    refine vNil ?_
    change VC _ _ _ _
    refine vCond rfl (fun hb12 => ?_) (fun hb12 => ?_)
    ·replace h := cnd_t hb12 h
     refine vRegion ?_
     iterate 3 refine oVal tt rfl rfl rfl rfl rfl trivial ?_
     refine oVal tt rfl rfl rfl rfl rfl hg9 ?_
     refine oLoadD tt (wNone rfl) (.pairss v2.1) rfl rfl rfl rfl rfl rfl rfl rfl rfl hg9 ?_
     refine oVal tt rfl rfl rfl rfl rfl trivial ?_
     refine oPureF (wNone rfl) (pIdxI tt (q := (.pairss v2.1)) rfl rfl rfl rfl rfl rfl (by simp only [Sq.len, List.length_set, List.length_append, List.length_replicate] at *; omega) rfl hg10) rfl rfl ?_
     refine oPureF (wNone rfl) (pLoadIP tt (q := (.pairss v2.1)) rfl rfl rfl rfl rfl (by simp only [Sq.len, List.length_set, List.length_append, List.length_replicate] at *; omega) hg10 rfl rfl) rfl rfl ?_
     refine oBuild tt rfl rfl rfl rfl rfl rfl rfl rfl rfl rfl rfl ?_
     obtain ⟨hg13, h⟩ := grd_inv h
     refine oAppend tt rfl rfl rfl rfl rfl rfl rfl rfl rfl rfl rfl rfl rfl rfl rfl rfl (Nat.le_of_eq (Nat.zero_add _)) hg13 ?_
     refine oVal tt rfl rfl rfl rfl rfl trivial ?_
     refine vNil ?_
     change VC _ _ _ _
     refine vRegion ?_
     obtain ⟨hg14, h⟩ := grd_inv h
     refine oVal tt rfl rfl rfl rfl rfl hg14 ?_
     refine oVal tt rfl rfl rfl rfl rfl trivial ?_
     refine vNil ?_
     change ∃ _, _
     exact ⟨((l15 ++ ([((((v2.1.getD (((v3.getD ((x16).toNat) 0)).toNat) []).getD ((joint_1).toNat) (0, 0)).1), (((v2.1.getD (((v3.getD ((x16).toNat) 0)).toNat) []).getD ((joint_1).toNat) (0, 0)).2))] : List (Int × Int))), (x16 + (1 : Int))), (En.of ⟨rfl, rfl, rfl, rfl, rfl, rfl, trivial⟩ ⟨rfl, rfl, rfl, rfl, trivial⟩ trivial), h⟩
    ·replace h := cnd_f hb12 h
     refine vSkip ?_
     change VC _ _ _ _
     refine vRegion ?_
     obtain ⟨hg15, h⟩ := grd_inv h
     refine oVal tt rfl rfl rfl rfl rfl hg15 ?_
     refine oVal tt rfl rfl rfl rfl rfl trivial ?_
     refine vNil ?_
     change ∃ _, _
     exact ⟨(l15, (x16 + (1 : Int))), (En.of ⟨rfl, rfl, rfl, rfl, rfl, rfl, trivial⟩ ⟨rfl, rfl, rfl, rfl, trivial⟩ trivial), h⟩
   ·replace h := cnd_f hb7 h
    refine vExit ?_
    change ∃ _, _
    exact ⟨l15, (En.of ⟨rfl, trivial⟩ ⟨rfl, trivial⟩ trivial), h⟩
end Go.Proofs.YtmoamglpocjhgaaGreat
namespace Go.Proofs.YtmoamglpocjhgaaGreat
variable {N : Nat}
theorem rm_rg (P : List (List (Int × Int))) : ∀ i, i ≤ P.length → ∀ r ∈ (rmS P i).1, ∀ x ∈ r, 0 ≤ x ∧ x < (P.length : Int)
 | 0, _ => by simp [rmS]
 | i + 1, hi => fun r hr x hx => by
  have ih := rm_rg P i (by omega)
  rw [rmS] at hr
  cases hc : (rmS P i).2.contains (i : Int) with
  | true => rw [hc, cnd_true] at hr; exact ih r hr x hx
  | false =>
   rw [hc, cnd_false] at hr
   rcases List.mem_append.1 hr with hr | hr
   ·exact ih r hr x hx
   ·rw [List.mem_singleton] at hr
    subst hr
    exact (room_inv P (show i < P.length by omega)).rg x (by simpa [sortL] using hx)
theorem roomOf_rg (l : Lnk) : ∀ x ∈ roomOf l, 0 ≤ x ∧ x < ((posesL l).length : Int) := by
 unfold roomOf
 cases h : (roomsL l).find? fun r => r.contains (idxP (posesL l) l.f.places ((posesL l).length + 1) 0) with
 | none => intro x hx; cases hx
 | some r =>
  have hr := List.mem_of_find?_eq_some h
  unfold roomsL at hr
  cases h2 : rmOk l with
  | false => rw [h2, cnd_false] at hr; cases hr
  | true => rw [h2, cnd_true] at hr; exact rm_rg _ _ (Nat.le_refl _) r hr
theorem roomOf_bad {l : Lnk} (h : isLk l = false) : roomOf l = [] := by
 unfold roomOf roomsL rmOk
 rw [h]; rfl
def plcT (P : List (List (Int × Int))) (jn : Int) (r : Int) : Int × Int := (P.getD r.toNat []).getD jn.toNat (0, 0)
def hitT (P : List (List (Int × Int))) (jn : Int) (x y : Int) (r : Int) : Bool := (plcT P jn r).1 == x && (plcT P jn r).2 == y
theorem contPl_s (hN : 4000000 ≤ N) {L : List (Int × Int)} (hL : L.length ≤ 1000) (x : Int × Int) : G_Contains_Place N L x = some (L.contains x) := by
 have key : ∀ (fuel i : Nat), i ≤ L.length → L.length < fuel + i → (∀ j, j < i → L.getD j (0, 0) ≠ x) → ∃ z : Int, G_Index_Place_l1 N L x (fun (_ : Unit) => some (-1 : Int)) fuel (i : Int) = some z ∧ decide (z ≥ 0) = L.contains x := by
  intro fuel
  induction fuel with
  | zero => intro i h1 h2; omega
  | succ fuel ih =>
   intro i h1 h2 h3
   rw [G_Index_Place_l1]
   by_cases hi : i < L.length
   ·have hm : L.getD i (0, 0) ∈ L := by rw [List.getD_eq_getElem?_getD, List.getElem?_eq_getElem hi]; exact List.getElem_mem hi
    rw [cnd_dt (by omega), grd_pos (by omega), show ((i : Int)).toNat = i from by omega]
    by_cases he : L.getD i (0, 0) = x
    ·refine ⟨(i : Int), ?_, ?_⟩
     ·rw [he]; simp [cnd_true]
     ·rw [decide_eq_true (by omega), ← he]; symm; rw [List.contains_eq_mem]; exact decide_eq_true hm
    ·have hb : ((x.1 == (L.getD i (0, 0)).1) && (x.2 == (L.getD i (0, 0)).2)) = false := by
      rw [Bool.eq_false_iff]; intro h
      rw [Bool.and_eq_true, beq_iff_eq, beq_iff_eq] at h
      exact he (Prod.ext h.1.symm h.2.symm)
     rw [hb, cnd_false, grd_R (by omega) (by omega)]
     exact ih (i + 1) (by omega) (by omega) fun j hj => by
      by_cases hj2 : j = i
      ·subst hj2; exact he
      ·exact h3 j (by omega)
   ·rw [cnd_df (by omega)]
    refine ⟨-1, rfl, ?_⟩
    rw [decide_eq_false (by omega)]
    symm
    rw [Bool.eq_false_iff]; intro h
    have hx : x ∈ L := by simpa using h
    obtain ⟨j, hj, e⟩ := List.mem_iff_getElem.1 hx
    exact h3 j (by omega) (by rw [List.getD_eq_getElem?_getD, List.getElem?_eq_getElem hj]; exact e)
 obtain ⟨z, h1, h2⟩ := key N 0 (by omega) (by omega) (by omega)
 unfold G_Contains_Place G_Index_Place
 rw [show ((0 : Int)) = ((0 : Nat) : Int) from rfl, h1, Option.bind_some]
 rw [show decide (z ≥ ((0 : Nat) : Int)) = decide (z ≥ 0) from rfl, h2]
def ddp (P : List (List (Int × Int))) (jn : Int) : List Int → List (Int × Int) → List (Int × Int)
 | [], D => D
 | r :: R, D => ddp P jn R (cnd (D.contains (plcT P jn r)) D (D ++ [plcT P jn r]))
theorem ddp_mem (P : List (List (Int × Int))) (jn : Int) : ∀ (R : List Int) (D : List (Int × Int)) (p : Int × Int), p ∈ ddp P jn R D ↔ p ∈ D ∨ ∃ r ∈ R, p = plcT P jn r
 | [], D, p => by simp [ddp]
 | r :: R, D, p => by
  rw [ddp, ddp_mem P jn R]
  cases h : D.contains (plcT P jn r) with
  | true =>
   have hm : plcT P jn r ∈ D := by simpa using h
   rw [cnd_true]
   constructor
   ·rintro (h | ⟨q, h1, h2⟩)
    ·exact .inl h
    ·exact .inr ⟨q, List.mem_cons_of_mem _ h1, h2⟩
   ·rintro (h | ⟨q, h1, h2⟩)
    ·exact .inl h
    ·rcases List.mem_cons.1 h1 with rfl | h1
     ·exact .inl (by rw [h2]; exact hm)
     ·exact .inr ⟨q, h1, h2⟩
  | false =>
   rw [cnd_false]
   constructor
   ·rintro (h | ⟨q, h1, h2⟩)
    ·rcases List.mem_append.1 h with h | h
     ·exact .inl h
     ·exact .inr ⟨r, by simp, by simpa using h⟩
    ·exact .inr ⟨q, List.mem_cons_of_mem _ h1, h2⟩
   ·rintro (h | ⟨q, h1, h2⟩)
    ·exact .inl (List.mem_append_left _ h)
    ·rcases List.mem_cons.1 h1 with rfl | h1
     ·exact .inl (List.mem_append_right _ (by simp [h2]))
     ·exact .inr ⟨q, h1, h2⟩
theorem ddp_nd (P : List (List (Int × Int))) (jn : Int) : ∀ (R : List Int) (D : List (Int × Int)), D.Nodup → (ddp P jn R D).Nodup
 | [], D, h => h
 | r :: R, D, h => by
  rw [ddp]
  cases hc : D.contains (plcT P jn r) with
  | true => rw [cnd_true]; exact ddp_nd P jn R D h
  | false =>
   rw [cnd_false]
   have hm : plcT P jn r ∉ D := by simpa using hc
   exact ddp_nd P jn R _ (List.nodup_append.2 ⟨h, by simp, fun a ha b hb => by
    rw [List.mem_singleton] at hb; subst hb
    intro e; exact hm (by rw [← e]; exact ha)⟩)
theorem ddp_len (P : List (List (Int × Int))) (jn : Int) : ∀ (R : List Int) (D : List (Int × Int)), (ddp P jn R D).length ≤ D.length + R.length
 | [], D => by simp [ddp]
 | r :: R, D => by
  rw [ddp]
  have h := ddp_len P jn R (cnd (D.contains (plcT P jn r)) D (D ++ [plcT P jn r]))
  cases hc : D.contains (plcT P jn r) with
  | true => rw [hc, cnd_true] at h; rw [cnd_true]; simp only [List.length_cons]; omega
  | false => rw [hc, cnd_false] at h; rw [cnd_false]; simp only [List.length_cons, List.length_append, List.length_nil] at h ⊢; omega
theorem traceI1_s (hN : 4000000 ≤ N) {P : List (List (Int × Int))} {b : Bool} {jn : Int} {R : List Int} (hR : R.length ≤ 100) (hr : ∀ x ∈ R, 0 ≤ x ∧ x < (P.length : Int)) (hj : ∀ x ∈ P, 0 ≤ jn ∧ jn < (x.length : Int)) (kk : List (Int × Int) → Option (List (Int × Int))) :
  ∀ (fuel i : Nat) (D : List (Int × Int)), i ≤ R.length → R.length < fuel + i → D.length ≤ i → I_TraceOf_l1 N jn (P, b) R kk fuel (D, (i : Int)) = kk (ddp P jn (R.drop i) D) := by
 intro fuel
 induction fuel with
 | zero => intro i D h1 h2; omega
 | succ fuel ih =>
  intro i D h1 h2 h3
  rw [I_TraceOf_l1]
  by_cases hi : i < R.length
  ·have ed : R.drop i = R.getD i 0 :: R.drop (i + 1) := by
    rw [List.drop_eq_getElem_cons hi, List.getD_eq_getElem?_getD, List.getElem?_eq_getElem hi]; rfl
   have hm : R.getD i 0 ∈ R := by rw [List.getD_eq_getElem?_getD, List.getElem?_eq_getElem hi]; exact List.getElem_mem hi
   have h4 := hr _ hm
   have h5 : (R.getD i 0).toNat < P.length := by omega
   have hmp : P.getD (R.getD i 0).toNat [] ∈ P := by rw [List.getD_eq_getElem?_getD, List.getElem?_eq_getElem h5]; exact List.getElem_mem h5
   have h6 := hj _ hmp
   rw [cnd_dt (by omega), grd_pos (by omega), show ((i : Int)).toNat = i from by omega]
   show grd (0 ≤ R.getD i 0 ∧ R.getD i 0 < (P.length : Int)) (grd (0 ≤ jn ∧ jn < ((P.getD (R.getD i 0).toNat []).length : Int)) ((G_Contains_Place N D (plcT P jn (R.getD i 0))).bind fun v18 => _)) = _
   rw [grd_pos h4, grd_pos h6, contPl_s hN (by omega), Option.bind_some, ed, ddp]
   cases hc : D.contains (plcT P jn (R.getD i 0)) with
   | true =>
    rw [Bool.not_true, cnd_false, cnd_true, grd_R (by omega) (by omega), succ_cast]
    exact ih (i + 1) D (by omega) (by omega) (by omega)
   | false =>
    rw [Bool.not_false, cnd_true, cnd_false, grd_pos (by omega), grd_R (by omega) (by omega), succ_cast]
    exact ih (i + 1) _ (by omega) (by omega) (by simp; omega)
  ·have e : i = R.length := by omega
   rw [cnd_df (by omega), e, List.drop_length]; rfl
theorem traceS3_s (hN : 4000000 ≤ N) {l : Lnk} {P : List (List (Int × Int))} {b : Bool} {jn : Int} {R : List Int} (hR : R.length ≤ 100) (hr : ∀ x ∈ R, 0 ≤ x ∧ x < (P.length : Int)) (hj : ∀ x ∈ P, x.length = l.f.places.length) (h0 : 0 ≤ jn ∧ jn < (l.f.places.length : Int)) (y x : Int) (kk : Bool → Option (List (Int × Int))) :
  ∀ (fuel i : Nat) (f : Bool), i ≤ R.length → R.length < fuel + i → S_TraceOf_l3 N l jn R (P, b) y x kk fuel (f, (i : Int)) = kk (f || (R.drop i).any (hitT P jn x y)) := by
 intro fuel
 induction fuel with
 | zero => intro i f h1 h2; omega
 | succ fuel ih =>
  intro i f h1 h2
  rw [S_TraceOf_l3]
  by_cases hi : i < R.length
  ·have ed : R.drop i = R.getD i 0 :: R.drop (i + 1) := by
    rw [List.drop_eq_getElem_cons hi, List.getD_eq_getElem?_getD, List.getElem?_eq_getElem hi]; rfl
   have hm : R.getD i 0 ∈ R := by rw [List.getD_eq_getElem?_getD, List.getElem?_eq_getElem hi]; exact List.getElem_mem hi
   have h4 := hr _ hm
   have h5 : (R.getD i 0).toNat < P.length := by omega
   have hmp : P.getD (R.getD i 0).toNat [] ∈ P := by rw [List.getD_eq_getElem?_getD, List.getElem?_eq_getElem h5]; exact List.getElem_mem h5
   have h6 := hj _ hmp
   rw [cnd_dt (by omega), cnd_dt (by omega), cnd_dt (by omega), ed, List.any_cons]
   cases f with
   | true =>
    rw [cnd_true, grd_R (by omega) (by omega), succ_cast]
    refine (ih (i + 1) true (by omega) (by omega)).trans ?_
    simp
   | false =>
    rw [cnd_false, grd_pos (by omega), show ((i : Int)).toNat = i from by omega]
    show grd (0 ≤ R.getD i 0 ∧ R.getD i 0 < (P.length : Int)) (grd (0 ≤ jn ∧ jn < ((P.getD (R.getD i 0).toNat []).length : Int)) (grd (Rg64 ((i : Int) + 1)) (S_TraceOf_l3 N l jn R (P, b) y x kk fuel (hitT P jn x y (R.getD i 0), (i : Int) + 1)))) = _
    rw [grd_pos h4, grd_pos (by rw [h6]; exact h0), grd_R (by omega) (by omega), succ_cast]
    refine (ih (i + 1) _ (by omega) (by omega)).trans ?_
    rw [Bool.false_or]
  ·have e : i = R.length := by omega
   rw [cnd_df (by omega), e, List.drop_length]; simp
theorem traceS3_no (hN : 4000000 ≤ N) {l : Lnk} {v2 : List (List (Int × Int)) × Bool} {jn : Int} {R : List Int} (h : R = [] ∨ ¬(0 ≤ jn ∧ jn < (l.f.places.length : Int))) (y x : Int) (kk : Bool → Option (List (Int × Int))) : S_TraceOf_l3 N l jn R v2 y x kk N (false, (0 : Int)) = kk false := by
 obtain ⟨M, rfl⟩ : ∃ M, N = M + 1 := ⟨N - 1, by omega⟩
 rw [S_TraceOf_l3]
 rcases h with rfl | h
 ·rfl
 ·by_cases h1 : (0 : Int) < (R.length : Int)
  ·rw [cnd_dt h1]
   by_cases h2 : jn ≥ 0
   ·rw [cnd_dt h2, cnd_df (by omega)]
   ·rw [cnd_df h2]
  ·rw [cnd_df h1]
def rowT (y n : Nat) : List (Int × Int) := (List.range n).map fun (x : Nat) => ((x : Int), (y : Int))
def gridT (n : Nat) : List (Int × Int) := (List.range n).flatMap fun (y : Nat) => rowT y 5
theorem rowT_succ (y n : Nat) : rowT y (n + 1) = rowT y n ++ [((n : Int), (y : Int))] := by simp [rowT, List.range_succ]
theorem gridT_succ (n : Nat) : gridT (n + 1) = gridT n ++ rowT n 5 := by simp [gridT, List.range_succ]
theorem rowT_len (y n : Nat) : (rowT y n).length = n := by simp [rowT]
theorem gridT_len : ∀ n, (gridT n).length = 5 * n
 | 0 => rfl
 | n + 1 => by rw [gridT_succ, List.length_append, gridT_len n, rowT_len]; omega
theorem traceS2_s (hN : 4000000 ≤ N) {l : Lnk} {v2 : List (List (Int × Int)) × Bool} {jn : Int} {R : List Int} {g : Int × Int → Bool} (h3 : ∀ (x y : Int) (kk : Bool → Option (List (Int × Int))), S_TraceOf_l3 N l jn R v2 y x kk N (false, (0 : Int)) = kk (g (x, y))) (y : Nat) (kk : List (Int × Int) → Option (List (Int × Int))) {L : List (Int × Int)} (hL : L.length ≤ 100) :
  S_TraceOf_l2 N l jn R v2 (y : Int) kk N (L, (0 : Int)) = kk (L ++ (rowT y 5).filter g) := by
 refine Eq.trans ?_ (fold (N := N) (len := 5) (σ := List (Int × Int)) (st := fun x => L ++ (rowT y x).filter g) (F := fun m s => S_TraceOf_l2 N l jn R v2 (y : Int) kk m (s.1, s.2)) (fin := kk (L ++ (rowT y 5).filter g)) (by omega) (fun m x hx => ?_) fun m => ?_)
 ·simp [rowT]
 ·show S_TraceOf_l2 N l jn R v2 (y : Int) kk (m + 1) (L ++ (rowT y x).filter g, (x : Int)) = S_TraceOf_l2 N l jn R v2 (y : Int) kk m (L ++ (rowT y (x + 1)).filter g, ((x + 1 : Nat) : Int))
  have hl : ((rowT y x).filter g).length ≤ 5 := Nat.le_trans (List.length_filter_le _ _) (by rw [rowT_len]; omega)
  rw [S_TraceOf_l2, cnd_dt (by omega), h3, rowT_succ, List.filter_append]
  show cnd (g ((x : Int), (y : Int))) _ _ = _
  cases hg : g ((x : Int), (y : Int)) with
  | true =>
   rw [cnd_true, grd_pos (by rw [List.length_append]; omega), grd_R (by omega) (by omega), succ_cast]
   have e : [((x : Int), (y : Int))].filter g = [((x : Int), (y : Int))] := by simp [hg]
   rw [e, List.append_assoc]
  | false =>
   rw [cnd_false, grd_R (by omega) (by omega), succ_cast]
   have e : [((x : Int), (y : Int))].filter g = [] := by simp [hg]
   rw [e, List.append_nil]
 ·show S_TraceOf_l2 N l jn R v2 (y : Int) kk (m + 1) (L ++ (rowT y 5).filter g, ((5 : Nat) : Int)) = _
  rw [S_TraceOf_l2, cnd_df (by omega)]
theorem traceS1_s (hN : 4000000 ≤ N) {l : Lnk} {v2 : List (List (Int × Int)) × Bool} {jn : Int} {R : List Int} {g : Int × Int → Bool} (h3 : ∀ (x y : Int) (kk : Bool → Option (List (Int × Int))), S_TraceOf_l3 N l jn R v2 y x kk N (false, (0 : Int)) = kk (g (x, y))) (kk : List (Int × Int) → Option (List (Int × Int))) :
  S_TraceOf_l1 N l jn R v2 kk N ([], (0 : Int)) = kk ((gridT 5).filter g) := by
 refine Eq.trans ?_ (fold (N := N) (len := 5) (σ := List (Int × Int)) (st := fun y => (gridT y).filter g) (F := fun m s => S_TraceOf_l1 N l jn R v2 kk m (s.1, s.2)) (fin := kk ((gridT 5).filter g)) (by omega) (fun m y hy => ?_) fun m => ?_)
 ·simp [gridT]
 ·show S_TraceOf_l1 N l jn R v2 kk (m + 1) ((gridT y).filter g, (y : Int)) = S_TraceOf_l1 N l jn R v2 kk m ((gridT (y + 1)).filter g, ((y + 1 : Nat) : Int))
  have hl : ((gridT y).filter g).length ≤ 100 := Nat.le_trans (List.length_filter_le _ _) (by rw [gridT_len]; omega)
  rw [S_TraceOf_l1, cnd_dt (by omega), traceS2_s hN h3 y _ hl, gridT_succ, List.filter_append]
  show grd (Rg64 ((y : Int) + 1)) _ = _
  rw [grd_R (by omega) (by omega), succ_cast]
 ·show S_TraceOf_l1 N l jn R v2 kk (m + 1) ((gridT 5).filter g, ((5 : Nat) : Int)) = _
  rw [S_TraceOf_l1, cnd_df (by omega)]
set_option maxRecDepth 20000 in
theorem gridT_srt : (gridT 5).Pairwise fun a b => a.2 < b.2 ∨ (a.2 = b.2 ∧ a.1 ≤ b.1) := by decide
set_option maxRecDepth 20000 in
theorem gridT_nd : (gridT 5).Nodup := by decide
theorem gridT_mem {p : Int × Int} (h : onGrid p = true) : p ∈ gridT 5 := by
 have := onGrid_bd h
 refine List.mem_flatMap.2 ⟨p.2.toNat, by simp; omega, List.mem_map.2 ⟨p.1.toNat, by simp; omega, ?_⟩⟩
 exact Prod.ext (by simp; omega) (by simp; omega)
theorem srtQ_srt (l : List (Int × Int)) : (srtQ l).Pairwise fun a b => a.2 < b.2 ∨ (a.2 = b.2 ∧ a.1 ≤ b.1) := by
 have h := List.pairwise_mergeSort (le := fun x y : Int × Int => !(ltOf cmpQ) y x) (fun a b c h1 h2 => by rw [ltQ] at *; simp at *; omega) (fun a b => by rw [ltQ, ltQ]; simp; omega) l
 refine h.imp fun {a b} h => ?_
 rw [ltQ] at h
 simp at h
 omega
theorem trace_eq {P : List (List (Int × Int))} {jn : Int} {R : List Int} (hg : ∀ r ∈ R, onGrid (plcT P jn r) = true) : srtQ (ddp P jn R []) = (gridT 5).filter fun p => R.any (hitT P jn p.1 p.2) := by
 refine List.Perm.eq_of_pairwise (le := fun a b : Int × Int => a.2 < b.2 ∨ (a.2 = b.2 ∧ a.1 ≤ b.1)) (fun a b _ _ h1 h2 => Prod.ext (by omega) (by omega)) (srtQ_srt _) (gridT_srt.filter _) ?_
 refine (List.mergeSort_perm _ _).trans ?_
 rw [List.perm_ext_iff_of_nodup (ddp_nd P jn R [] List.nodup_nil) (gridT_nd.filter _)]
 intro p
 rw [ddp_mem, List.mem_filter, List.any_eq_true]
 constructor
 ·rintro (h | ⟨r, h1, rfl⟩)
  ·cases h
  ·exact ⟨gridT_mem (hg r h1), r, h1, by simp [hitT]⟩
 ·rintro ⟨_, r, h1, h2⟩
  refine .inr ⟨r, h1, ?_⟩
  simp only [hitT, Bool.and_eq_true, beq_iff_eq] at h2
  exact Prod.ext h2.1.symm h2.2.symm
theorem trace_x (hN : 4000000 ≤ N) {l : Lnk} (hp : l.f.places.length ≤ 3000000) (hgr : l.ground.length ≤ 3000000) {jn : Int} : ∃ r : List (Int × Int), r.length ≤ 100 ∧ S_TraceOf N l jn = some r ∧ I_TraceOf N l jn = some r := by
 have hR := roomOf_bd l
 have hrg := roomOf_rg l
 have key : ∃ g : Int × Int → Bool, (∀ (x y : Int) (kk : Bool → Option (List (Int × Int))), S_TraceOf_l3 N l jn (roomOf l) (posesL l, isLk l) y x kk N (false, (0 : Int)) = kk (g (x, y))) ∧ I_TraceOf N l jn = some ((gridT 5).filter g) := by
  unfold I_TraceOf
  rw [ghasW_s, Option.bind_some, posesI_s hN hp hgr, roomOf_i hN hp hgr, Option.bind_some, Option.bind_some]
  have hnil : (gridT 5).filter (fun _ : Int × Int => false) = [] := by simp
  cases hl : isLk l with
  | false =>
   have e := roomOf_bad hl
   refine ⟨fun _ => false, fun x y kk => traceS3_no hN (.inl e) y x kk, ?_⟩
   rw [hnil, e]
   cases inB jn 0 (w64 (l.f.g.n - 1)) with
   | false => rfl
   | true =>
    rw [Bool.not_true, cnd_false]
    obtain ⟨M, rfl⟩ : ∃ M, N = M + 1 := ⟨N - 1, by omega⟩
    rw [I_TraceOf_l1, cnd_df (by simp)]
    have e5 : G_SortFunc_Place (M + 1) [] = some [] := by
     unfold G_SortFunc_Place; rw [grd_pos (by simp)]; simp [srtQ]
    rw [e5]; rfl
  | true =>
   obtain ⟨hf, _⟩ := isLk_parts hl
   obtain ⟨hgf, h4, h5, _⟩ := isFr_parts hf
   have hn := isGraph_nn hgf
   rw [w64_id (by omega) (by omega)]
   by_cases h0 : 0 ≤ jn ∧ jn < (l.f.places.length : Int)
   ·refine ⟨fun p => (roomOf l).any (hitT (posesL l) jn p.1 p.2), fun x y kk => ?_, ?_⟩
    ·refine (traceS3_s hN hR hrg (fun x hx => (posesL_mem hx).1) h0 y x kk N 0 false (by omega) (by omega)).trans ?_
     rw [Bool.false_or, List.drop_zero]
    ·rw [show inB jn 0 (l.f.g.n - 1) = true from inB_true.2 (by omega), Bool.not_true, cnd_false]
     refine (traceI1_s hN hR hrg (fun x hx => by rw [(posesL_mem hx).1]; exact h0) _ N 0 [] (by omega) (by omega) (by simp)).trans ?_
     rw [List.drop_zero]
     have hlen := ddp_len (posesL l) jn (roomOf l) []
     simp only [List.length_nil, Nat.zero_add] at hlen
     unfold G_SortFunc_Place
     rw [grd_pos (by omega), Option.bind_some, grd_pos (by rw [srtQ_len]), trace_eq]
     intro r hr
     have h6 := hrg r hr
     have h7 : r.toNat < (posesL l).length := by omega
     have hmp : (posesL l).getD r.toNat [] ∈ posesL l := by rw [List.getD_eq_getElem?_getD, List.getElem?_eq_getElem h7]; exact List.getElem_mem h7
     obtain ⟨q1, q2⟩ := posesL_mem hmp
     have q3 := ((Bool.and_eq_true _ _ ▸ q2).2)
     simp only [Bool.and_eq_true, decide_eq_true_eq, List.all_eq_true, List.mem_range] at q3
     have q4 := q3.2.1 jn.toNat (by omega)
     exact (Bool.and_eq_true _ _ ▸ q4).1
   ·refine ⟨fun _ => false, fun x y kk => traceS3_no hN (.inr h0) y x kk, ?_⟩
    rw [hnil, show inB jn 0 (l.f.g.n - 1) = false from by
     rw [Bool.eq_false_iff]; intro h; have := inB_true.1 h; omega]
    rfl
 obtain ⟨g, k1, k2⟩ := key
 refine ⟨_, ?_, ?_, k2⟩
 ·exact Nat.le_trans (List.length_filter_le _ _) (by rw [gridT_len]; omega)
 ·unfold S_TraceOf
  rw [roomOf_s hN hp hgr, Option.bind_some, posesS_s hN hp hgr, Option.bind_some]
  exact traceS1_s hN k1 _
end Go.Proofs.YtmoamglpocjhgaaGreat
namespace Go.Proofs.YtmoamglpocjhgaaGreat
open Go.RowKit
def L_FnExactTraceOf (N : Nat) (aL_0 : Lnk) (aJoint_1 : Int) : Option (Bool) :=
 (L_szLinkage N aL_0 (1048576 : Int)).bind fun v1 =>
 cnd (decide (v1 < (0 : Int))) (
  some true) (
  (L_toLinkage N aL_0).bind fun v2 =>
  (S_TraceOf N v2 aJoint_1).bind fun v3 =>
  (L_toLinkage N aL_0).bind fun v4 =>
  (I_TraceOf N v4 aJoint_1).bind fun v5 =>
  (L_eqPlaceS N v5 v3).bind fun v6 =>
  cnd (!v6) (
   some false) (
   (L_toLinkage N aL_0).bind fun v7 =>
   (L_eqLinkage N v4 v7).bind fun v8 =>
   cnd (!v8) (
    some false) (
    (L_markLinkage N (⟨⟨⟨v4.f.g.n, v4.f.g.bars⟩, v4.f.places⟩, v4.ground⟩ : Lnk) (1 : Int)).bind fun v9 =>
    cnd (decide (v9.1 < (0 : Int))) (
     some false) (
     (L_eqPlaceS N v5 v3).bind fun v10 =>
     cnd (!v10) (
      some false) (
      (L_markPlaceS N v5 (1 : Int)).bind fun v11 =>
      grd (v5.length = v11.2.length) <|
      (L_heldPlaceS N v11.2 (1 : Int)).bind fun v12 =>
      cnd (decide (v12 < (0 : Int))) (
       some false) (
       cnd (v12 != v11.1) (
        some false) (
        (L_toLinkage N aL_0).bind fun v13 =>
        (I_TraceOf N v13 aJoint_1).bind fun v14 =>
        (L_eqPlaceS N v14 v3).bind fun v15 =>
        cnd (!v15) (
         some false) (
         (L_heldPlaceS N v11.2 (1 : Int)).bind fun v16 =>
         cnd (decide (v16 < (0 : Int))) (
          some false) (
          cnd (v16 != v11.1) (
           some false) (
           some true))))))))))
set_option maxRecDepth 20000 in
set_option maxHeartbeats 1600000 in
theorem L_FnExactTraceOf_w (N : Nat) (aL_0 : Lnk) (aJoint_1 : Int) (r : Bool) (h : L_FnExactTraceOf N aL_0 aJoint_1 = some r) : PCall Tryz.prog 5 [lD aL_0, .int aJoint_1] [] (.bool r) := by
 unfold L_FnExactTraceOf at h
 refine pcall_intro (TT := TT) tt Tryz.func5 rfl rfl Tryz.ntmps5 (congrArg Array.toList Tryz.results5) rfl rfl fun w0 => ?_
 refine vSeq ?_
 refine vRegion ?_
 refine oBox rfl rfl rfl rfl rfl rfl rfl rfl rfl ?_
 refine oVal tt rfl rfl rfl rfl rfl trivial ?_
 refine vNil ?_
 change VC _ _ _ _
 refine vSeq ?_
 refine vRegion ?_
 refine oVal tt rfl rfl rfl rfl rfl trivial ?_
 refine vNil ?_
 change VC _ _ _ _
 refine vSeq ?_
 refine vRegion ?_
 iterate 2 refine oVal tt rfl rfl rfl rfl rfl trivial ?_
 obtain ⟨v1, hc1, h⟩ := bind_inv h
 refine oCall (L_szLinkage_w N aL_0 (1048576 : Int) v1 hc1) rfl rfl rfl rfl rfl rfl rfl rfl ⟨⟨rfl, rfl, rfl, rfl, trivial⟩, rfl, trivial⟩ ?_
 refine oVal tt rfl rfl rfl rfl rfl trivial ?_
 refine vNil ?_
 change VC _ _ _ _
 iterate 2 refine vSeq ?_
 refine vRegion ?_
 iterate 2 refine oVal tt rfl rfl rfl rfl rfl trivial ?_
 refine vNil ?_
 change VC _ _ _ _
 refine vCond rfl (fun hb2 => ?_) (fun hb2 => ?_)
 ·replace h := cnd_t hb2 h
  refine vSeq ?_
  refine vRegion ?_
  refine oVal tt rfl rfl rfl rfl rfl trivial ?_
  refine vNil ?_
  change VC _ _ _ _
  refine vRet ?_
  change ∃ _, _
  cases h
  exact ⟨[], _, rfl, trivial, rfl, (.eq rfl), rfl⟩
 ·replace h := cnd_f hb2 h
  refine vSkip ?_
  change VC _ _ _ _
  refine vSeq ?_
  refine vRegion ?_
  refine oVal tt rfl rfl rfl rfl rfl trivial ?_
  obtain ⟨v2, hc3, h⟩ := bind_inv h
  refine oCall (L_toLinkage_w N aL_0 v2 hc3) rfl rfl rfl rfl rfl rfl rfl rfl ⟨⟨rfl, rfl, rfl, rfl, trivial⟩, trivial⟩ ?_
  refine oVal tt rfl rfl rfl rfl rfl trivial ?_
  obtain ⟨v3, hc4, h⟩ := bind_inv h
  refine oCall (S_TraceOf_w N v2 aJoint_1 v3 hc4) rfl rfl rfl rfl rfl rfl rfl rfl ⟨⟨rfl, (.inl ⟨rfl, rfl⟩), (.inl ⟨rfl, rfl⟩), (.inl ⟨rfl, rfl⟩), trivial⟩, rfl, trivial⟩ ?_
  refine oVal tt rfl rfl rfl rfl rfl trivial ?_
  refine vNil ?_
  change VC _ _ _ _
  refine vSeq ?_
  refine vRegion ?_
  refine oVal tt rfl rfl rfl rfl rfl trivial ?_
  obtain ⟨v4, hc5, h⟩ := bind_inv h
  refine oCall (L_toLinkage_w N aL_0 v4 hc5) rfl rfl rfl rfl rfl rfl rfl rfl ⟨⟨rfl, rfl, rfl, rfl, trivial⟩, trivial⟩ ?_
  refine oAlloc tt rfl rfl rfl rfl rfl rfl rfl rfl rfl ?_
  refine oStore tt rfl rfl rfl rfl rfl rfl rfl rfl rfl rfl rfl ⟨trivial, trivial, trivial, trivial, trivial⟩ ?_
  refine vNil ?_
  change VC _ _ _ _
  refine vSeq ?_
  refine vRegion ?_
  iterate 2 refine oVal tt rfl rfl rfl rfl rfl trivial ?_
  obtain ⟨v5, hc6, h⟩ := bind_inv h
  refine oCall (I_TraceOf_w N v4 aJoint_1 v5 hc6) rfl rfl rfl rfl rfl rfl rfl rfl ⟨⟨rfl, (.inl ⟨rfl, rfl⟩), (.inl ⟨rfl, rfl⟩), (.inl ⟨rfl, rfl⟩), trivial⟩, rfl, trivial⟩ ?_
  refine oVal tt rfl rfl rfl rfl rfl trivial ?_
  refine vNil ?_
  change VC _ _ _ _
  iterate 2 refine vSeq ?_
  refine vRegion ?_
  iterate 2 refine oVal tt rfl rfl rfl rfl rfl trivial ?_
  obtain ⟨v6, hc7, h⟩ := bind_inv h
  refine oCall (L_eqPlaceS_w N v5 v3 v6 hc7) rfl rfl rfl rfl rfl rfl rfl rfl ⟨(.inl ⟨rfl, rfl⟩), (.inl ⟨rfl, rfl⟩), trivial⟩ ?_
  refine oVal tt rfl rfl rfl rfl rfl trivial ?_
  refine vNil ?_
  change VC _ _ _ _
  refine vCond rfl (fun hb8 => ?_) (fun hb8 => ?_)
  ·replace h := cnd_t hb8 h
   refine vSeq ?_
   refine vRegion ?_
   refine oVal tt rfl rfl rfl rfl rfl trivial ?_
   refine vNil ?_
   change VC _ _ _ _
   refine vRet ?_
   change ∃ _, _
   cases h
   exact ⟨[], _, rfl, trivial, rfl, (.eq rfl), rfl⟩
  ·replace h := cnd_f hb8 h
   refine vSkip ?_
   change VC _ _ _ _
   iterate 2 refine vSeq ?_
   refine vRegionN 3 [2] [0, 0, 2, 7, 15] (by kernel_rfl) (by kernel_rfl) (by kernel_rfl) (by kernel_rfl) (by kernel_rfl) rfl (by rfl) ?_
   iterate 2 refine nVal tt rfl (wNone rfl) rfl rfl rfl rfl rfl trivial ?_
   obtain ⟨v7, hc9, h⟩ := bind_inv h
   refine nCallR (L_toLinkage_w N aL_0 v7 hc9) rfl (wNone rfl) rfl rfl rfl rfl rfl rfl (by first | rfl | kernel_rfl | (simp [nrL, nm, gdst, nmT, rowB]; done)) rfl (by first | rfl | kernel_rfl | (simp [chkE, nrL, nm, gdst, nmT, rowB, hid, ment, mentA, mentS]; done) | (simp [chkE, nrL, nm, gdst, nmT, rowB, hid, ment, mentA, mentS]; decide)) ⟨⟨rfl, rfl, rfl, rfl, trivial⟩, trivial⟩ ?_
   refine nNil ?_
   change VO _ _ _ _ _
   obtain ⟨v8, hc10, h⟩ := bind_inv h
   refine oCall (L_eqLinkage_w N v4 v7 v8 hc10) rfl rfl rfl rfl rfl rfl rfl rfl ⟨⟨rfl, (.inl ⟨rfl, rfl⟩), (.inl ⟨rfl, rfl⟩), (.inl ⟨rfl, rfl⟩), trivial⟩, ⟨rfl, (.inl ⟨rfl, rfl⟩), (.inl ⟨rfl, rfl⟩), (.inl ⟨rfl, rfl⟩), trivial⟩, trivial⟩ ?_
   refine oVal tt rfl rfl rfl rfl rfl trivial ?_
   refine vNil ?_
   change VC _ _ _ _
   refine vCond rfl (fun hb11 => ?_) (fun hb11 => ?_)
   ·replace h := cnd_t hb11 h
    refine vSeq ?_
    refine vRegion ?_
    refine oVal tt rfl rfl rfl rfl rfl trivial ?_
    refine vNil ?_
    change VC _ _ _ _
    refine vRet ?_
    change ∃ _, _
    cases h
    exact ⟨[], _, rfl, trivial, rfl, (.eq rfl), rfl⟩
   ·replace h := cnd_f hb11 h
    refine vSkip ?_
    change VC _ _ _ _
    refine vSeq ?_
    refine vRegion ?_
    refine oVal tt rfl rfl rfl rfl rfl trivial ?_
    refine vNil ?_
    change VC _ _ _ _
    refine vSeq ?_
    refine vRegion ?_
    iterate 2 refine oVal tt rfl rfl rfl rfl rfl trivial ?_
    obtain ⟨v9, hc12, h⟩ := bind_inv h
    refine oMCall (L_markLinkage_w N (⟨⟨⟨v4.f.g.n, v4.f.g.bars⟩, v4.f.places⟩, v4.ground⟩ : Lnk) (1 : Int) v9 hc12) [1230, 1231, 1232] [] [1230, 1231, 1232] rfl rfl rfl rfl rfl rfl ⟨rfl, rfl, rfl, trivial⟩ trivial ⟨⟨⟨rfl, rfl⟩, ⟨rfl, rfl⟩, ⟨rfl, rfl⟩, ⟨rfl, rfl⟩, trivial⟩, ⟨rfl, rfl⟩, trivial⟩ ?_
    refine oVal tt rfl rfl rfl rfl rfl trivial ?_
    refine vNil ?_
    change VC _ _ _ _
    iterate 2 refine vSeq ?_
    refine vRegion ?_
    iterate 3 refine oVal tt rfl rfl rfl rfl rfl trivial ?_
    refine oSplit rfl rfl rfl (fun hb13 => ?_) (fun hb13 => ?_)
    ·replace h := cnd_t hb13 h
     iterate 4 refine oNoF rfl rfl rfl rfl hb13 rfl rfl ?_
     refine oPick rfl rfl rfl rfl rfl hb13 rfl ?_
     refine vNil ?_
     change VC _ _ _ _
     refine vCondT rfl rfl ?_
     refine vSeq ?_
     refine vRegion ?_
     refine oVal tt rfl rfl rfl rfl rfl trivial ?_
     refine vNil ?_
     change VC _ _ _ _
     refine vRet ?_
     change ∃ _, _
     cases h
     exact ⟨[], _, rfl, trivial, rfl, (.eq rfl), rfl⟩
    ·replace h := cnd_f hb13 h
     iterate 2 refine oValG tt rfl rfl rfl rfl rfl hb13 rfl rfl rfl trivial ?_
     obtain ⟨v10, hc14, h⟩ := bind_inv h
     refine oCallG (L_eqPlaceS_w N v5 v3 v10 hc14) rfl rfl rfl rfl hb13 rfl rfl rfl rfl rfl rfl rfl ⟨(.inl ⟨rfl, rfl⟩), (.inl ⟨rfl, rfl⟩), trivial⟩ ?_
     refine oValG tt rfl rfl rfl rfl rfl hb13 rfl rfl rfl trivial ?_
     refine oPickF rfl rfl rfl rfl rfl hb13 rfl ?_
     refine vNil ?_
     change VC _ _ _ _
     refine vCond rfl (fun hb15 => ?_) (fun hb15 => ?_)
     ·replace h := cnd_t hb15 h
      refine vSeq ?_
      refine vRegion ?_
      refine oVal tt rfl rfl rfl rfl rfl trivial ?_
      refine vNil ?_
      change VC _ _ _ _
      refine vRet ?_
      change ∃ _, _
      cases h
      exact ⟨[], _, rfl, trivial, rfl, (.eq rfl), rfl⟩
     ·replace h := cnd_f hb15 h
      refine vSkip ?_
      change VC _ _ _ _
      refine vSeq ?_
      refine vRegion ?_
      refine oVal tt rfl rfl rfl rfl rfl trivial ?_
      refine vNil ?_
      change VC _ _ _ _
      refine vSeq ?_
      refine vRegion ?_
      iterate 2 refine oVal tt rfl rfl rfl rfl rfl trivial ?_
      obtain ⟨v11, hc16, h⟩ := bind_inv h
      refine oMCall (L_markPlaceS_w N v5 (1 : Int) v11 hc16) [1260] [] [1260] rfl rfl rfl rfl rfl rfl ⟨rfl, trivial⟩ trivial ⟨⟨rfl, rfl⟩, ⟨rfl, rfl⟩, trivial⟩ ?_
      refine oVal tt rfl rfl rfl rfl rfl trivial ?_
      refine vNil ?_
      change VC _ _ _ _
      refine vSeq ?_
      refine vRegion ?_
      refine oVal tt rfl rfl rfl rfl rfl trivial ?_
      refine vNil ?_
      change VC _ _ _ _
      refine vSeq ?_
      refine vRegion ?_
      iterate 2 refine oVal tt rfl rfl rfl rfl rfl trivial ?_
      obtain ⟨hg17, h⟩ := grd_inv h
      obtain ⟨v12, hc18, h⟩ := bind_inv h
      refine oCall (L_heldPlaceS_w N v11.2 (1 : Int) v12 hc18) rfl rfl rfl rfl rfl rfl rfl rfl ⟨(.inl ⟨hg17, rfl⟩), rfl, trivial⟩ ?_
      refine oVal tt rfl rfl rfl rfl rfl trivial ?_
      refine vNil ?_
      change VC _ _ _ _
      iterate 2 refine vSeq ?_
      refine vRegion ?_
      iterate 2 refine oVal tt rfl rfl rfl rfl rfl trivial ?_
      refine vNil ?_
      change VC _ _ _ _
      refine vCond rfl (fun hb19 => ?_) (fun hb19 => ?_)
      ·replace h := cnd_t hb19 h
       refine vSeq ?_
       refine vRegion ?_
       refine oVal tt rfl rfl rfl rfl rfl trivial ?_
       refine vNil ?_
       change VC _ _ _ _
       refine vRet ?_
       change ∃ _, _
       cases h
       exact ⟨[], _, rfl, trivial, rfl, (.eq rfl), rfl⟩
      ·replace h := cnd_f hb19 h
       refine vSkip ?_
       change VC _ _ _ _
       iterate 2 refine vSeq ?_
       refine vRegion ?_
       iterate 3 refine oVal tt rfl rfl rfl rfl rfl trivial ?_
       refine vNil ?_
       change VC _ _ _ _
       refine vCond rfl (fun hb20 => ?_) (fun hb20 => ?_)
       ·replace h := cnd_t hb20 h
        refine vSeq ?_
        refine vRegion ?_
        refine oVal tt rfl rfl rfl rfl rfl trivial ?_
        refine vNil ?_
        change VC _ _ _ _
        refine vRet ?_
        change ∃ _, _
        cases h
        exact ⟨[], _, rfl, trivial, rfl, (.eq rfl), rfl⟩
       ·replace h := cnd_f hb20 h
        refine vSkip ?_
        change VC _ _ _ _
        refine vSeq ?_
        refine vRegion ?_
        refine oVal tt rfl rfl rfl rfl rfl trivial ?_
        obtain ⟨v13, hc21, h⟩ := bind_inv h
        refine oCall (L_toLinkage_w N aL_0 v13 hc21) rfl rfl rfl rfl rfl rfl rfl rfl ⟨⟨rfl, rfl, rfl, rfl, trivial⟩, trivial⟩ ?_
        refine oVal tt rfl rfl rfl rfl rfl trivial ?_
        obtain ⟨v14, hc22, h⟩ := bind_inv h
        refine oCall (I_TraceOf_w N v13 aJoint_1 v14 hc22) rfl rfl rfl rfl rfl rfl rfl rfl ⟨⟨rfl, (.inl ⟨rfl, rfl⟩), (.inl ⟨rfl, rfl⟩), (.inl ⟨rfl, rfl⟩), trivial⟩, rfl, trivial⟩ ?_
        refine oVal tt rfl rfl rfl rfl rfl trivial ?_
        refine vNil ?_
        change VC _ _ _ _
        iterate 2 refine vSeq ?_
        refine vRegion ?_
        iterate 2 refine oVal tt rfl rfl rfl rfl rfl trivial ?_
        obtain ⟨v15, hc23, h⟩ := bind_inv h
        refine oCall (L_eqPlaceS_w N v14 v3 v15 hc23) rfl rfl rfl rfl rfl rfl rfl rfl ⟨(.inl ⟨rfl, rfl⟩), (.inl ⟨rfl, rfl⟩), trivial⟩ ?_
        refine oVal tt rfl rfl rfl rfl rfl trivial ?_
        refine vNil ?_
        change VC _ _ _ _
        refine vCond rfl (fun hb24 => ?_) (fun hb24 => ?_)
        ·replace h := cnd_t hb24 h
         refine vSeq ?_
         refine vRegion ?_
         refine oVal tt rfl rfl rfl rfl rfl trivial ?_
         refine vNil ?_
         change VC _ _ _ _
         refine vRet ?_
         change ∃ _, _
         cases h
         exact ⟨[], _, rfl, trivial, rfl, (.eq rfl), rfl⟩
        ·replace h := cnd_f hb24 h
         refine vSkip ?_
         change VC _ _ _ _
         refine vSeq ?_
         refine vRegion ?_
         refine oVal tt rfl rfl rfl rfl rfl trivial ?_
         refine vNil ?_
         change VC _ _ _ _
         refine vSeq ?_
         refine vRegion ?_
         iterate 2 refine oVal tt rfl rfl rfl rfl rfl trivial ?_
         obtain ⟨v16, hc25, h⟩ := bind_inv h
         refine oCall (L_heldPlaceS_w N v11.2 (1 : Int) v16 hc25) rfl rfl rfl rfl rfl rfl rfl rfl ⟨(.inl ⟨hg17, rfl⟩), rfl, trivial⟩ ?_
         refine oVal tt rfl rfl rfl rfl rfl trivial ?_
         refine vNil ?_
         change VC _ _ _ _
         iterate 2 refine vSeq ?_
         refine vRegion ?_
         iterate 2 refine oVal tt rfl rfl rfl rfl rfl trivial ?_
         refine vNil ?_
         change VC _ _ _ _
         refine vCond rfl (fun hb26 => ?_) (fun hb26 => ?_)
         ·replace h := cnd_t hb26 h
          refine vSeq ?_
          refine vRegion ?_
          refine oVal tt rfl rfl rfl rfl rfl trivial ?_
          refine vNil ?_
          change VC _ _ _ _
          refine vRet ?_
          change ∃ _, _
          cases h
          exact ⟨[], _, rfl, trivial, rfl, (.eq rfl), rfl⟩
         ·replace h := cnd_f hb26 h
          refine vSkip ?_
          change VC _ _ _ _
          iterate 2 refine vSeq ?_
          refine vRegion ?_
          iterate 3 refine oVal tt rfl rfl rfl rfl rfl trivial ?_
          refine vNil ?_
          change VC _ _ _ _
          refine vCond rfl (fun hb27 => ?_) (fun hb27 => ?_)
          ·replace h := cnd_t hb27 h
           refine vSeq ?_
           refine vRegion ?_
           refine oVal tt rfl rfl rfl rfl rfl trivial ?_
           refine vNil ?_
           change VC _ _ _ _
           refine vRet ?_
           change ∃ _, _
           cases h
           exact ⟨[], _, rfl, trivial, rfl, (.eq rfl), rfl⟩
          ·replace h := cnd_f hb27 h
           refine vSkip ?_
           change VC _ _ _ _
           refine vSeq ?_
           refine vRegion ?_
           refine oVal tt rfl rfl rfl rfl rfl trivial ?_
           refine vNil ?_
           change VC _ _ _ _
           refine vRet ?_
           change ∃ _, _
           cases h
           exact ⟨[], _, rfl, trivial, rfl, (.eq rfl), rfl⟩
end Go.Proofs.YtmoamglpocjhgaaGreat
