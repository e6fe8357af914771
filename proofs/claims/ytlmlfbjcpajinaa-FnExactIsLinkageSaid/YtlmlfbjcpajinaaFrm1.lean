/- impl.IsFramework. -/
import Derived.Test.YtlmlfbjcpajinaaDbl
import Derived.Test.YtlmlfbjcpajinaaFrmP
import Derived.Test.YtlmlfbjcpajinaaReg
namespace Go.Proofs.Ytlmlfbjcpajinaa
open Go.RowKit
set_option linter.unusedSimpArgs false
set_option linter.unusedVariables false

set_option maxRecDepth 100000 in
set_option maxHeartbeats 3200000 in
theorem isFrameI_c (v : Value) (f : Frm) (w : World) (h : FrameAt w v f) :
    Calls Try.prog 91 #[v] w fun e w' => e = .returned (.bool (isFrame f)) ∧ Below w.heap.size w w' := by
  obtain ⟨u1, u2, rfl, h, hg⟩ := h
  obtain ⟨⟨n, l⟩, pl⟩ := f
  simp only at h hg ⊢
  have Hh := h
  obtain ⟨hm_l, ao_l, cap_l, rfl, hc_l⟩ := h; unfold maxLen at hm_l
  obtain ⟨hm_pl, ao_pl, cap_pl, rfl, hc_pl⟩ := hg; unfold maxLen at hm_pl
  have HG : GraphAt w (.agg #[.int .i64 n, .slice ao_l l.length cap_l]) ⟨n, l⟩ := ⟨_, rfl, Hh⟩
  replace HG := Lib.hid HG
  clear Hh
  have hcase : isGraph ⟨n, l⟩ = false ∨ (isGraph ⟨n, l⟩ = true ∧ decide (6 < n) = true) ∨ (isGraph ⟨n, l⟩ = true ∧ decide (6 < n) = false ∧ decide ((15 : Int) < (l.length : Int)) = true) ∨
      (isGraph ⟨n, l⟩ = true ∧ decide (6 < n) = false ∧ decide ((15 : Int) < (l.length : Int)) = false ∧ ((pl.length : Int) != n) = true) ∨
      (isGraph ⟨n, l⟩ = true ∧ decide (6 < n) = false ∧ decide ((15 : Int) < (l.length : Int)) = false ∧ ((pl.length : Int) != n) = false) := by
    cases isGraph ⟨n, l⟩ <;> cases decide (6 < n) <;> cases decide ((15 : Int) < (l.length : Int)) <;> cases ((pl.length : Int) != n) <;> simp
  rcases hcase with q1 | ⟨q1, q2⟩ | ⟨q1, q2, q3⟩ | ⟨q1, q2, q3, q4⟩ | ⟨q1, q2, q3, q4⟩
  all_goals
    go_enter Try.func91, Try.ntmps91
    go_wp2_with fail
    refine (isGraphI_c _ _ _ (HG.out.below (by repeat (first | exact Below.refl _ _ | assumption | refine Below.alloc ?_ (by first | omega | (simp; done) | (simp; omega)) _ | refine Below.setCell ?_ (by first | omega | (simp; done) | (simp; omega)) _ | refine Below.drew ?_ | refine below_dN ?_ _ | refine Below.trans ?_ (Below.mono (by with_reducible assumption) (by first | omega | (simp; done) | (simp; omega))))))).mono ?_
    rintro e w2 ⟨rfl, hb1⟩
    obtain ⟨hb1c, hb1f⟩ := bcell hb1; have hb1z0 : w.heap.size < w2.heap.size := (by have := hb1.size; (try simp at this); omega); have hb1z1 : w.heap.size + 1 < w2.heap.size := (by have := hb1.size; (try simp at this); omega)
    have c0 : w2.cell? ⟨w.heap.size, 0, none⟩ = some (.int .i64 n) := keepw hb1 (by go_simp)
    have c1 : w2.cell? ⟨w.heap.size, 1, none⟩ = some (.slice ao_l l.length cap_l) := keepw hb1 (by go_simp)
    have c2 : w2.cell? ⟨w.heap.size, 2, none⟩ = some (.slice ao_pl pl.length cap_pl) := keepw hb1 (by go_simp)
    have d0 : w2.cell? ⟨w.heap.size + 1, 0, none⟩ = some (.int .i64 n) := keepw hb1 (by go_simp)
    have d1 : w2.cell? ⟨w.heap.size + 1, 1, none⟩ = some (.slice ao_l l.length cap_l) := keepw hb1 (by go_simp)
    have B2 : Below w.heap.size w w2 := (by repeat (first | exact Below.refl _ _ | assumption | refine Below.alloc ?_ (by first | omega | (simp; done) | (simp; omega)) _ | refine Below.setCell ?_ (by first | omega | (simp; done) | (simp; omega)) _ | refine Below.drew ?_ | refine below_dN ?_ _ | refine Below.trans ?_ (Below.mono (by with_reducible assumption) (by first | omega | (simp; done) | (simp; omega)))))
    have z2 : w.heap.size + 1 < w2.heap.size := by omega
    clear hb1c hb1f
    clear hb1
    go_wp2_with fail
  · go_ret
    exact ⟨ret_bool (by simp [isFrame, q1]), B2⟩
  · go_ret
    exact ⟨ret_bool (by have : ¬ n ≤ 6 := (by simp at q2; omega)
                        simp [isFrame, this]), B2⟩
  · go_ret
    exact ⟨ret_bool (by have : ¬ l.length ≤ 15 := (by simp at q3; omega)
                        simp [isFrame, this]), B2⟩
  · go_ret
    exact ⟨ret_bool (by have : ¬ (pl.length : Int) = n := (by simp at q4; omega)
                        simp [isFrame, this]), B2⟩
  · have hnl : (pl.length : Int) = n := by simp at q4; omega
    have Hnl := Lib.hid hnl
    have Hbar : Hid (∀ i (hi : i < l.length), 0 ≤ l[i].1 ∧ l[i].1 < (pl.length : Int) ∧ 0 ≤ l[i].2 ∧ l[i].2 < (pl.length : Int)) := Lib.hid (fun i hi => by
      have := isGraph_bar (g := ⟨n, l⟩) q1 (List.getElem_mem hi)
      simp only at this; omega)
    have HF : Hid (allOn pl = true → frmBars l pl = true → isFrame ⟨⟨n, l⟩, pl⟩ = true) := Lib.hid (fun a b => by
      have e3 : n ≤ 6 := (by simp at q2; omega)
      have e4 : l.length ≤ 15 := (by simp at q3; omega)
      simp only [isFrame, q1, e3, e4, a, b, Hnl.out]; simp)
    clear q1 q2 q3 q4 hnl
    go_loopw [35] (fun i wr => ∃ k : Nat, k ≤ pl.length ∧ i = .int .i64 k ∧ Below w2.heap.size w2 wr ∧ Hid (∀ i (hi : i < pl.length), i < k → onB pl[i].1 pl[i].2 = true)) (fun i _ => pl.length - (intOf i).toNat)
    case atStart => exact ⟨0, Nat.zero_le _, rfl, Below.refl _ _, Lib.hid (fun i _ h => absurd h (Nat.not_lt_zero _))⟩
    case round =>
      obtain ⟨k, hk, rfl, hbel, Hs⟩ := hrel
      have hbs := hbel.size
      have hB := bt B2 hbel
      replace c0 := keepw hbel c0; replace c1 := keepw hbel c1; replace c2 := keepw hbel c2; replace d0 := keepw hbel d0; replace d1 := keepw hbel d1
      replace z2 : w.heap.size + 1 < wr.heap.size := by omega
      have z1 : w.heap.size < wr.heap.size := by omega
      by_cases hlt : k < pl.length
      · obtain ⟨blk, off, rfl, hblk, hcs⟩ := hc_pl (by omega)
        obtain ⟨x1, x2⟩ := hcs k hlt
        replace x1 := keepw hB x1
        replace x2 := keepw hB x2
        have hj : (k : Int) < (pl.length : Int) := by omega
        have hbb : blk < wr.heap.size := by have := hB.size; omega
        clear hcs hc_pl hc_l
        cases q : onB pl[k].1 pl[k].2
        all_goals
          go_wp2_with fail
          refine (isPlace_c _ _ _).mono ?_
          rintro e w4 ⟨rfl, hb4⟩
          have hb5 : Below wr.heap.size wr w4 := (by repeat (first | exact Below.refl _ _ | assumption | refine Below.alloc ?_ (by first | omega | (simp; done) | (simp; omega)) _ | refine Below.setCell ?_ (by first | omega | (simp; done) | (simp; omega)) _ | refine Below.drew ?_ | refine below_dN ?_ _ | refine Below.trans ?_ (Below.mono (by with_reducible assumption) (by first | omega | (simp; done) | (simp; omega)))))
          go_wp2_with fail
        · go_ret
          exact ⟨ret_bool (by simp [isFrame, allOn_bad k hlt q]), bt hB hb5⟩
        · go_roundw
          case rel =>
            refine ⟨k + 1, by omega, by go_num, bt hbel hb5, Lib.hid (fun i hi h => ?_)⟩
            by_cases hik : i = k
            · subst hik; exact q
            · exact Hs.out i hi (by omega)
          case measure => simp [intOf]; omega
      · have hkl : k = pl.length := by omega
        subst hkl
        have HA : Hid (allOn pl = true) := Lib.hid (allOn_true (fun i hi => Hs.out i hi hi))
        clear Hs hlt hk
        obtain ⟨w3, rfl⟩ : ∃ x : World, x = wr := ⟨_, rfl⟩
        go_wp2_with fail
        go_loopw [46] (fun i wr => ∃ k : Nat, k ≤ l.length ∧ i = .int .i64 k ∧ Below w3.heap.size w3 wr ∧ Hid (∀ i, i < k → frmAt l pl i = true)) (fun i _ => l.length - (intOf i).toNat)
        case atStart => exact ⟨0, Nat.zero_le _, rfl, Below.refl _ _, Lib.hid (by omega)⟩
        case round =>
          obtain ⟨k, hk, rfl, hbel3, Hs⟩ := hrel
          have hbs3 := hbel3.size
          have hB3 := bt hB hbel3
          replace c0 := keepw hbel3 c0; replace c1 := keepw hbel3 c1; replace c2 := keepw hbel3 c2; replace d0 := keepw hbel3 d0; replace d1 := keepw hbel3 d1
          replace z2 : w.heap.size + 1 < wr.heap.size := by omega
          have z1 : w.heap.size < wr.heap.size := by omega
          by_cases hlt : k < l.length
          · obtain ⟨g1, g2, g3, g4⟩ := Hbar.out k hlt
            obtain ⟨a, ha⟩ : ∃ a : Nat, l[k].1 = (a : Int) := ⟨l[k].1.toNat, by omega⟩
            obtain ⟨b, hb⟩ : ∃ b : Nat, l[k].2 = (b : Int) := ⟨l[k].2.toNat, by omega⟩
            have hap : a < pl.length := by omega
            have hbp : b < pl.length := by omega
            obtain ⟨blk, off, rfl, hblk, hcs⟩ := hc_l (by omega)
            obtain ⟨bp, op, rfl, hblkp, hcp⟩ := hc_pl (by omega)
            obtain ⟨x1, x2⟩ := hcs k hlt
            replace x1 := keepw hB3 x1
            replace x2 := keepw hB3 x2
            rw [ha] at x1
            rw [hb] at x2
            obtain ⟨p1, p2⟩ := hcp a hap
            obtain ⟨r1, r2⟩ := hcp b hbp
            replace p1 := keepw hB3 p1
            replace p2 := keepw hB3 p2
            replace r1 := keepw hB3 r1
            replace r2 := keepw hB3 r2
            have hj : (k : Int) < (l.length : Int) := by omega
            have hja : (a : Int) < (pl.length : Int) := by omega
            have hjb : (b : Int) < (pl.length : Int) := by omega
            have hbb : blk < wr.heap.size := by have := hB3.size; omega
            have hbbp : bp < wr.heap.size := by have := hB3.size; omega
            have hpe : (pl[a] == pl[b]) = peqB pl[a].1 pl[a].2 pl[b].1 pl[b].2 := (peqB_beq _ _).symm
            have hep := run_eqlPlace pl[a].1 pl[a].2 pl[b].1 pl[b].2
            clear g1 g2 g3 g4
            by_cases hk0 : k = 0
            · subst hk0
              simp only [Nat.zero_mul, Nat.add_zero] at x1 x2
              have hat : frmAt l pl 0 = !(pl[a] == pl[b]) := by simp [frmAt, hlt, ha, hb, hap, hbp]
              have Hat := Lib.hid (hat.trans (by rw [hpe]))
              clear hat hpe hcs hcp hc_l hc_pl ha hb
              cases q : peqB pl[a].1 pl[a].2 pl[b].1 pl[b].2
              all_goals
                rw [q] at hep Hat
                go_wp2_with fail
                refine wp_region_seq (S := fun w' => (∀ (zb zo : Nat), zb < (wr.alloc (.cells #[.int .i64 a, .int .i64 b] 105)).heap.size → w'.cell? ⟨zb, zo, none⟩ = (wr.alloc (.cells #[.int .i64 a, .int .i64 b] 105)).cell? ⟨zb, zo, none⟩) ∧ Below (wr.alloc (.cells #[.int .i64 a, .int .i64 b] 105)).heap.size (wr.alloc (.cells #[.int .i64 a, .int .i64 b] 105)) w') (by kernel_rfl) (by kernel_rfl) (by kernel_rfl) (grow_drew _) ?_
                repeat (first | (refine wpSeq_skip (by rfl) ?_; simp only [Act.put, List.setIfInBounds_toArray, List.set_cons_zero, List.set_cons_succ]) | (refine wpSeq_val (v := ?_) (by rfl) (fun w hSw => ?_) ?_; rotate_left; (focus ((try dsimp only at hSw); go_simp; (try first | with_reducible rfl | (constructor <;> with_reducible rfl)))); simp only [Act.put, List.setIfInBounds_toArray, List.set_cons_zero, List.set_cons_succ]) | (refine wpSeq_call (v := ?_) (f := ?_) (args := ?_) (by rfl) (fun w hSw => ?_) (fun w hSw => ?_) ?_; rotate_left; rotate_left; rotate_left; (focus ((try dsimp only at hSw); go_simp; (try first | with_reducible rfl | (constructor <;> with_reducible rfl)))); (focus (fail)); simp only [Act.put, List.setIfInBounds_toArray, List.set_cons_zero, List.set_cons_succ]))
                refine wpSeq_nil (fun w2 hSw => ?_)
                obtain ⟨hSc, hSb⟩ := hSw
                have hb2 : Below wr.heap.size wr w2 := (by repeat (first | exact Below.refl _ _ | assumption | refine Below.alloc ?_ (by first | omega | (simp; done) | (simp; omega)) _ | refine Below.setCell ?_ (by first | omega | (simp; done) | (simp; omega)) _ | refine Below.drew ?_ | refine below_dN ?_ _ | refine Below.trans ?_ (Below.mono (by with_reducible assumption) (by first | omega | (simp; done) | (simp; omega)))))
                have hb3 := bt hB3 hb2
                go_wp2_with fail
              · go_roundw
                case rel =>
                  refine ⟨1, by omega, by go_num, bt hbel3 hb2, Lib.hid (fun i hi => ?_)⟩
                  have : i = 0 := by omega
                  subst this
                  rw [Hat.out]; rfl
                case measure => simp [intOf]; omega
              · go_ret
                exact ⟨ret_bool (by simp [isFrame, frmBars_bad 0 hlt (by rw [Hat.out]; rfl)]), hb3⟩
            · obtain ⟨j, hj0⟩ : ∃ j, j = k - 1 := ⟨_, rfl⟩
              have hkp : j < l.length := by omega
              have hj1 : (j : Int) < (l.length : Int) := by omega
              have hkk : ((k : Int) - 1) = (j : Int) := by omega
              have hkw : IntKind.i64.wrap (j : Int) = (j : Int) := IntWalk.i64_in _ (by omega)
              have hk0' : decide (0 < k) = true := by simp; omega
              obtain ⟨y1, y2⟩ := hcs j hkp
              replace y1 := keepw hB3 y1
              replace y2 := keepw hB3 y2
              have hle : (l[j] == l[k]) = peqB l[j].1 l[j].2 a b := by rw [← ha, ← hb]; exact (peqB_beq _ _).symm
              have heb := run_eqlBar l[j].1 l[j].2 a b
              have hat : frmAt l pl k = (!(l[j] == l[k]) && !(pl[a] == pl[b])) := by
                subst hj0
                have hk1 : 0 < k := by omega
                have e1 : l.getD k (0, 0) = l[k] := by simp [hlt]
                have e2 : l.getD (k - 1) (0, 0) = l[k - 1] := by simp [hkp]
                have e3 : pl.getD l[k].1.toNat (0, 0) = pl[a] := by simp [ha, hap]
                have e4 : pl.getD l[k].2.toNat (0, 0) = pl[b] := by simp [hb, hbp]
                simp only [frmAt, e1, e2, e3, e4, hk1, decide_true, Bool.true_and]
              have Hat := Lib.hid (hat.trans (by rw [hpe, hle]))
              clear hat hpe hle hj0 hcs hcp hc_l hc_pl ha hb
              have hcase : peqB l[j].1 l[j].2 a b = true ∨ (peqB l[j].1 l[j].2 a b = false ∧ peqB pl[a].1 pl[a].2 pl[b].1 pl[b].2 = true) ∨ (peqB l[j].1 l[j].2 a b = false ∧ peqB pl[a].1 pl[a].2 pl[b].1 pl[b].2 = false) := by
                cases peqB l[j].1 l[j].2 a b <;> cases peqB pl[a].1 pl[a].2 pl[b].1 pl[b].2 <;> simp
              rcases hcase with q | ⟨q, q2⟩ | ⟨q, q2⟩
              all_goals
                rw [q] at heb
                (try rw [q2] at hep)
                rw [q] at Hat
                (try rw [q2] at Hat)
                go_wp2_with fail
                refine wp_region_seq (S := fun w' => (∀ (zb zo : Nat), zb < (wr.alloc (.cells #[.int .i64 a, .int .i64 b] 105)).heap.size → w'.cell? ⟨zb, zo, none⟩ = (wr.alloc (.cells #[.int .i64 a, .int .i64 b] 105)).cell? ⟨zb, zo, none⟩) ∧ Below (wr.alloc (.cells #[.int .i64 a, .int .i64 b] 105)).heap.size (wr.alloc (.cells #[.int .i64 a, .int .i64 b] 105)) w') (by kernel_rfl) (by kernel_rfl) (by kernel_rfl) (grow_drew _) ?_
                repeat (first | (refine wpSeq_skip (by rfl) ?_; simp only [Act.put, List.setIfInBounds_toArray, List.set_cons_zero, List.set_cons_succ]) | (refine wpSeq_val (v := ?_) (by rfl) (fun w hSw => ?_) ?_; rotate_left; (focus ((try dsimp only at hSw); go_simp; (try first | with_reducible rfl | (constructor <;> with_reducible rfl)))); simp only [Act.put, List.setIfInBounds_toArray, List.set_cons_zero, List.set_cons_succ]) | (refine wpSeq_call (v := ?_) (f := ?_) (args := ?_) (by rfl) (fun w hSw => ?_) (fun w hSw => ?_) ?_; rotate_left; rotate_left; rotate_left; (focus ((try dsimp only at hSw); go_simp; (try first | with_reducible rfl | (constructor <;> with_reducible rfl)))); (focus (fail)); simp only [Act.put, List.setIfInBounds_toArray, List.set_cons_zero, List.set_cons_succ]))
                refine wpSeq_nil (fun w2 hSw => ?_)
                obtain ⟨hSc, hSb⟩ := hSw
                have hb2 : Below wr.heap.size wr w2 := (by repeat (first | exact Below.refl _ _ | assumption | refine Below.alloc ?_ (by first | omega | (simp; done) | (simp; omega)) _ | refine Below.setCell ?_ (by first | omega | (simp; done) | (simp; omega)) _ | refine Below.drew ?_ | refine below_dN ?_ _ | refine Below.trans ?_ (Below.mono (by with_reducible assumption) (by first | omega | (simp; done) | (simp; omega)))))
                have hb3 := bt hB3 hb2
                go_wp2_with fail
              · go_ret
                exact ⟨ret_bool (by simp [isFrame, frmBars_bad k hlt (by rw [Hat.out]; rfl)]), hb3⟩
              · go_ret
                exact ⟨ret_bool (by simp [isFrame, frmBars_bad k hlt (by rw [Hat.out]; rfl)]), hb3⟩
              · go_roundw
                case rel =>
                  refine ⟨k + 1, by omega, by go_num, bt hbel3 hb2, Lib.hid (fun i hi => ?_)⟩
                  by_cases hik : i = k
                  · subst hik; rw [Hat.out]; rfl
                  · exact Hs.out i (by omega)
                case measure => simp [intOf]; omega
          · have hkl : k = l.length := by omega
            subst hkl
            go_wp2_with fail
            go_ret
            exact ⟨ret_bool (HF.out HA.out (frmBars_true Hs.out)).symm, hB3⟩
end Go.Proofs.Ytlmlfbjcpajinaa
