/- Facts that the walks and the plain laws of this claim use. No condition. -/
import Derived.Test.YtafblagnkjkdcaaNum
namespace Go.Proofs.Ytafblagnkjkdcaa
open Go.RowKit
set_option linter.unusedSimpArgs false
set_option linter.unusedVariables false
theorem infoPlace : (Try.prog.info? 49).map (fun i => (i.zero, i.size, i.bytes)) = some (some (.agg #[.int .i64 0, .int .i64 0]), 2, 16) := by kernel_rfl

theorem toList_madeCells_two (z : Value) (n : Nat) : (madeCells #[z, z] n).toList = List.replicate n z := by
  apply List.ext_getElem?
  intro j
  by_cases hj : j < n
  · rcases Nat.mod_two_eq_zero_or_one j with h | h <;> simp [madeCells, hj, h]
  · simp [madeCells, hj]

theorem toPlace_c (a b : Int) (w : World) :
    Calls Try.prog 35 #[.agg #[.int .i64 a, .int .i64 b]] w fun e w' => e = .returned (.agg #[.int .i64 a, .int .i64 b]) ∧ Below w.heap.size w w' := by
  go_enter Try.func35, Try.ntmps35
  go_wp2
  exact bodyPost_ret (v := .agg #[.int .i64 a, .int .i64 b]) (by simp [results, Try.results35, go_sem]) rfl ⟨rfl, by repeat (first | exact Below.refl _ _ | refine Below.alloc ?_ (by simp; try omega) _)⟩

set_option maxHeartbeats 400000 in
theorem toPlaceS_c (v : Value) (l : List (Int × Int)) (w : World) (hl : PairsAt w v l) (hn : l.length ≤ 1048576) :
    Calls Try.prog 15 #[v] w fun e w' => ∃ v', e = .returned v' ∧ Below w.heap.size w w' ∧ w'.ownsRow w.heap.size 49 2 v' l.length (pcells l) := by
  obtain ⟨hm, ao, cap, rfl, hc⟩ := hl
  clear hm
  obtain ⟨i0, hi, hz0, hz1, hz2⟩ := info_parts infoPlace
  go_enter Try.func15, Try.ntmps15
  go_wp2_with (at_make; refine wpList_make_full _ rfl _ _ _ rfl w.heap.size _ i0 _ 2 Try.underlying27 hi hz0 hz1 .i64 .i64 _ _ l.length rfl rfl rfl rfl ?b2 ?b3 ?b4 ?_)
  case b2 => rw [hz2]; omega
  case b3 => unfold maxLen; omega
  case b4 => exact Nat.le_refl _
  intro w1 hown hg
  go_wp2
  have hbel1 : Below w.heap.size w w1 := (Below.refl _ _).grown hg (Nat.le_refl _) (by intro k hk; cases hk)
  go_loopw [4] (fun i wr => ∃ k : Nat, k ≤ l.length ∧ i = .int .i64 k ∧ Below w.heap.size w wr ∧
    wr.ownsRow w.heap.size 49 2 (.slice (some ⟨w.heap.size, 0, none⟩) l.length l.length) l.length (pcells (fillTo l (0, 0) k))) (fun i _ => l.length - (intOf i).toNat)
  case atStart =>
    refine ⟨0, Nat.zero_le _, rfl, hbel1, ?_⟩
    rw [fillTo_zero, pcells_replicate]
    have : (madeCells #[Value.int IntKind.i64 0, Value.int IntKind.i64 0] (l.length * 2)).toList = List.replicate (l.length * 2) (.int .i64 0) := toList_madeCells_two _ _
    rw [← this]; exact hown
  case round =>
    clear hown hg hbel1
    obtain ⟨k, hk, rfl, hbel, hown⟩ := hrel
    have hz : w.heap.size < wr.heap.size := (hown.lt w.heap.size rfl).2
    by_cases hlt : k < l.length
    · obtain ⟨hbc, hbf⟩ := bcell hbel
      obtain ⟨b, off, rfl, hb, hcs⟩ := hc (by omega)
      obtain ⟨hx1, hx2⟩ := hcs k hlt
      clear hc hcs
      have hof := hown.frozenAt
      have hs1 := hown.cellAt (k * 2) (by omega)
      have hs2 := hown.cellAt (k * 2 + 1) (by omega)
      rw [pcells_get1 _ _ (by rw [fillTo_length _ _ _ hk]; exact hlt)] at hs1
      rw [pcells_get2 _ _ (by rw [fillTo_length _ _ _ hk]; exact hlt)] at hs2
      go_wp2_with (go_at_call 35; refine (toPlace_c _ _ _).mono ?_; rintro e w' ⟨rfl, hb2⟩; obtain ⟨hbc2, hbf2⟩ := bcell hb2)
      go_roundw
      case rel =>
        refine ⟨k + 1, by omega, by go_num, ?_, ?_⟩
        · exact ((hbel.trans (hb2.mono hbel.size)).setCell (by simp) _).setCell (by simp) _
        · have h3 := (((own_below hown hb2).stored (k * 2) (.int .i64 l[k].1)).1.stored (k * 2 + 1) (.int .i64 l[k].2)).1
          rw [← pcells_set _ _ l[k], fillTo_set _ _ _ hlt] at h3
          exact h3
      case measure => simp [intOf]; omega
    · have : k = l.length := by omega
      subst this
      rw [fillTo_full] at hown
      go_wp2
      go_ret
      exact ⟨_, rfl, hbel, hown⟩
end Go.Proofs.Ytafblagnkjkdcaa
