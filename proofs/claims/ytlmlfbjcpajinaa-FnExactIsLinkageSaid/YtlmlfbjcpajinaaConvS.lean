/- The laws' conversions of the struct types. -/
import Derived.Test.YtlmlfbjcpajinaaConv
import Derived.Test.YtlmlfbjcpajinaaGraphP
import Derived.Test.YtlmlfbjcpajinaaHeap
namespace Go.Proofs.Ytlmlfbjcpajinaa
open Go.RowKit
set_option linter.unusedSimpArgs false
set_option linter.unusedVariables false

/-- A graph whose bars are a row of its own, at base B or above. -/
def GraphO (w : World) (B : Nat) (v : Value) (g : Grf) : Prop := ∃ u, v = .agg #[.int .i64 g.n, u] ∧ w.ownsRow B 105 2 u g.bars.length (pcells g.bars)
theorem GraphO.at {w : World} {B : Nat} {v : Value} {g : Grf} (h : GraphO w B v g) (hn : g.bars.length ≤ 1048576) : GraphAt w v g := by
  obtain ⟨u, rfl, h⟩ := h
  exact ⟨u, rfl, PairsAt_own h (by unfold maxLen; omega)⟩
theorem GraphO.below {w w' : World} {B : Nat} {v : Value} {g : Grf} (h : GraphO w B v g) (hb : Below w.heap.size w w') : GraphO w' B v g := by
  obtain ⟨u, rfl, h⟩ := h
  exact ⟨u, rfl, own_below h hb⟩
set_option maxHeartbeats 800000 in
theorem toGraph_s (v : Value) (g : Grf) (w : World) (h : GraphAt w v g) (hn : g.bars.length ≤ 1048576) :
    Calls Try.prog 30 #[v] w fun e w' => ∃ b c, e = .returned (.agg #[.int .i64 g.n, .slice (some ⟨b, 0, none⟩) g.bars.length c]) ∧ Below w.heap.size w w' ∧ w'.ownsRow w.heap.size 105 2 (.slice (some ⟨b, 0, none⟩) g.bars.length c) g.bars.length (pcells g.bars) := by
  obtain ⟨u, rfl, h⟩ := h
  obtain ⟨n, l⟩ := g
  simp only at h hn ⊢
  have Hh := h
  obtain ⟨hm_l, ao_l, cap_l, rfl, hc_l⟩ := h; unfold maxLen at hm_l
  replace Hh := Lib.hid Hh
  clear hc_l
  go_enter Try.func30, Try.ntmps30
  go_wp2_with fail
  refine (toBarS_c _ _ _ (Hh.out.below (by repeat (first | exact Below.refl _ _ | assumption | refine Below.alloc ?_ (by first | omega | (simp; done) | (simp; omega)) _ | refine Below.setCell ?_ (by first | omega | (simp; done) | (simp; omega)) _ | refine Below.drew ?_ | refine below_dN ?_ _ | refine Below.trans ?_ (Below.mono (by with_reducible assumption) (by first | omega | (simp; done) | (simp; omega)))))) hn).mono ?_
  rintro e w1 ⟨gB, cB, rfl, hb1, o1⟩
  obtain ⟨hb1c, hb1f⟩ := bcell hb1; have hb1z0 : w.heap.size < w1.heap.size := (by have := hb1.size; (try simp at this); omega); have hb1z1 : w.heap.size + 1 < w1.heap.size := (by have := hb1.size; (try simp at this); omega); have hb1z2 : w.heap.size + 1 + 1 < w1.heap.size := (by have := hb1.size; (try simp at this); omega)
  obtain ⟨B_o1, hB_o1, o1⟩ : ∃ B, w.heap.size + 2 < B ∧ w1.ownsRow B _ _ _ _ _ := ⟨_, by first | omega | (simp; done) | (simp; omega), o1⟩
  go_wp2_with fail
  exact bodyPost_ret (v := .agg #[.int .i64 n, .slice (some ⟨gB, 0, none⟩) l.length cB]) (by simp only [results, Try.results30]; go_simp) rfl ⟨_, _, rfl, (by repeat (first | exact Below.refl _ _ | assumption | refine Below.alloc ?_ (by first | omega | (simp; done) | (simp; omega)) _ | refine Below.setCell ?_ (by first | omega | (simp; done) | (simp; omega)) _ | refine Below.drew ?_ | refine below_dN ?_ _ | refine Below.trans ?_ (Below.mono (by with_reducible assumption) (by first | omega | (simp; done) | (simp; omega))))), (own_mono (base := B_o1) (by repeat (first | exact o1 | refine own_setLow ?_ (by first | omega | (simp; done) | (simp; omega)) _)) (by omega))⟩
theorem toGraph_c (v : Value) (g : Grf) (w : World) (h : GraphAt w v g) (hn : g.bars.length ≤ 1048576) :
    Calls Try.prog 30 #[v] w fun e w' => ∃ v', e = .returned v' ∧ Below w.heap.size w w' ∧ GraphO w' w.heap.size v' g :=
  (toGraph_s v g w h hn).mono (fun e w' ⟨b, c, he, hb, ho⟩ => ⟨_, he, hb, _, rfl, ho⟩)
/-- A raise whose bars are a row of its own. -/
def RaiseO (w : World) (B : Nat) (v : Value) (r : Rse) : Prop := ∃ u, v = .agg #[.int .i64 r.p, u] ∧ w.ownsRow B 3 1 u r.bars.length (r.bars.map (Value.int .i64))
theorem RaiseO.at {w : World} {B : Nat} {v : Value} {r : Rse} (h : RaiseO w B v r) (hn : r.bars.length ≤ 1048576) : RaiseAt w v r := by
  obtain ⟨u, rfl, h⟩ := h
  exact ⟨u, rfl, IntsAt_own h (by unfold maxLen; omega)⟩
theorem RaiseO.below {w w' : World} {B : Nat} {v : Value} {r : Rse} (h : RaiseO w B v r) (hb : Below w.heap.size w w') : RaiseO w' B v r := by
  obtain ⟨u, rfl, h⟩ := h
  exact ⟨u, rfl, own_below h hb⟩
set_option maxHeartbeats 800000 in
theorem toRaise_c (v : Value) (g : Rse) (w : World) (h : RaiseAt w v g) (hn : g.bars.length ≤ 1048576) :
    Calls Try.prog 48 #[v] w fun e w' => ∃ v', e = .returned v' ∧ Below w.heap.size w w' ∧ RaiseO w' w.heap.size v' g := by
  obtain ⟨u, rfl, h⟩ := h
  obtain ⟨n, l⟩ := g
  simp only at h hn ⊢
  have Hh := h
  obtain ⟨hm_l, ao_l, cap_l, rfl, hc_l⟩ := h; unfold maxLen at hm_l
  replace Hh := Lib.hid Hh
  clear hc_l
  go_enter Try.func48, Try.ntmps48
  go_wp2_with fail
  refine (toIntS_c _ _ _ (Hh.out.below (by repeat (first | exact Below.refl _ _ | assumption | refine Below.alloc ?_ (by first | omega | (simp; done) | (simp; omega)) _ | refine Below.setCell ?_ (by first | omega | (simp; done) | (simp; omega)) _ | refine Below.drew ?_ | refine below_dN ?_ _ | refine Below.trans ?_ (Below.mono (by with_reducible assumption) (by first | omega | (simp; done) | (simp; omega)))))) hn).mono ?_
  rintro e w1 ⟨gB, cB, rfl, hb1, o1⟩
  obtain ⟨hb1c, hb1f⟩ := bcell hb1; have hb1z0 : w.heap.size < w1.heap.size := (by have := hb1.size; (try simp at this); omega); have hb1z1 : w.heap.size + 1 < w1.heap.size := (by have := hb1.size; (try simp at this); omega); have hb1z2 : w.heap.size + 1 + 1 < w1.heap.size := (by have := hb1.size; (try simp at this); omega)
  obtain ⟨B_o1, hB_o1, o1⟩ : ∃ B, w.heap.size + 2 < B ∧ w1.ownsRow B _ _ _ _ _ := ⟨_, by first | omega | (simp; done) | (simp; omega), o1⟩
  go_wp2_with fail
  exact bodyPost_ret (v := .agg #[.int .i64 n, .slice (some ⟨gB, 0, none⟩) l.length cB]) (by simp only [results, Try.results48]; go_simp) rfl ⟨_, rfl, (by repeat (first | exact Below.refl _ _ | assumption | refine Below.alloc ?_ (by first | omega | (simp; done) | (simp; omega)) _ | refine Below.setCell ?_ (by first | omega | (simp; done) | (simp; omega)) _ | refine Below.drew ?_ | refine below_dN ?_ _ | refine Below.trans ?_ (Below.mono (by with_reducible assumption) (by first | omega | (simp; done) | (simp; omega))))), ⟨_, rfl, (own_mono (base := B_o1) (by repeat (first | exact o1 | refine own_setLow ?_ (by first | omega | (simp; done) | (simp; omega)) _)) (by omega))⟩⟩
def PinnedO (w : World) (B : Nat) (v : Value) (p : Pin) : Prop :=
  ∃ u1 u2, v = .agg #[.int .i64 p.g.n, u1, u2] ∧ w.ownsRow B 105 2 u1 p.g.bars.length (pcells p.g.bars) ∧ w.ownsRow B 3 1 u2 p.ground.length (p.ground.map (Value.int .i64)) ∧ (u1.ownBlock = none ∨ u1.ownBlock ≠ u2.ownBlock)
theorem PinnedO.at {w : World} {B : Nat} {v : Value} {p : Pin} (h : PinnedO w B v p) (hn : p.g.bars.length ≤ 1048576) (hn2 : p.ground.length ≤ 1048576) : PinnedAt w v p := by
  obtain ⟨u1, u2, rfl, h1, h2, _⟩ := h
  exact ⟨u1, u2, rfl, PairsAt_own h1 (by unfold maxLen; omega), IntsAt_own h2 (by unfold maxLen; omega)⟩
theorem PinnedO.below {w w' : World} {B : Nat} {v : Value} {p : Pin} (h : PinnedO w B v p) (hb : Below w.heap.size w w') : PinnedO w' B v p := by
  obtain ⟨u1, u2, rfl, h1, h2, h3⟩ := h
  exact ⟨u1, u2, rfl, own_below h1 hb, own_below h2 hb, h3⟩
set_option maxHeartbeats 1600000 in
theorem toPinned_s (v : Value) (p : Pin) (w : World) (h : PinnedAt w v p) (hn : p.g.bars.length ≤ 1048576) (hn2 : p.ground.length ≤ 1048576) :
    Calls Try.prog 43 #[v] w fun e w' => ∃ b c b2 c2, e = .returned (.agg #[.int .i64 p.g.n, .slice (some ⟨b, 0, none⟩) p.g.bars.length c, .slice (some ⟨b2, 0, none⟩) p.ground.length c2]) ∧ Below w.heap.size w w' ∧
      w'.ownsRow w.heap.size 105 2 (.slice (some ⟨b, 0, none⟩) p.g.bars.length c) p.g.bars.length (pcells p.g.bars) ∧ w'.ownsRow w.heap.size 3 1 (.slice (some ⟨b2, 0, none⟩) p.ground.length c2) p.ground.length (p.ground.map (Value.int .i64)) ∧
      ((Value.slice (some ⟨b, 0, none⟩) p.g.bars.length c).ownBlock = none ∨ (Value.slice (some ⟨b, 0, none⟩) p.g.bars.length c).ownBlock ≠ (Value.slice (some ⟨b2, 0, none⟩) p.ground.length c2).ownBlock) := by
  obtain ⟨u1, u2, rfl, h, hg⟩ := h
  obtain ⟨⟨n, l⟩, gr⟩ := p
  simp only at h hg hn hn2 ⊢
  have Hh := h
  have Hg := hg
  obtain ⟨hm_l, ao_l, cap_l, rfl, hc_l⟩ := h; unfold maxLen at hm_l
  obtain ⟨hm_gr, ao_gr, cap_gr, rfl, hc_gr⟩ := hg; unfold maxLen at hm_gr
  have HG : GraphAt w (.agg #[.int .i64 n, .slice ao_l l.length cap_l]) ⟨n, l⟩ := ⟨_, rfl, Hh⟩
  replace HG := Lib.hid HG
  replace Hh := Lib.hid Hh
  replace Hg := Lib.hid Hg
  clear hc_l hc_gr
  go_enter Try.func43, Try.ntmps43
  go_wp2_with fail
  refine (toGraph_s _ _ _ (HG.out.below (by repeat (first | exact Below.refl _ _ | assumption | refine Below.alloc ?_ (by first | omega | (simp; done) | (simp; omega)) _ | refine Below.setCell ?_ (by first | omega | (simp; done) | (simp; omega)) _ | refine Below.drew ?_ | refine below_dN ?_ _ | refine Below.trans ?_ (Below.mono (by with_reducible assumption) (by first | omega | (simp; done) | (simp; omega)))))) hn).mono ?_
  rintro e w1 ⟨gB, cB, rfl, hb1, o1⟩
  obtain ⟨hb1c, hb1f⟩ := bcell hb1; have hb1z0 : w.heap.size < w1.heap.size := (by have := hb1.size; (try simp at this); omega); have hb1z1 : w.heap.size + 1 < w1.heap.size := (by have := hb1.size; (try simp at this); omega); have hb1z2 : w.heap.size + 1 + 1 < w1.heap.size := (by have := hb1.size; (try simp at this); omega)
  obtain ⟨B_o1, hB_o1, o1⟩ : ∃ B, w.heap.size + 2 < B ∧ w1.ownsRow B _ _ _ _ _ := ⟨_, by first | omega | (simp; done) | (simp; omega), o1⟩
  have b1 : Below w.heap.size w w1 := (by repeat (first | exact Below.refl _ _ | assumption | refine Below.alloc ?_ (by first | omega | (simp; done) | (simp; omega)) _ | refine Below.setCell ?_ (by first | omega | (simp; done) | (simp; omega)) _ | refine Below.drew ?_ | refine below_dN ?_ _ | refine Below.trans ?_ (Below.mono (by with_reducible assumption) (by first | omega | (simp; done) | (simp; omega)))))
  simp only at o1
  go_wp2_with fail
  have Ho := Lib.hid o1
  refine (toIntS_c _ _ _ (Hg.out.below (by repeat (first | exact Below.refl _ _ | assumption | refine Below.alloc ?_ (by first | omega | (simp; done) | (simp; omega)) _ | refine Below.setCell ?_ (by first | omega | (simp; done) | (simp; omega)) _ | refine Below.drew ?_ | refine below_dN ?_ _ | refine Below.trans ?_ (Below.mono (by with_reducible assumption) (by first | omega | (simp; done) | (simp; omega)))))) hn2).mono ?_
  rintro e w2 ⟨gG, cG, rfl, hb2, o2⟩
  have o1b : World.ownsRow ((w1.setCell ⟨w.heap.size + 1 + 1, 0, none⟩ (.int .i64 n)).setCell ⟨w.heap.size + 1 + 1, 1, none⟩ (.slice (some ⟨gB, 0, none⟩) l.length cB)) B_o1 105 2 (.slice (some ⟨gB, 0, none⟩) l.length cB) l.length (pcells l) := by
    repeat (first | exact Ho.out | refine own_setLow ?_ (by first | omega | (simp; done) | (simp; omega)) _)
  have hsep := own_sep o1b o2 (Nat.le_refl _)
  have o1c := own_below o1b hb2
  obtain ⟨hb2c, hb2f⟩ := bcell hb2; have hb2z0 : w.heap.size < w2.heap.size := (by have := hb2.size; (try simp at this); omega); have hb2z1 : w.heap.size + 1 < w2.heap.size := (by have := hb2.size; (try simp at this); omega); have hb2z2 : w.heap.size + 1 + 1 < w2.heap.size := (by have := hb2.size; (try simp at this); omega)
  obtain ⟨B_o2, hB_o2, o2⟩ : ∃ B, w.heap.size + 2 < B ∧ w2.ownsRow B _ _ _ _ _ := ⟨_, by first | omega | (simp; done) | (simp; omega), o2⟩
  clear o1 o1b
  go_wp2_with fail
  exact bodyPost_ret (v := .agg #[.int .i64 n, .slice (some ⟨gB, 0, none⟩) l.length cB, .slice (some ⟨gG, 0, none⟩) gr.length cG]) (by simp only [results, Try.results43]; go_simp) rfl
    ⟨_, _, _, _, rfl, (by repeat (first | exact Below.refl _ _ | assumption | refine Below.alloc ?_ (by first | omega | (simp; done) | (simp; omega)) _ | refine Below.setCell ?_ (by first | omega | (simp; done) | (simp; omega)) _ | refine Below.drew ?_ | refine below_dN ?_ _ | refine Below.trans ?_ (Below.mono (by with_reducible assumption) (by first | omega | (simp; done) | (simp; omega))))), (own_mono (base := B_o1) (by repeat (first | exact o1c | refine own_setLow ?_ (by first | omega | (simp; done) | (simp; omega)) _)) (by omega)), (own_mono (base := B_o2) (by repeat (first | exact o2 | refine own_setLow ?_ (by first | omega | (simp; done) | (simp; omega)) _)) (by omega)), hsep⟩
theorem toPinned_c (v : Value) (p : Pin) (w : World) (h : PinnedAt w v p) (hn : p.g.bars.length ≤ 1048576) (hn2 : p.ground.length ≤ 1048576) :
    Calls Try.prog 43 #[v] w fun e w' => ∃ v', e = .returned v' ∧ Below w.heap.size w w' ∧ PinnedO w' w.heap.size v' p :=
  (toPinned_s v p w h hn hn2).mono (fun e w' ⟨b, c, b2, c2, he, hb, ho, ho2, hs⟩ => ⟨_, he, hb, _, _, rfl, ho, ho2, hs⟩)
end Go.Proofs.Ytlmlfbjcpajinaa
