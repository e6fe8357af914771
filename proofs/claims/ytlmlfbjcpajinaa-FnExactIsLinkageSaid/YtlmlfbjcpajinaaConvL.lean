/- The laws' conversions, sizes and equalities of frameworks and linkages. -/
import Derived.Test.YtlmlfbjcpajinaaConvT
namespace Go.Proofs.Ytlmlfbjcpajinaa
open Go.RowKit
set_option linter.unusedSimpArgs false
set_option linter.unusedVariables false

def Frm.sz (f : Frm) : Nat := f.g.bars.length + f.places.length
def Lnk.sz (l : Lnk) : Nat := l.f.g.bars.length + l.f.places.length + l.ground.length
def FrameO (w : World) (B : Nat) (v : Value) (p : Frm) : Prop :=
  ∃ u1 u2, v = .agg #[.int .i64 p.g.n, u1, u2] ∧ w.ownsRow B 105 2 u1 p.g.bars.length (pcells p.g.bars) ∧ w.ownsRow B 118 2 u2 p.places.length (pcells p.places) ∧ (u1.ownBlock = none ∨ u1.ownBlock ≠ u2.ownBlock)
theorem FrameO.at {w : World} {B : Nat} {v : Value} {p : Frm} (h : FrameO w B v p) (hn : p.g.bars.length ≤ 1048576) (hn2 : p.places.length ≤ 1048576) : FrameAt w v p := by
  obtain ⟨u1, u2, rfl, h1, h2, _⟩ := h
  exact ⟨u1, u2, rfl, PairsAt_own h1 (by unfold maxLen; omega), PairsAt_own h2 (by unfold maxLen; omega)⟩
theorem FrameO.below {w w' : World} {B : Nat} {v : Value} {p : Frm} (h : FrameO w B v p) (hb : Below w.heap.size w w') : FrameO w' B v p := by
  obtain ⟨u1, u2, rfl, h1, h2, h3⟩ := h
  exact ⟨u1, u2, rfl, own_below h1 hb, own_below h2 hb, h3⟩
set_option maxHeartbeats 1600000 in
theorem toFramework_s (v : Value) (p : Frm) (w : World) (h : FrameAt w v p) (hn : p.g.bars.length ≤ 1048576) (hn2 : p.places.length ≤ 1048576) :
    Calls Try.prog 90 #[v] w fun e w' => ∃ b c b2 c2, e = .returned (.agg #[.int .i64 p.g.n, .slice (some ⟨b, 0, none⟩) p.g.bars.length c, .slice (some ⟨b2, 0, none⟩) p.places.length c2]) ∧ Below w.heap.size w w' ∧
      w'.ownsRow w.heap.size 105 2 (.slice (some ⟨b, 0, none⟩) p.g.bars.length c) p.g.bars.length (pcells p.g.bars) ∧ w'.ownsRow w.heap.size 118 2 (.slice (some ⟨b2, 0, none⟩) p.places.length c2) p.places.length (pcells p.places) ∧
      ((Value.slice (some ⟨b, 0, none⟩) p.g.bars.length c).ownBlock = none ∨ (Value.slice (some ⟨b, 0, none⟩) p.g.bars.length c).ownBlock ≠ (Value.slice (some ⟨b2, 0, none⟩) p.places.length c2).ownBlock) := by
  obtain ⟨u1, u2, rfl, h, hg⟩ := h
  obtain ⟨⟨n, l⟩, gr⟩ := p
  simp only at h hg hn hn2 ⊢
  have Hh := h
  have Hg := hg
  obtain ⟨hm_l, ao_l, cap_l, rfl, hc_l⟩ := h; unfold maxLen at hm_l
  obtain ⟨hm_gr, ao_gr, cap_gr, rfl, hc_gr⟩ := hg; unfold maxLen at hm_gr
  have HG : GraphAt w (.agg #[.int .i64 n, .slice ao_l l.length cap_l]) ⟨n, l⟩ := ⟨_, rfl, Hh⟩
  replace HG := Lib.hid HG
  replace Hh := Lib.hid Hh
  replace Hg := Lib.hid Hg
  clear hc_l hc_gr
  go_enter Try.func90, Try.ntmps90
  go_wp2_with fail
  refine (toGraph_s _ _ _ (HG.out.below (by repeat (first | exact Below.refl _ _ | assumption | refine Below.alloc ?_ (by first | omega | (simp; done) | (simp; omega)) _ | refine Below.setCell ?_ (by first | omega | (simp; done) | (simp; omega)) _ | refine Below.drew ?_ | refine below_dN ?_ _ | refine Below.trans ?_ (Below.mono (by with_reducible assumption) (by first | omega | (simp; done) | (simp; omega)))))) hn).mono ?_
  rintro e w1 ⟨gB, cB, rfl, hb1, o1⟩
  obtain ⟨hb1c, hb1f⟩ := bcell hb1; have hb1z0 : w.heap.size < w1.heap.size := (by have := hb1.size; (try simp at this); omega); have hb1z1 : w.heap.size + 1 < w1.heap.size := (by have := hb1.size; (try simp at this); omega); have hb1z2 : w.heap.size + 1 + 1 < w1.heap.size := (by have := hb1.size; (try simp at this); omega)
  obtain ⟨B_o1, hB_o1, o1⟩ : ∃ B, w.heap.size + 2 < B ∧ w1.ownsRow B _ _ _ _ _ := ⟨_, by first | omega | (simp; done) | (simp; omega), o1⟩
  have b1 : Below w.heap.size w w1 := (by repeat (first | exact Below.refl _ _ | assumption | refine Below.alloc ?_ (by first | omega | (simp; done) | (simp; omega)) _ | refine Below.setCell ?_ (by first | omega | (simp; done) | (simp; omega)) _ | refine Below.drew ?_ | refine below_dN ?_ _ | refine Below.trans ?_ (Below.mono (by with_reducible assumption) (by first | omega | (simp; done) | (simp; omega)))))
  simp only at o1
  go_wp2_with fail
  have Ho := Lib.hid o1
  refine (toPlaceS_c _ _ _ (Hg.out.below (by repeat (first | exact Below.refl _ _ | assumption | refine Below.alloc ?_ (by first | omega | (simp; done) | (simp; omega)) _ | refine Below.setCell ?_ (by first | omega | (simp; done) | (simp; omega)) _ | refine Below.drew ?_ | refine below_dN ?_ _ | refine Below.trans ?_ (Below.mono (by with_reducible assumption) (by first | omega | (simp; done) | (simp; omega)))))) hn2).mono ?_
  rintro e w2 ⟨gG, cG, rfl, hb2, o2⟩
  have o1b : World.ownsRow ((w1.setCell ⟨w.heap.size + 1 + 1, 0, none⟩ (.int .i64 n)).setCell ⟨w.heap.size + 1 + 1, 1, none⟩ (.slice (some ⟨gB, 0, none⟩) l.length cB)) B_o1 105 2 (.slice (some ⟨gB, 0, none⟩) l.length cB) l.length (pcells l) := by
    repeat (first | exact Ho.out | refine own_setLow ?_ (by first | omega | (simp; done) | (simp; omega)) _)
  have hsep := own_sep o1b o2 (Nat.le_refl _)
  have o1c := own_below o1b hb2
  obtain ⟨hb2c, hb2f⟩ := bcell hb2; have hb2z0 : w.heap.size < w2.heap.size := (by have := hb2.size; (try simp at this); omega); have hb2z1 : w.heap.size + 1 < w2.heap.size := (by have := hb2.size; (try simp at this); omega); have hb2z2 : w.heap.size + 1 + 1 < w2.heap.size := (by have := hb2.size; (try simp at this); omega)
  obtain ⟨B_o2, hB_o2, o2⟩ : ∃ B, w.heap.size + 2 < B ∧ w2.ownsRow B _ _ _ _ _ := ⟨_, by first | omega | (simp; done) | (simp; omega), o2⟩
  clear o1 o1b
  go_wp2_with fail
  exact bodyPost_ret (v := .agg #[.int .i64 n, .slice (some ⟨gB, 0, none⟩) l.length cB, .slice (some ⟨gG, 0, none⟩) gr.length cG]) (by simp only [results, Try.results90]; go_simp) rfl
    ⟨_, _, _, _, rfl, (by repeat (first | exact Below.refl _ _ | assumption | refine Below.alloc ?_ (by first | omega | (simp; done) | (simp; omega)) _ | refine Below.setCell ?_ (by first | omega | (simp; done) | (simp; omega)) _ | refine Below.drew ?_ | refine below_dN ?_ _ | refine Below.trans ?_ (Below.mono (by with_reducible assumption) (by first | omega | (simp; done) | (simp; omega))))), (own_mono (base := B_o1) (by repeat (first | exact o1c | refine own_setLow ?_ (by first | omega | (simp; done) | (simp; omega)) _)) (by omega)), (own_mono (base := B_o2) (by repeat (first | exact o2 | refine own_setLow ?_ (by first | omega | (simp; done) | (simp; omega)) _)) (by omega)), hsep⟩
theorem toFramework_c (v : Value) (p : Frm) (w : World) (h : FrameAt w v p) (hn : p.g.bars.length ≤ 1048576) (hn2 : p.places.length ≤ 1048576) :
    Calls Try.prog 90 #[v] w fun e w' => ∃ v', e = .returned v' ∧ Below w.heap.size w w' ∧ FrameO w' w.heap.size v' p :=
  (toFramework_s v p w h hn hn2).mono (fun e w' ⟨b, c, b2, c2, he, hb, ho, ho2, hs⟩ => ⟨_, he, hb, _, _, rfl, ho, ho2, hs⟩)
theorem szFramework_c (v : Value) (p : Frm) (left : Int) (w : World) (h : FrameAt w v p) (h0 : 0 ≤ left) (h1 : left ≤ 1048576) :
    Calls Try.prog 86 #[v, .int .i64 left] w fun e w' => e = .returned (.int .i64 (if left < (p.sz : Int) then -1 else left - (p.sz : Int))) ∧ Below w.heap.size w w' := by
  obtain ⟨u1, u2, rfl, h, hg⟩ := h
  obtain ⟨⟨n, l⟩, gr⟩ := p
  simp only at h hg
  generalize hr : (if left < ((Frm.sz ⟨⟨n, l⟩, gr⟩ : Nat) : Int) then (-1 : Int) else left - ((Frm.sz ⟨⟨n, l⟩, gr⟩ : Nat) : Int)) = r
  replace hr := Lib.hid hr
  have HG : GraphAt w (.agg #[.int .i64 n, u1]) ⟨n, l⟩ := ⟨_, rfl, h⟩
  replace HG := Lib.hid HG
  have Hg := Lib.hid hg
  clear h hg
  by_cases hlt : left < l.length
  · have H := Lib.hid hlt
    clear hlt
    go_enter Try.func86, Try.ntmps86
    go_wp2_with (go_at_call 28; refine (szGraph_c _ _ _ _ (HG.out.below (by repeat (first | exact Below.refl _ _ | assumption | refine Below.alloc ?_ (by first | omega | (simp; done) | (simp; omega)) _ | refine Below.setCell ?_ (by first | omega | (simp; done) | (simp; omega)) _ | refine Below.drew ?_ | refine below_dN ?_ _ | refine Below.trans ?_ (Below.mono (by with_reducible assumption) (by first | omega | (simp; done) | (simp; omega)))))) h0 h1).mono ?_; rintro e w2 ⟨he, hb2⟩; rw [show ((⟨n, l⟩ : Grf).sz : Int) = (l.length : Int) from rfl, if_pos H.out] at he; subst he; obtain ⟨hb2c, hb2f⟩ := bcell hb2; have hb2z0 : w.heap.size < w2.heap.size := (by have := hb2.size; (try simp at this); omega))
    go_ret
    exact ⟨ret_int (by rw [← hr.out, if_pos (show left < ((Frm.sz ⟨⟨n, l⟩, gr⟩ : Nat) : Int) from by have := H.out; simp only [Frm.sz]; omega)]), (by repeat (first | exact Below.refl _ _ | assumption | refine Below.alloc ?_ (by first | omega | (simp; done) | (simp; omega)) _ | refine Below.setCell ?_ (by first | omega | (simp; done) | (simp; omega)) _ | refine Below.drew ?_ | refine below_dN ?_ _ | refine Below.trans ?_ (Below.mono (by with_reducible assumption) (by first | omega | (simp; done) | (simp; omega)))))⟩
  · have H := Lib.hid hlt
    have hd : decide (left - (l.length : Int) < 0) = false := by simp; omega
    have hl0 : (0 : Int) ≤ left - l.length := by omega
    have hl1 : left - l.length ≤ (1048576 : Int) := by omega
    by_cases hlt2 : left - l.length < gr.length
    · have H2 := Lib.hid hlt2
      have hs := Lib.hid (show left < ((l.length + gr.length : Nat) : Int) by omega)
      clear hlt hlt2
      go_enter Try.func86, Try.ntmps86
      go_wp2_with (first | (go_at_call 28; refine (szGraph_c _ _ _ _ (HG.out.below (by repeat (first | exact Below.refl _ _ | assumption | refine Below.alloc ?_ (by first | omega | (simp; done) | (simp; omega)) _ | refine Below.setCell ?_ (by first | omega | (simp; done) | (simp; omega)) _ | refine Below.drew ?_ | refine below_dN ?_ _ | refine Below.trans ?_ (Below.mono (by with_reducible assumption) (by first | omega | (simp; done) | (simp; omega)))))) h0 h1).mono ?_; rintro e w2 ⟨he, hb2⟩; rw [show ((⟨n, l⟩ : Grf).sz : Int) = (l.length : Int) from rfl, if_neg H.out] at he; subst he; obtain ⟨hb2c, hb2f⟩ := bcell hb2; have hb2z0 : w.heap.size < w2.heap.size := (by have := hb2.size; (try simp at this); omega)) | (go_at_call 55; refine (szPlaceS_c _ _ _ _ (Hg.out.below (by repeat (first | exact Below.refl _ _ | assumption | refine Below.alloc ?_ (by first | omega | (simp; done) | (simp; omega)) _ | refine Below.setCell ?_ (by first | omega | (simp; done) | (simp; omega)) _ | refine Below.drew ?_ | refine below_dN ?_ _ | refine Below.trans ?_ (Below.mono (by with_reducible assumption) (by first | omega | (simp; done) | (simp; omega)))))) hl0 hl1).mono ?_; rintro e w3 ⟨he, rfl⟩; rw [if_pos H2.out] at he; subst he))
      go_ret
      exact ⟨ret_int (by rw [← hr.out, if_pos (show left < ((Frm.sz ⟨⟨n, l⟩, gr⟩ : Nat) : Int) from hs.out)]), (by repeat (first | exact Below.refl _ _ | assumption | refine Below.alloc ?_ (by first | omega | (simp; done) | (simp; omega)) _ | refine Below.setCell ?_ (by first | omega | (simp; done) | (simp; omega)) _ | refine Below.drew ?_ | refine below_dN ?_ _ | refine Below.trans ?_ (Below.mono (by with_reducible assumption) (by first | omega | (simp; done) | (simp; omega)))))⟩
    · have H2 := Lib.hid hlt2
      have hs := Lib.hid (show ¬ left < ((l.length + gr.length : Nat) : Int) by omega)
      have hd2 : decide (left - (l.length : Int) - (gr.length : Int) < 0) = false := by simp; omega
      clear hlt hlt2
      go_enter Try.func86, Try.ntmps86
      go_wp2_with (first | (go_at_call 28; refine (szGraph_c _ _ _ _ (HG.out.below (by repeat (first | exact Below.refl _ _ | assumption | refine Below.alloc ?_ (by first | omega | (simp; done) | (simp; omega)) _ | refine Below.setCell ?_ (by first | omega | (simp; done) | (simp; omega)) _ | refine Below.drew ?_ | refine below_dN ?_ _ | refine Below.trans ?_ (Below.mono (by with_reducible assumption) (by first | omega | (simp; done) | (simp; omega)))))) h0 h1).mono ?_; rintro e w2 ⟨he, hb2⟩; rw [show ((⟨n, l⟩ : Grf).sz : Int) = (l.length : Int) from rfl, if_neg H.out] at he; subst he; obtain ⟨hb2c, hb2f⟩ := bcell hb2; have hb2z0 : w.heap.size < w2.heap.size := (by have := hb2.size; (try simp at this); omega)) | (go_at_call 55; refine (szPlaceS_c _ _ _ _ (Hg.out.below (by repeat (first | exact Below.refl _ _ | assumption | refine Below.alloc ?_ (by first | omega | (simp; done) | (simp; omega)) _ | refine Below.setCell ?_ (by first | omega | (simp; done) | (simp; omega)) _ | refine Below.drew ?_ | refine below_dN ?_ _ | refine Below.trans ?_ (Below.mono (by with_reducible assumption) (by first | omega | (simp; done) | (simp; omega)))))) hl0 hl1).mono ?_; rintro e w3 ⟨he, rfl⟩; rw [if_neg (by have := H2.out; omega)] at he; subst he))
      go_ret
      exact ⟨ret_int (by rw [← hr.out, if_neg (show ¬ left < ((Frm.sz ⟨⟨n, l⟩, gr⟩ : Nat) : Int) from by have := hs.out; simp only [Frm.sz]; omega)]; simp only [Frm.sz]; omega), (by repeat (first | exact Below.refl _ _ | assumption | refine Below.alloc ?_ (by first | omega | (simp; done) | (simp; omega)) _ | refine Below.setCell ?_ (by first | omega | (simp; done) | (simp; omega)) _ | refine Below.drew ?_ | refine below_dN ?_ _ | refine Below.trans ?_ (Below.mono (by with_reducible assumption) (by first | omega | (simp; done) | (simp; omega)))))⟩
theorem eqFramework_c (v1 v2 : Value) (p : Frm) (w : World) (h1 : FrameAt w v1 p) (h2 : FrameAt w v2 p) :
    Calls Try.prog 93 #[v1, v2] w fun e w' => e = .returned (.bool true) ∧ Below w.heap.size w w' := by
  obtain ⟨a1, a2, rfl, h1, k1⟩ := h1
  obtain ⟨b1, b2, rfl, h2, k2⟩ := h2
  obtain ⟨⟨n, l⟩, gr⟩ := p
  simp only at h1 h2 k1 k2 ⊢
  have G1 : GraphAt w (.agg #[.int .i64 n, a1]) ⟨n, l⟩ := ⟨_, rfl, h1⟩
  have G2 : GraphAt w (.agg #[.int .i64 n, b1]) ⟨n, l⟩ := ⟨_, rfl, h2⟩
  replace G1 := Lib.hid G1
  replace G2 := Lib.hid G2
  replace k1 := Lib.hid k1
  replace k2 := Lib.hid k2
  clear h1 h2
  go_enter Try.func93, Try.ntmps93
  go_wp2_with fail
  refine (eqGraph_c _ _ _ _ (G1.out.below (by repeat (first | exact Below.refl _ _ | assumption | refine Below.alloc ?_ (by first | omega | (simp; done) | (simp; omega)) _ | refine Below.setCell ?_ (by first | omega | (simp; done) | (simp; omega)) _ | refine Below.drew ?_ | refine below_dN ?_ _ | refine Below.trans ?_ (Below.mono (by with_reducible assumption) (by first | omega | (simp; done) | (simp; omega)))))) (G2.out.below (by repeat (first | exact Below.refl _ _ | assumption | refine Below.alloc ?_ (by first | omega | (simp; done) | (simp; omega)) _ | refine Below.setCell ?_ (by first | omega | (simp; done) | (simp; omega)) _ | refine Below.drew ?_ | refine below_dN ?_ _ | refine Below.trans ?_ (Below.mono (by with_reducible assumption) (by first | omega | (simp; done) | (simp; omega))))))).mono ?_
  rintro e w2 ⟨rfl, hb2⟩
  obtain ⟨hb2c, hb2f⟩ := bcell hb2; have hb2z0 : w.heap.size < w2.heap.size := (by have := hb2.size; (try simp at this); omega); have hb2z1 : w.heap.size + 1 < w2.heap.size := (by have := hb2.size; (try simp at this); omega)
  go_wp2_with (go_at_call 59; refine (eqPlaceS_c _ _ _ _ _ (k1.out.below (by repeat (first | exact Below.refl _ _ | assumption | refine Below.alloc ?_ (by first | omega | (simp; done) | (simp; omega)) _ | refine Below.setCell ?_ (by first | omega | (simp; done) | (simp; omega)) _ | refine Below.drew ?_ | refine below_dN ?_ _ | refine Below.trans ?_ (Below.mono (by with_reducible assumption) (by first | omega | (simp; done) | (simp; omega)))))) (k2.out.below (by repeat (first | exact Below.refl _ _ | assumption | refine Below.alloc ?_ (by first | omega | (simp; done) | (simp; omega)) _ | refine Below.setCell ?_ (by first | omega | (simp; done) | (simp; omega)) _ | refine Below.drew ?_ | refine below_dN ?_ _ | refine Below.trans ?_ (Below.mono (by with_reducible assumption) (by first | omega | (simp; done) | (simp; omega))))))).mono ?_; rintro e w3 ⟨he, hb3⟩; rw [beq_self_eq_true] at he; subst he)
  go_ret
  exact ⟨rfl, (by repeat (first | exact Below.refl _ _ | assumption | refine Below.alloc ?_ (by first | omega | (simp; done) | (simp; omega)) _ | refine Below.setCell ?_ (by first | omega | (simp; done) | (simp; omega)) _ | refine Below.drew ?_ | refine below_dN ?_ _ | refine Below.trans ?_ (Below.mono (by with_reducible assumption) (by first | omega | (simp; done) | (simp; omega)))))⟩
theorem szLinkage_c (v : Value) (p : Lnk) (left : Int) (w : World) (h : LinkageAt w v p) (h0 : 0 ≤ left) (h1 : left ≤ 1048576) :
    Calls Try.prog 36 #[v, .int .i64 left] w fun e w' => e = .returned (.int .i64 (if left < (p.sz : Int) then -1 else left - (p.sz : Int))) ∧ Below w.heap.size w w' := by
  obtain ⟨u1, u0, u2, rfl, h, hp, hg⟩ := h
  obtain ⟨⟨⟨n, l⟩, pl⟩, gr⟩ := p
  simp only at h hp hg
  generalize hr : (if left < ((Lnk.sz ⟨⟨⟨n, l⟩, pl⟩, gr⟩ : Nat) : Int) then (-1 : Int) else left - ((Lnk.sz ⟨⟨⟨n, l⟩, pl⟩, gr⟩ : Nat) : Int)) = r
  replace hr := Lib.hid hr
  have HG : FrameAt w (.agg #[.int .i64 n, u1, u0]) ⟨⟨n, l⟩, pl⟩ := ⟨_, _, rfl, h, hp⟩
  replace HG := Lib.hid HG
  have Hg := Lib.hid hg
  clear h hp hg
  by_cases hlt : left < ((Frm.sz ⟨⟨n, l⟩, pl⟩ : Nat) : Int)
  · have H := Lib.hid hlt
    clear hlt
    go_enter Try.func36, Try.ntmps36
    go_wp2_with (go_at_call 86; refine (szFramework_c _ _ _ _ (HG.out.below (by repeat (first | exact Below.refl _ _ | assumption | refine Below.alloc ?_ (by first | omega | (simp; done) | (simp; omega)) _ | refine Below.setCell ?_ (by first | omega | (simp; done) | (simp; omega)) _ | refine Below.drew ?_ | refine below_dN ?_ _ | refine Below.trans ?_ (Below.mono (by with_reducible assumption) (by first | omega | (simp; done) | (simp; omega)))))) h0 h1).mono ?_; rintro e w2 ⟨he, hb2⟩; rw [show ((⟨⟨n, l⟩, pl⟩ : Frm).sz : Int) = ((Frm.sz ⟨⟨n, l⟩, pl⟩ : Nat) : Int) from rfl, if_pos H.out] at he; subst he; obtain ⟨hb2c, hb2f⟩ := bcell hb2; have hb2z0 : w.heap.size < w2.heap.size := (by have := hb2.size; (try simp at this); omega))
    go_ret
    exact ⟨ret_int (by rw [← hr.out, if_pos (show left < ((Lnk.sz ⟨⟨⟨n, l⟩, pl⟩, gr⟩ : Nat) : Int) from by have := H.out; simp only [Lnk.sz, Frm.sz] at *; omega)]), (by repeat (first | exact Below.refl _ _ | assumption | refine Below.alloc ?_ (by first | omega | (simp; done) | (simp; omega)) _ | refine Below.setCell ?_ (by first | omega | (simp; done) | (simp; omega)) _ | refine Below.drew ?_ | refine below_dN ?_ _ | refine Below.trans ?_ (Below.mono (by with_reducible assumption) (by first | omega | (simp; done) | (simp; omega)))))⟩
  · have H := Lib.hid hlt
    have hd : decide (left - ((Frm.sz ⟨⟨n, l⟩, pl⟩ : Nat) : Int) < 0) = false := by simp; omega
    have hl0 : (0 : Int) ≤ left - ((Frm.sz ⟨⟨n, l⟩, pl⟩ : Nat) : Int) := by omega
    have hl1 : left - ((Frm.sz ⟨⟨n, l⟩, pl⟩ : Nat) : Int) ≤ (1048576 : Int) := by omega
    by_cases hlt2 : left - ((Frm.sz ⟨⟨n, l⟩, pl⟩ : Nat) : Int) < gr.length
    · have H2 := Lib.hid hlt2
      have hs := Lib.hid (show left < ((Frm.sz ⟨⟨n, l⟩, pl⟩ + gr.length : Nat) : Int) by omega)
      clear hlt hlt2
      go_enter Try.func36, Try.ntmps36
      go_wp2_with (first | (go_at_call 86; refine (szFramework_c _ _ _ _ (HG.out.below (by repeat (first | exact Below.refl _ _ | assumption | refine Below.alloc ?_ (by first | omega | (simp; done) | (simp; omega)) _ | refine Below.setCell ?_ (by first | omega | (simp; done) | (simp; omega)) _ | refine Below.drew ?_ | refine below_dN ?_ _ | refine Below.trans ?_ (Below.mono (by with_reducible assumption) (by first | omega | (simp; done) | (simp; omega)))))) h0 h1).mono ?_; rintro e w2 ⟨he, hb2⟩; rw [show ((⟨⟨n, l⟩, pl⟩ : Frm).sz : Int) = ((Frm.sz ⟨⟨n, l⟩, pl⟩ : Nat) : Int) from rfl, if_neg H.out] at he; subst he; obtain ⟨hb2c, hb2f⟩ := bcell hb2; have hb2z0 : w.heap.size < w2.heap.size := (by have := hb2.size; (try simp at this); omega)) | (go_at_call 87; refine (szIntS_c _ _ _ _ (Hg.out.below (by repeat (first | exact Below.refl _ _ | assumption | refine Below.alloc ?_ (by first | omega | (simp; done) | (simp; omega)) _ | refine Below.setCell ?_ (by first | omega | (simp; done) | (simp; omega)) _ | refine Below.drew ?_ | refine below_dN ?_ _ | refine Below.trans ?_ (Below.mono (by with_reducible assumption) (by first | omega | (simp; done) | (simp; omega)))))) hl0 hl1).mono ?_; rintro e w3 ⟨he, rfl⟩; rw [if_pos H2.out] at he; subst he))
      go_ret
      exact ⟨ret_int (by rw [← hr.out, if_pos (show left < ((Lnk.sz ⟨⟨⟨n, l⟩, pl⟩, gr⟩ : Nat) : Int) from hs.out)]), (by repeat (first | exact Below.refl _ _ | assumption | refine Below.alloc ?_ (by first | omega | (simp; done) | (simp; omega)) _ | refine Below.setCell ?_ (by first | omega | (simp; done) | (simp; omega)) _ | refine Below.drew ?_ | refine below_dN ?_ _ | refine Below.trans ?_ (Below.mono (by with_reducible assumption) (by first | omega | (simp; done) | (simp; omega)))))⟩
    · have H2 := Lib.hid hlt2
      have hs := Lib.hid (show ¬ left < ((Frm.sz ⟨⟨n, l⟩, pl⟩ + gr.length : Nat) : Int) by omega)
      have hd2 : decide (left - ((Frm.sz ⟨⟨n, l⟩, pl⟩ : Nat) : Int) - (gr.length : Int) < 0) = false := by simp; omega
      clear hlt hlt2
      go_enter Try.func36, Try.ntmps36
      go_wp2_with (first | (go_at_call 86; refine (szFramework_c _ _ _ _ (HG.out.below (by repeat (first | exact Below.refl _ _ | assumption | refine Below.alloc ?_ (by first | omega | (simp; done) | (simp; omega)) _ | refine Below.setCell ?_ (by first | omega | (simp; done) | (simp; omega)) _ | refine Below.drew ?_ | refine below_dN ?_ _ | refine Below.trans ?_ (Below.mono (by with_reducible assumption) (by first | omega | (simp; done) | (simp; omega)))))) h0 h1).mono ?_; rintro e w2 ⟨he, hb2⟩; rw [show ((⟨⟨n, l⟩, pl⟩ : Frm).sz : Int) = ((Frm.sz ⟨⟨n, l⟩, pl⟩ : Nat) : Int) from rfl, if_neg H.out] at he; subst he; obtain ⟨hb2c, hb2f⟩ := bcell hb2; have hb2z0 : w.heap.size < w2.heap.size := (by have := hb2.size; (try simp at this); omega)) | (go_at_call 87; refine (szIntS_c _ _ _ _ (Hg.out.below (by repeat (first | exact Below.refl _ _ | assumption | refine Below.alloc ?_ (by first | omega | (simp; done) | (simp; omega)) _ | refine Below.setCell ?_ (by first | omega | (simp; done) | (simp; omega)) _ | refine Below.drew ?_ | refine below_dN ?_ _ | refine Below.trans ?_ (Below.mono (by with_reducible assumption) (by first | omega | (simp; done) | (simp; omega)))))) hl0 hl1).mono ?_; rintro e w3 ⟨he, rfl⟩; rw [if_neg (by have := H2.out; omega)] at he; subst he))
      go_ret
      exact ⟨ret_int (by rw [← hr.out, if_neg (show ¬ left < ((Lnk.sz ⟨⟨⟨n, l⟩, pl⟩, gr⟩ : Nat) : Int) from by have := hs.out; simp only [Lnk.sz, Frm.sz] at *; omega)]; simp only [Lnk.sz, Frm.sz] at *; omega), (by repeat (first | exact Below.refl _ _ | assumption | refine Below.alloc ?_ (by first | omega | (simp; done) | (simp; omega)) _ | refine Below.setCell ?_ (by first | omega | (simp; done) | (simp; omega)) _ | refine Below.drew ?_ | refine below_dN ?_ _ | refine Below.trans ?_ (Below.mono (by with_reducible assumption) (by first | omega | (simp; done) | (simp; omega)))))⟩
theorem eqLinkage_c (v1 v2 : Value) (p : Lnk) (w : World) (h1 : LinkageAt w v1 p) (h2 : LinkageAt w v2 p) :
    Calls Try.prog 40 #[v1, v2] w fun e w' => e = .returned (.bool true) ∧ Below w.heap.size w w' := by
  obtain ⟨a1, a0, a2, rfl, h1, j1, k1⟩ := h1
  obtain ⟨b1, b0, b2, rfl, h2, j2, k2⟩ := h2
  obtain ⟨⟨⟨n, l⟩, pl⟩, gr⟩ := p
  simp only at h1 h2 j1 j2 k1 k2 ⊢
  have G1 : FrameAt w (.agg #[.int .i64 n, a1, a0]) ⟨⟨n, l⟩, pl⟩ := ⟨_, _, rfl, h1, j1⟩
  have G2 : FrameAt w (.agg #[.int .i64 n, b1, b0]) ⟨⟨n, l⟩, pl⟩ := ⟨_, _, rfl, h2, j2⟩
  replace G1 := Lib.hid G1
  replace G2 := Lib.hid G2
  replace k1 := Lib.hid k1
  replace k2 := Lib.hid k2
  clear h1 h2 j1 j2
  go_enter Try.func40, Try.ntmps40
  go_wp2_with fail
  refine (eqFramework_c _ _ _ _ (G1.out.below (by repeat (first | exact Below.refl _ _ | assumption | refine Below.alloc ?_ (by first | omega | (simp; done) | (simp; omega)) _ | refine Below.setCell ?_ (by first | omega | (simp; done) | (simp; omega)) _ | refine Below.drew ?_ | refine below_dN ?_ _ | refine Below.trans ?_ (Below.mono (by with_reducible assumption) (by first | omega | (simp; done) | (simp; omega)))))) (G2.out.below (by repeat (first | exact Below.refl _ _ | assumption | refine Below.alloc ?_ (by first | omega | (simp; done) | (simp; omega)) _ | refine Below.setCell ?_ (by first | omega | (simp; done) | (simp; omega)) _ | refine Below.drew ?_ | refine below_dN ?_ _ | refine Below.trans ?_ (Below.mono (by with_reducible assumption) (by first | omega | (simp; done) | (simp; omega))))))).mono ?_
  rintro e w2 ⟨rfl, hb2⟩
  obtain ⟨hb2c, hb2f⟩ := bcell hb2; have hb2z0 : w.heap.size < w2.heap.size := (by have := hb2.size; (try simp at this); omega); have hb2z1 : w.heap.size + 1 < w2.heap.size := (by have := hb2.size; (try simp at this); omega)
  go_wp2_with (go_at_call 18; refine (eqIntS_c _ _ _ _ _ (k1.out.below (by repeat (first | exact Below.refl _ _ | assumption | refine Below.alloc ?_ (by first | omega | (simp; done) | (simp; omega)) _ | refine Below.setCell ?_ (by first | omega | (simp; done) | (simp; omega)) _ | refine Below.drew ?_ | refine below_dN ?_ _ | refine Below.trans ?_ (Below.mono (by with_reducible assumption) (by first | omega | (simp; done) | (simp; omega)))))) (k2.out.below (by repeat (first | exact Below.refl _ _ | assumption | refine Below.alloc ?_ (by first | omega | (simp; done) | (simp; omega)) _ | refine Below.setCell ?_ (by first | omega | (simp; done) | (simp; omega)) _ | refine Below.drew ?_ | refine below_dN ?_ _ | refine Below.trans ?_ (Below.mono (by with_reducible assumption) (by first | omega | (simp; done) | (simp; omega))))))).mono ?_; rintro e w3 ⟨he, hb3⟩; rw [beq_self_eq_true] at he; subst he)
  go_ret
  exact ⟨rfl, (by repeat (first | exact Below.refl _ _ | assumption | refine Below.alloc ?_ (by first | omega | (simp; done) | (simp; omega)) _ | refine Below.setCell ?_ (by first | omega | (simp; done) | (simp; omega)) _ | refine Below.drew ?_ | refine below_dN ?_ _ | refine Below.trans ?_ (Below.mono (by with_reducible assumption) (by first | omega | (simp; done) | (simp; omega)))))⟩
end Go.Proofs.Ytlmlfbjcpajinaa
