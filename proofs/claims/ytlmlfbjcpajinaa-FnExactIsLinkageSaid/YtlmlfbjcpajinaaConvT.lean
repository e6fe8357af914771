/- The laws' sizes and equalities of the struct types. -/
import Derived.Test.YtlmlfbjcpajinaaConvS
namespace Go.Proofs.Ytlmlfbjcpajinaa
open Go.RowKit
set_option linter.unusedSimpArgs false
set_option linter.unusedVariables false

def Grf.sz (g : Grf) : Nat := g.bars.length
def Pin.sz (p : Pin) : Nat := p.g.bars.length + p.ground.length
def Rse.sz (r : Rse) : Nat := r.bars.length
theorem szGraph_c (v : Value) (g : Grf) (left : Int) (w : World) (h : GraphAt w v g) (h0 : 0 ≤ left) (h1 : left ≤ 1048576) :
    Calls Try.prog 28 #[v, .int .i64 left] w fun e w' => e = .returned (.int .i64 (if left < (g.sz : Int) then -1 else left - (g.sz : Int))) ∧ Below w.heap.size w w' := by
  obtain ⟨u, rfl, h⟩ := h
  obtain ⟨n, l⟩ := g
  simp only at h
  generalize hr : (if left < ((Grf.sz ⟨n, l⟩ : Nat) : Int) then (-1 : Int) else left - ((Grf.sz ⟨n, l⟩ : Nat) : Int)) = r
  replace hr := Lib.hid hr
  have Hu := Lib.hid h
  clear h
  by_cases hlt : left < l.length
  · have H := Lib.hid hlt
    clear hlt
    go_enter Try.func28, Try.ntmps28
    go_wp2_with (go_at_call 76; refine (szBarS_c _ _ _ _ (Hu.out.below (by repeat (first | exact Below.refl _ _ | assumption | refine Below.alloc ?_ (by first | omega | (simp; done) | (simp; omega)) _ | refine Below.setCell ?_ (by first | omega | (simp; done) | (simp; omega)) _ | refine Below.drew ?_ | refine below_dN ?_ _ | refine Below.trans ?_ (Below.mono (by with_reducible assumption) (by first | omega | (simp; done) | (simp; omega)))))) h0 h1).mono ?_; rintro e w2 ⟨he, rfl⟩; rw [if_pos H.out] at he; subst he)
    go_ret
    exact ⟨ret_int (by rw [← hr.out, if_pos (show left < ((Grf.sz ⟨n, l⟩ : Nat) : Int) from H.out)]), (by repeat (first | exact Below.refl _ _ | assumption | refine Below.alloc ?_ (by first | omega | (simp; done) | (simp; omega)) _ | refine Below.setCell ?_ (by first | omega | (simp; done) | (simp; omega)) _ | refine Below.drew ?_ | refine below_dN ?_ _ | refine Below.trans ?_ (Below.mono (by with_reducible assumption) (by first | omega | (simp; done) | (simp; omega)))))⟩
  · have H := Lib.hid hlt
    have hd : decide (left - (l.length : Int) < 0) = false := by simp; omega
    clear hlt
    go_enter Try.func28, Try.ntmps28
    go_wp2_with (go_at_call 76; refine (szBarS_c _ _ _ _ (Hu.out.below (by repeat (first | exact Below.refl _ _ | assumption | refine Below.alloc ?_ (by first | omega | (simp; done) | (simp; omega)) _ | refine Below.setCell ?_ (by first | omega | (simp; done) | (simp; omega)) _ | refine Below.drew ?_ | refine below_dN ?_ _ | refine Below.trans ?_ (Below.mono (by with_reducible assumption) (by first | omega | (simp; done) | (simp; omega)))))) h0 h1).mono ?_; rintro e w2 ⟨he, rfl⟩; rw [if_neg H.out] at he; subst he)
    go_ret
    exact ⟨ret_int (by rw [← hr.out, if_neg (show ¬ left < ((Grf.sz ⟨n, l⟩ : Nat) : Int) from by have := H.out; simp only [Grf.sz]; omega)]; rfl), (by repeat (first | exact Below.refl _ _ | assumption | refine Below.alloc ?_ (by first | omega | (simp; done) | (simp; omega)) _ | refine Below.setCell ?_ (by first | omega | (simp; done) | (simp; omega)) _ | refine Below.drew ?_ | refine below_dN ?_ _ | refine Below.trans ?_ (Below.mono (by with_reducible assumption) (by first | omega | (simp; done) | (simp; omega)))))⟩
theorem eqGraph_c (v1 v2 : Value) (g : Grf) (w : World) (h1 : GraphAt w v1 g) (h2 : GraphAt w v2 g) :
    Calls Try.prog 32 #[v1, v2] w fun e w' => e = .returned (.bool true) ∧ Below w.heap.size w w' := by
  obtain ⟨u1, rfl, h1⟩ := h1
  obtain ⟨u2, rfl, h2⟩ := h2
  obtain ⟨n, l⟩ := g
  simp only at h1 h2 ⊢
  have H1 := Lib.hid h1
  have H2 := Lib.hid h2
  clear h1 h2
  have hne : (n != n) = false := by simp
  go_enter Try.func32, Try.ntmps32
  go_wp2_with (go_at_call 80; refine (eqBarS_c _ _ _ _ _ (H1.out.below (by repeat (first | exact Below.refl _ _ | assumption | refine Below.alloc ?_ (by first | omega | (simp; done) | (simp; omega)) _ | refine Below.setCell ?_ (by first | omega | (simp; done) | (simp; omega)) _ | refine Below.drew ?_ | refine below_dN ?_ _ | refine Below.trans ?_ (Below.mono (by with_reducible assumption) (by first | omega | (simp; done) | (simp; omega)))))) (H2.out.below (by repeat (first | exact Below.refl _ _ | assumption | refine Below.alloc ?_ (by first | omega | (simp; done) | (simp; omega)) _ | refine Below.setCell ?_ (by first | omega | (simp; done) | (simp; omega)) _ | refine Below.drew ?_ | refine below_dN ?_ _ | refine Below.trans ?_ (Below.mono (by with_reducible assumption) (by first | omega | (simp; done) | (simp; omega))))))).mono ?_; rintro e w2 ⟨he, hb1⟩; rw [beq_self_eq_true] at he; subst he)
  go_ret
  exact ⟨rfl, (by repeat (first | exact Below.refl _ _ | assumption | refine Below.alloc ?_ (by first | omega | (simp; done) | (simp; omega)) _ | refine Below.setCell ?_ (by first | omega | (simp; done) | (simp; omega)) _ | refine Below.drew ?_ | refine below_dN ?_ _ | refine Below.trans ?_ (Below.mono (by with_reducible assumption) (by first | omega | (simp; done) | (simp; omega)))))⟩
theorem szRaise_c (v : Value) (g : Rse) (left : Int) (w : World) (h : RaiseAt w v g) (h0 : 0 ≤ left) (h1 : left ≤ 1048576) :
    Calls Try.prog 46 #[v, .int .i64 left] w fun e w' => e = .returned (.int .i64 (if left < (g.sz : Int) then -1 else left - (g.sz : Int))) ∧ Below w.heap.size w w' := by
  obtain ⟨u, rfl, h⟩ := h
  obtain ⟨n, l⟩ := g
  simp only at h
  generalize hr : (if left < ((Rse.sz ⟨n, l⟩ : Nat) : Int) then (-1 : Int) else left - ((Rse.sz ⟨n, l⟩ : Nat) : Int)) = r
  replace hr := Lib.hid hr
  have Hu := Lib.hid h
  clear h
  by_cases hlt : left < l.length
  · have H := Lib.hid hlt
    clear hlt
    go_enter Try.func46, Try.ntmps46
    go_wp2_with (go_at_call 87; refine (szIntS_c _ _ _ _ (Hu.out.below (by repeat (first | exact Below.refl _ _ | assumption | refine Below.alloc ?_ (by first | omega | (simp; done) | (simp; omega)) _ | refine Below.setCell ?_ (by first | omega | (simp; done) | (simp; omega)) _ | refine Below.drew ?_ | refine below_dN ?_ _ | refine Below.trans ?_ (Below.mono (by with_reducible assumption) (by first | omega | (simp; done) | (simp; omega)))))) h0 h1).mono ?_; rintro e w2 ⟨he, rfl⟩; rw [if_pos H.out] at he; subst he)
    go_ret
    exact ⟨ret_int (by rw [← hr.out, if_pos (show left < ((Rse.sz ⟨n, l⟩ : Nat) : Int) from H.out)]), (by repeat (first | exact Below.refl _ _ | assumption | refine Below.alloc ?_ (by first | omega | (simp; done) | (simp; omega)) _ | refine Below.setCell ?_ (by first | omega | (simp; done) | (simp; omega)) _ | refine Below.drew ?_ | refine below_dN ?_ _ | refine Below.trans ?_ (Below.mono (by with_reducible assumption) (by first | omega | (simp; done) | (simp; omega)))))⟩
  · have H := Lib.hid hlt
    have hd : decide (left - (l.length : Int) < 0) = false := by simp; omega
    clear hlt
    go_enter Try.func46, Try.ntmps46
    go_wp2_with (go_at_call 87; refine (szIntS_c _ _ _ _ (Hu.out.below (by repeat (first | exact Below.refl _ _ | assumption | refine Below.alloc ?_ (by first | omega | (simp; done) | (simp; omega)) _ | refine Below.setCell ?_ (by first | omega | (simp; done) | (simp; omega)) _ | refine Below.drew ?_ | refine below_dN ?_ _ | refine Below.trans ?_ (Below.mono (by with_reducible assumption) (by first | omega | (simp; done) | (simp; omega)))))) h0 h1).mono ?_; rintro e w2 ⟨he, rfl⟩; rw [if_neg H.out] at he; subst he)
    go_ret
    exact ⟨ret_int (by rw [← hr.out, if_neg (show ¬ left < ((Rse.sz ⟨n, l⟩ : Nat) : Int) from by have := H.out; simp only [Rse.sz]; omega)]; rfl), (by repeat (first | exact Below.refl _ _ | assumption | refine Below.alloc ?_ (by first | omega | (simp; done) | (simp; omega)) _ | refine Below.setCell ?_ (by first | omega | (simp; done) | (simp; omega)) _ | refine Below.drew ?_ | refine below_dN ?_ _ | refine Below.trans ?_ (Below.mono (by with_reducible assumption) (by first | omega | (simp; done) | (simp; omega)))))⟩
theorem eqRaise_c (v1 v2 : Value) (g : Rse) (w : World) (h1 : RaiseAt w v1 g) (h2 : RaiseAt w v2 g) :
    Calls Try.prog 50 #[v1, v2] w fun e w' => e = .returned (.bool true) ∧ Below w.heap.size w w' := by
  obtain ⟨u1, rfl, h1⟩ := h1
  obtain ⟨u2, rfl, h2⟩ := h2
  obtain ⟨n, l⟩ := g
  simp only at h1 h2 ⊢
  have H1 := Lib.hid h1
  have H2 := Lib.hid h2
  clear h1 h2
  have hne : (n != n) = false := by simp
  go_enter Try.func50, Try.ntmps50
  go_wp2_with (go_at_call 18; refine (eqIntS_c _ _ _ _ _ (H1.out.below (by repeat (first | exact Below.refl _ _ | assumption | refine Below.alloc ?_ (by first | omega | (simp; done) | (simp; omega)) _ | refine Below.setCell ?_ (by first | omega | (simp; done) | (simp; omega)) _ | refine Below.drew ?_ | refine below_dN ?_ _ | refine Below.trans ?_ (Below.mono (by with_reducible assumption) (by first | omega | (simp; done) | (simp; omega)))))) (H2.out.below (by repeat (first | exact Below.refl _ _ | assumption | refine Below.alloc ?_ (by first | omega | (simp; done) | (simp; omega)) _ | refine Below.setCell ?_ (by first | omega | (simp; done) | (simp; omega)) _ | refine Below.drew ?_ | refine below_dN ?_ _ | refine Below.trans ?_ (Below.mono (by with_reducible assumption) (by first | omega | (simp; done) | (simp; omega))))))).mono ?_; rintro e w2 ⟨he, hb1⟩; rw [beq_self_eq_true] at he; subst he)
  go_ret
  exact ⟨rfl, (by repeat (first | exact Below.refl _ _ | assumption | refine Below.alloc ?_ (by first | omega | (simp; done) | (simp; omega)) _ | refine Below.setCell ?_ (by first | omega | (simp; done) | (simp; omega)) _ | refine Below.drew ?_ | refine below_dN ?_ _ | refine Below.trans ?_ (Below.mono (by with_reducible assumption) (by first | omega | (simp; done) | (simp; omega)))))⟩
theorem szPinned_c (v : Value) (p : Pin) (left : Int) (w : World) (h : PinnedAt w v p) (h0 : 0 ≤ left) (h1 : left ≤ 1048576) :
    Calls Try.prog 41 #[v, .int .i64 left] w fun e w' => e = .returned (.int .i64 (if left < (p.sz : Int) then -1 else left - (p.sz : Int))) ∧ Below w.heap.size w w' := by
  obtain ⟨u1, u2, rfl, h, hg⟩ := h
  obtain ⟨⟨n, l⟩, gr⟩ := p
  simp only at h hg
  generalize hr : (if left < ((Pin.sz ⟨⟨n, l⟩, gr⟩ : Nat) : Int) then (-1 : Int) else left - ((Pin.sz ⟨⟨n, l⟩, gr⟩ : Nat) : Int)) = r
  replace hr := Lib.hid hr
  have HG : GraphAt w (.agg #[.int .i64 n, u1]) ⟨n, l⟩ := ⟨_, rfl, h⟩
  replace HG := Lib.hid HG
  have Hg := Lib.hid hg
  clear h hg
  by_cases hlt : left < l.length
  · have H := Lib.hid hlt
    clear hlt
    go_enter Try.func41, Try.ntmps41
    go_wp2_with (go_at_call 28; refine (szGraph_c _ _ _ _ (HG.out.below (by repeat (first | exact Below.refl _ _ | assumption | refine Below.alloc ?_ (by first | omega | (simp; done) | (simp; omega)) _ | refine Below.setCell ?_ (by first | omega | (simp; done) | (simp; omega)) _ | refine Below.drew ?_ | refine below_dN ?_ _ | refine Below.trans ?_ (Below.mono (by with_reducible assumption) (by first | omega | (simp; done) | (simp; omega)))))) h0 h1).mono ?_; rintro e w2 ⟨he, hb2⟩; rw [show ((⟨n, l⟩ : Grf).sz : Int) = (l.length : Int) from rfl, if_pos H.out] at he; subst he; obtain ⟨hb2c, hb2f⟩ := bcell hb2; have hb2z0 : w.heap.size < w2.heap.size := (by have := hb2.size; (try simp at this); omega))
    go_ret
    exact ⟨ret_int (by rw [← hr.out, if_pos (show left < ((Pin.sz ⟨⟨n, l⟩, gr⟩ : Nat) : Int) from by have := H.out; simp only [Pin.sz]; omega)]), (by repeat (first | exact Below.refl _ _ | assumption | refine Below.alloc ?_ (by first | omega | (simp; done) | (simp; omega)) _ | refine Below.setCell ?_ (by first | omega | (simp; done) | (simp; omega)) _ | refine Below.drew ?_ | refine below_dN ?_ _ | refine Below.trans ?_ (Below.mono (by with_reducible assumption) (by first | omega | (simp; done) | (simp; omega)))))⟩
  · have H := Lib.hid hlt
    have hd : decide (left - (l.length : Int) < 0) = false := by simp; omega
    have hl0 : (0 : Int) ≤ left - l.length := by omega
    have hl1 : left - l.length ≤ (1048576 : Int) := by omega
    by_cases hlt2 : left - l.length < gr.length
    · have H2 := Lib.hid hlt2
      have hs := Lib.hid (show left < ((l.length + gr.length : Nat) : Int) by omega)
      clear hlt hlt2
      go_enter Try.func41, Try.ntmps41
      go_wp2_with (first | (go_at_call 28; refine (szGraph_c _ _ _ _ (HG.out.below (by repeat (first | exact Below.refl _ _ | assumption | refine Below.alloc ?_ (by first | omega | (simp; done) | (simp; omega)) _ | refine Below.setCell ?_ (by first | omega | (simp; done) | (simp; omega)) _ | refine Below.drew ?_ | refine below_dN ?_ _ | refine Below.trans ?_ (Below.mono (by with_reducible assumption) (by first | omega | (simp; done) | (simp; omega)))))) h0 h1).mono ?_; rintro e w2 ⟨he, hb2⟩; rw [show ((⟨n, l⟩ : Grf).sz : Int) = (l.length : Int) from rfl, if_neg H.out] at he; subst he; obtain ⟨hb2c, hb2f⟩ := bcell hb2; have hb2z0 : w.heap.size < w2.heap.size := (by have := hb2.size; (try simp at this); omega)) | (go_at_call 87; refine (szIntS_c _ _ _ _ (Hg.out.below (by repeat (first | exact Below.refl _ _ | assumption | refine Below.alloc ?_ (by first | omega | (simp; done) | (simp; omega)) _ | refine Below.setCell ?_ (by first | omega | (simp; done) | (simp; omega)) _ | refine Below.drew ?_ | refine below_dN ?_ _ | refine Below.trans ?_ (Below.mono (by with_reducible assumption) (by first | omega | (simp; done) | (simp; omega)))))) hl0 hl1).mono ?_; rintro e w3 ⟨he, rfl⟩; rw [if_pos H2.out] at he; subst he))
      go_ret
      exact ⟨ret_int (by rw [← hr.out, if_pos (show left < ((Pin.sz ⟨⟨n, l⟩, gr⟩ : Nat) : Int) from hs.out)]), (by repeat (first | exact Below.refl _ _ | assumption | refine Below.alloc ?_ (by first | omega | (simp; done) | (simp; omega)) _ | refine Below.setCell ?_ (by first | omega | (simp; done) | (simp; omega)) _ | refine Below.drew ?_ | refine below_dN ?_ _ | refine Below.trans ?_ (Below.mono (by with_reducible assumption) (by first | omega | (simp; done) | (simp; omega)))))⟩
    · have H2 := Lib.hid hlt2
      have hs := Lib.hid (show ¬ left < ((l.length + gr.length : Nat) : Int) by omega)
      have hd2 : decide (left - (l.length : Int) - (gr.length : Int) < 0) = false := by simp; omega
      clear hlt hlt2
      go_enter Try.func41, Try.ntmps41
      go_wp2_with (first | (go_at_call 28; refine (szGraph_c _ _ _ _ (HG.out.below (by repeat (first | exact Below.refl _ _ | assumption | refine Below.alloc ?_ (by first | omega | (simp; done) | (simp; omega)) _ | refine Below.setCell ?_ (by first | omega | (simp; done) | (simp; omega)) _ | refine Below.drew ?_ | refine below_dN ?_ _ | refine Below.trans ?_ (Below.mono (by with_reducible assumption) (by first | omega | (simp; done) | (simp; omega)))))) h0 h1).mono ?_; rintro e w2 ⟨he, hb2⟩; rw [show ((⟨n, l⟩ : Grf).sz : Int) = (l.length : Int) from rfl, if_neg H.out] at he; subst he; obtain ⟨hb2c, hb2f⟩ := bcell hb2; have hb2z0 : w.heap.size < w2.heap.size := (by have := hb2.size; (try simp at this); omega)) | (go_at_call 87; refine (szIntS_c _ _ _ _ (Hg.out.below (by repeat (first | exact Below.refl _ _ | assumption | refine Below.alloc ?_ (by first | omega | (simp; done) | (simp; omega)) _ | refine Below.setCell ?_ (by first | omega | (simp; done) | (simp; omega)) _ | refine Below.drew ?_ | refine below_dN ?_ _ | refine Below.trans ?_ (Below.mono (by with_reducible assumption) (by first | omega | (simp; done) | (simp; omega)))))) hl0 hl1).mono ?_; rintro e w3 ⟨he, rfl⟩; rw [if_neg (by have := H2.out; omega)] at he; subst he))
      go_ret
      exact ⟨ret_int (by rw [← hr.out, if_neg (show ¬ left < ((Pin.sz ⟨⟨n, l⟩, gr⟩ : Nat) : Int) from by have := hs.out; simp only [Pin.sz]; omega)]; simp only [Pin.sz]; omega), (by repeat (first | exact Below.refl _ _ | assumption | refine Below.alloc ?_ (by first | omega | (simp; done) | (simp; omega)) _ | refine Below.setCell ?_ (by first | omega | (simp; done) | (simp; omega)) _ | refine Below.drew ?_ | refine below_dN ?_ _ | refine Below.trans ?_ (Below.mono (by with_reducible assumption) (by first | omega | (simp; done) | (simp; omega)))))⟩
theorem eqPinned_c (v1 v2 : Value) (p : Pin) (w : World) (h1 : PinnedAt w v1 p) (h2 : PinnedAt w v2 p) :
    Calls Try.prog 45 #[v1, v2] w fun e w' => e = .returned (.bool true) ∧ Below w.heap.size w w' := by
  obtain ⟨a1, a2, rfl, h1, k1⟩ := h1
  obtain ⟨b1, b2, rfl, h2, k2⟩ := h2
  obtain ⟨⟨n, l⟩, gr⟩ := p
  simp only at h1 h2 k1 k2 ⊢
  have G1 : GraphAt w (.agg #[.int .i64 n, a1]) ⟨n, l⟩ := ⟨_, rfl, h1⟩
  have G2 : GraphAt w (.agg #[.int .i64 n, b1]) ⟨n, l⟩ := ⟨_, rfl, h2⟩
  replace G1 := Lib.hid G1
  replace G2 := Lib.hid G2
  replace k1 := Lib.hid k1
  replace k2 := Lib.hid k2
  clear h1 h2
  go_enter Try.func45, Try.ntmps45
  go_wp2_with fail
  refine (eqGraph_c _ _ _ _ (G1.out.below (by repeat (first | exact Below.refl _ _ | assumption | refine Below.alloc ?_ (by first | omega | (simp; done) | (simp; omega)) _ | refine Below.setCell ?_ (by first | omega | (simp; done) | (simp; omega)) _ | refine Below.drew ?_ | refine below_dN ?_ _ | refine Below.trans ?_ (Below.mono (by with_reducible assumption) (by first | omega | (simp; done) | (simp; omega)))))) (G2.out.below (by repeat (first | exact Below.refl _ _ | assumption | refine Below.alloc ?_ (by first | omega | (simp; done) | (simp; omega)) _ | refine Below.setCell ?_ (by first | omega | (simp; done) | (simp; omega)) _ | refine Below.drew ?_ | refine below_dN ?_ _ | refine Below.trans ?_ (Below.mono (by with_reducible assumption) (by first | omega | (simp; done) | (simp; omega))))))).mono ?_
  rintro e w2 ⟨rfl, hb2⟩
  obtain ⟨hb2c, hb2f⟩ := bcell hb2; have hb2z0 : w.heap.size < w2.heap.size := (by have := hb2.size; (try simp at this); omega); have hb2z1 : w.heap.size + 1 < w2.heap.size := (by have := hb2.size; (try simp at this); omega)
  go_wp2_with (go_at_call 18; refine (eqIntS_c _ _ _ _ _ (k1.out.below (by repeat (first | exact Below.refl _ _ | assumption | refine Below.alloc ?_ (by first | omega | (simp; done) | (simp; omega)) _ | refine Below.setCell ?_ (by first | omega | (simp; done) | (simp; omega)) _ | refine Below.drew ?_ | refine below_dN ?_ _ | refine Below.trans ?_ (Below.mono (by with_reducible assumption) (by first | omega | (simp; done) | (simp; omega)))))) (k2.out.below (by repeat (first | exact Below.refl _ _ | assumption | refine Below.alloc ?_ (by first | omega | (simp; done) | (simp; omega)) _ | refine Below.setCell ?_ (by first | omega | (simp; done) | (simp; omega)) _ | refine Below.drew ?_ | refine below_dN ?_ _ | refine Below.trans ?_ (Below.mono (by with_reducible assumption) (by first | omega | (simp; done) | (simp; omega))))))).mono ?_; rintro e w3 ⟨he, hb3⟩; rw [beq_self_eq_true] at he; subst he)
  go_ret
  exact ⟨rfl, (by repeat (first | exact Below.refl _ _ | assumption | refine Below.alloc ?_ (by first | omega | (simp; done) | (simp; omega)) _ | refine Below.setCell ?_ (by first | omega | (simp; done) | (simp; omega)) _ | refine Below.drew ?_ | refine below_dN ?_ _ | refine Below.trans ?_ (Below.mono (by with_reducible assumption) (by first | omega | (simp; done) | (simp; omega)))))⟩
end Go.Proofs.Ytlmlfbjcpajinaa
