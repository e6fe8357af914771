/- From the form's reading of an argument to data. No program in sight. -/
import Derived.Test.YtlmlfbjcpajinaaOpen
import Derived.Test.YtlmlfbjcpajinaaVr
namespace Go.Proofs.Ytlmlfbjcpajinaa
open Go.ChangeShapes Go.WideShapes Go.ChangeAt Go.RowKit Go.Deep
set_option linter.unusedVariables false
set_option linter.unusedSimpArgs false
def PairsR (l : List (Int × Int)) : Prop := ∀ x ∈ l, R64 x.1 ∧ R64 x.2
def IntsR (l : List Int) : Prop := ∀ x ∈ l, R64 x
def GrfR (g : Grf) : Prop := R64 g.n ∧ PairsR g.bars
def PinR (p : Pin) : Prop := GrfR p.g ∧ IntsR p.ground
def FrmR (p : Frm) : Prop := GrfR p.g ∧ PairsR p.places
def LnkR (p : Lnk) : Prop := FrmR p.f ∧ IntsR p.ground
def RseR (p : Rse) : Prop := R64 p.p ∧ IntsR p.bars

section
variable {H : Type} {enc : TypeId × Value → H} {P : Program} {w : World} {spare : Nat → Bool} {held : Bool} {fuel : Nat} {cs : List Value} {x : DataW H × List MemPlace}
theorem trod_cap {t e : TypeId} (ht : P.underlying t = some (.slice e)) (h : DataW.trod enc P w 0 spare held fuel t cs = some x) : ∃ v, cs = [v] ∧ ∀ ao n c, v = .slice ao n c → n ≤ c := by
  rcases open_slice ht h with ⟨rfl, _⟩ | ⟨a, len, cap, m, n, D, Pl, rfl, hb, hl, _⟩
  · exact ⟨_, rfl, fun ao n c h => by cases h; omega⟩
  · exact ⟨_, rfl, fun ao n c h => by cases h; exact hl⟩
theorem open_intsD {t e : TypeId} (ht : P.underlying t = some (.slice e)) (he : P.underlying e = some (.int .i64)) (hc : P.cellsOf e = 1) (h : DataW.trod enc P w 0 spare held fuel t cs = some x) :
    ∃ v l, cs = [v] ∧ VR M0 R0 w (.ro false (.ints l)) v ∧ IntsR l := by
  obtain ⟨v, rfl, hcap⟩ := trod_cap ht h
  obtain ⟨l, hl, hr⟩ := open_intsAt ht he hc h
  exact ⟨v, l, rfl, VR.of_ints hl hcap, hr⟩
theorem open_pairsD {t e ti : TypeId} {f0 f1 : Field} (ht : P.underlying t = some (.slice e)) (he : P.underlying e = some (.struct #[f0, f1])) (hc : P.cellsOf e = 2)
    (hf0 : f0.type = ti) (hf1 : f1.type = ti) (ho0 : f0.offset = 0) (ho1 : f1.offset = 1) (hi : P.underlying ti = some (.int .i64)) (hci : P.cellsOf ti = 1) (h : DataW.trod enc P w 0 spare held fuel t cs = some x) :
    ∃ v l, cs = [v] ∧ VR M0 R0 w (.ro false (.pairs l)) v ∧ PairsR l := by
  obtain ⟨v, rfl, hcap⟩ := trod_cap ht h
  obtain ⟨l, hl, hr⟩ := open_pairsAt ht he hc hf0 hf1 ho0 ho1 hi hci h
  exact ⟨v, l, rfl, VR.of_pairs hl hcap, hr⟩
theorem open_intD {t : TypeId} (ht : P.underlying t = some (.int .i64)) (h : DataW.trod enc P w 0 spare held fuel t cs = some x) : ∃ n, cs = [.int .i64 n] ∧ R64 n := by
  obtain ⟨n, hn, _, hw⟩ := DataW.trod_int ht h
  exact ⟨n, hn, R64_of_wf hw⟩
/-- what the reading of a type's cells gives -/
def Opens (enc : TypeId × Value → H) (P : Program) (w : World) (spare : Nat → Bool) (held : Bool) (t : TypeId) (n : Nat) (R : List Value → Prop) : Prop :=
  P.cellsOf t = n ∧ ∀ fuel cs x, DataW.trod enc P w 0 spare held fuel t cs = some x → R cs
theorem opens2 {t : TypeId} {f0 f1 : Field} {n0 n1 : Nat} {R0' R1' : List Value → Prop} (ht : P.underlying t = some (.struct #[f0, f1])) (hc : P.cellsOf t = n0 + n1) (ho0 : f0.offset = 0) (ho1 : f1.offset = n0)
    (h0 : Opens enc P w spare held f0.type n0 R0') (h1 : Opens enc P w spare held f1.type n1 R1') : Opens enc P w spare held t (n0 + n1) (fun cs => ∃ a b, cs = a ++ b ∧ a.length = n0 ∧ b.length = n1 ∧ R0' a ∧ R1' b) := by
  refine ⟨hc, fun fuel cs x h => ?_⟩
  obtain ⟨y0, y1, n, _, hlen, hy0, hy1⟩ := trod_struct2 ht h
  rw [ho0, h0.1] at hy0
  rw [ho1, h1.1] at hy1
  rw [hc] at hlen
  refine ⟨cs.take n0, cs.drop n0, (List.take_append_drop _ _).symm, by simp; omega, by simp; omega, ?_, ?_⟩
  · exact h0.2 _ _ _ (by simpa using hy0)
  · have : List.take n1 (List.drop n0 cs) = List.drop n0 cs := List.take_of_length_le (by simp; omega)
    rw [this] at hy1
    exact h1.2 _ _ _ hy1
theorem opens_int {t : TypeId} (ht : P.underlying t = some (.int .i64)) (hc : P.cellsOf t = 1) : Opens enc P w spare held t 1 (fun cs => ∃ n, cs = [.int .i64 n] ∧ R64 n) := ⟨hc, fun _ _ _ h => open_intD ht h⟩
theorem opens_ints {t e : TypeId} (hct : P.cellsOf t = 1) (ht : P.underlying t = some (.slice e)) (he : P.underlying e = some (.int .i64)) (hc : P.cellsOf e = 1) : Opens enc P w spare held t 1 (fun cs => ∃ v l, cs = [v] ∧ VR M0 R0 w (.ro false (.ints l)) v ∧ IntsR l) := ⟨hct, fun _ _ _ h => open_intsD ht he hc h⟩
theorem opens_pairs {t e ti : TypeId} {f0 f1 : Field} (hct : P.cellsOf t = 1) (ht : P.underlying t = some (.slice e)) (he : P.underlying e = some (.struct #[f0, f1])) (hc : P.cellsOf e = 2)
    (hf0 : f0.type = ti) (hf1 : f1.type = ti) (ho0 : f0.offset = 0) (ho1 : f1.offset = 1) (hi : P.underlying ti = some (.int .i64)) (hci : P.cellsOf ti = 1) : Opens enc P w spare held t 1 (fun cs => ∃ v l, cs = [v] ∧ VR M0 R0 w (.ro false (.pairs l)) v ∧ PairsR l) :=
  ⟨hct, fun _ _ _ h => open_pairsD ht he hc hf0 hf1 ho0 ho1 hi hci h⟩
abbrev GrfC (w : World) (cs : List Value) : Prop := ∃ g : Grf, VR M0 R0 w (gD g) (.agg cs.toArray) ∧ GrfR g
abbrev PinC (w : World) (cs : List Value) : Prop := ∃ g : Pin, VR M0 R0 w (pD g) (.agg cs.toArray) ∧ PinR g
abbrev FrmC (w : World) (cs : List Value) : Prop := ∃ g : Frm, VR M0 R0 w (fD g) (.agg cs.toArray) ∧ FrmR g
abbrev LnkC (w : World) (cs : List Value) : Prop := ∃ g : Lnk, VR M0 R0 w (lD g) (.agg cs.toArray) ∧ LnkR g
abbrev RseC (w : World) (cs : List Value) : Prop := ∃ g : Rse, VR M0 R0 w (rD g) (.agg cs.toArray) ∧ RseR g
theorem Opens.mono {t : TypeId} {n : Nat} {R R' : List Value → Prop} (h : Opens enc P w spare held t n R) (hm : ∀ cs, R cs → R' cs) : Opens enc P w spare held t n R' := ⟨h.1, fun f cs x hx => hm cs (h.2 f cs x hx)⟩
theorem mkGrfC {cs : List Value} (h : ∃ a b, cs = a ++ b ∧ a.length = 1 ∧ b.length = 1 ∧ (∃ n, a = [.int .i64 n] ∧ R64 n) ∧ (∃ v l, b = [v] ∧ VR M0 R0 w (.ro false (.pairs l)) v ∧ PairsR l)) : GrfC w cs := by
  obtain ⟨a, b, rfl, _, _, ⟨n, rfl, hn⟩, v, l, rfl, hv, hl⟩ := h
  exact ⟨⟨n, l⟩, mk_agg2 (VR.int n) hv, hn, hl⟩
theorem mkRseC {cs : List Value} (h : ∃ a b, cs = a ++ b ∧ a.length = 1 ∧ b.length = 1 ∧ (∃ n, a = [.int .i64 n] ∧ R64 n) ∧ (∃ v l, b = [v] ∧ VR M0 R0 w (.ro false (.ints l)) v ∧ IntsR l)) : RseC w cs := by
  obtain ⟨a, b, rfl, _, _, ⟨n, rfl, hn⟩, v, l, rfl, hv, hl⟩ := h
  exact ⟨⟨n, l⟩, mk_agg2 (VR.int n) hv, hn, hl⟩
theorem mkPinC {cs : List Value} (h : ∃ a b, cs = a ++ b ∧ a.length = 2 ∧ b.length = 1 ∧ GrfC w a ∧ (∃ v l, b = [v] ∧ VR M0 R0 w (.ro false (.ints l)) v ∧ IntsR l)) : PinC w cs := by
  obtain ⟨a, b, rfl, _, _, ⟨g, hg, hgr⟩, v, l, rfl, hv, hl⟩ := h
  obtain ⟨x, y, he, h1, h2⟩ := agg2 hg
  obtain rfl : a = [x, y] := by simpa using congrArg (fun v => match v with | .agg c => c.toList | _ => []) he
  exact ⟨⟨g, l⟩, mk_agg3 h1 h2 hv, hgr, hl⟩
theorem mkFrmC {cs : List Value} (h : ∃ a b, cs = a ++ b ∧ a.length = 2 ∧ b.length = 1 ∧ GrfC w a ∧ (∃ v l, b = [v] ∧ VR M0 R0 w (.ro false (.pairs l)) v ∧ PairsR l)) : FrmC w cs := by
  obtain ⟨a, b, rfl, _, _, ⟨g, hg, hgr⟩, v, l, rfl, hv, hl⟩ := h
  obtain ⟨x, y, he, h1, h2⟩ := agg2 hg
  obtain rfl : a = [x, y] := by simpa using congrArg (fun v => match v with | .agg c => c.toList | _ => []) he
  exact ⟨⟨g, l⟩, mk_agg3 h1 h2 hv, hgr, hl⟩
theorem mkLnkC {cs : List Value} (h : ∃ a b, cs = a ++ b ∧ a.length = 3 ∧ b.length = 1 ∧ FrmC w a ∧ (∃ v l, b = [v] ∧ VR M0 R0 w (.ro false (.ints l)) v ∧ IntsR l)) : LnkC w cs := by
  obtain ⟨a, b, rfl, _, _, ⟨g, hg, hgr⟩, v, l, rfl, hv, hl⟩ := h
  obtain ⟨x, y, z, he, h1, h2, h3⟩ := agg3 hg
  obtain rfl : a = [x, y, z] := by simpa using congrArg (fun v => match v with | .agg c => c.toList | _ => []) he
  exact ⟨⟨g, l⟩, mk_agg4 h1 h2 h3 hv, hgr, hl⟩
end
end Go.Proofs.Ytlmlfbjcpajinaa
