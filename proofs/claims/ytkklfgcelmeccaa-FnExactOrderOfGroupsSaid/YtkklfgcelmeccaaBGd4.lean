/- Texts that the proof needs, put together: G7 G11 G12 G5 G14 G15 Pb G24 G26 Pmk Pm Pc G32 G31 G33. -/
import Derived.Test.YtkklfgcelmeccaaBGd3
set_option maxRecDepth 20000
set_option maxHeartbeats 1600000
set_option linter.unusedVariables false
set_option linter.unusedSimpArgs false
namespace Go.Proofs.Ytkklfgcelmeccaa
open Go.RowKit
def Et (N : Nat) (g_0 : Grf) (k : Unit → Option (Bool)) : Nat → Int → Option (Bool)
 | 0, _ => none
 | n + 1, x8 =>
  cnd (decide (x8 < (g_0.bars.length : Int))) (
   grd (0 ≤ x8 ∧ x8 < (g_0.bars.length : Int)) <|
   cnd (decide (((g_0.bars.getD ((x8).toNat) (0, 0)).1) < (0 : Int))) (
    some false) (
    cnd (decide (((g_0.bars.getD ((x8).toNat) (0, 0)).1) ≥ ((g_0.bars.getD ((x8).toNat) (0, 0)).2))) (
     some false) (
     cnd (decide (((g_0.bars.getD ((x8).toNat) (0, 0)).2) ≥ g_0.n)) (
      some false) (
      cnd (decide (x8 > (0 : Int))) (
       grd (Bk (x8 - (1 : Int))) <|
       grd (0 ≤ (x8 - (1 : Int)) ∧ (x8 - (1 : Int)) < (g_0.bars.length : Int)) <|
       (Hw N (g_0.bars.getD (((x8 - (1 : Int))).toNat) (0, 0)) (g_0.bars.getD ((x8).toNat) (0, 0))).bind fun v10 =>
       cnd (decide (v10 > (0 : Int))) (
        some false) (
        grd (Bk (x8 + (1 : Int))) <|
        Et N g_0 k n (x8 + (1 : Int)))) (
       grd (Bk (x8 + (1 : Int))) <|
       Et N g_0 k n (x8 + (1 : Int))))))) (
   k ())
def Qk (N : Nat) (g_0 : Grf) : Option (Bool) :=
 (Qt N g_0.n (1 : Int) (8 : Int)).bind fun v1 =>
 cnd (!v1) (
  some false) (
  cnd (decide ((g_0.bars.length : Int) > (24 : Int))) (
   some false) (
   Et N g_0 (fun (_ : Unit) =>
      some true) N (0 : Int)))
theorem I_IsGraph_w (N : Nat) (g_0 : Grf) (r : Bool) (h : Qk N g_0 = some r) : PCall Try.prog 97 [gD g_0] [] (.bool r) := by
 unfold Qk at h
 refine Aj (TT := TT) tt Try.func97 rfl rfl Try.ntmps97 (congrArg Array.toList Try.results97) rfl rfl fun w0 => ?_
 refine Ah ?_
 refine Aa ?_
 refine Jc rfl rfl rfl rfl rfl rfl rfl rfl rfl ?_
 refine Ac tt rfl rfl rfl rfl rfl Tvv ?_
 refine Af ?_
 change VC _ _ _ _
 iterate 2 refine Ah ?_
 refine Aa ?_
 iterate 2 refine Ac tt rfl rfl rfl rfl rfl Tvv ?_
 obtain ⟨v1, hc1, h⟩ := Ai h
 refine Bm (Aao N g_0.n (1 : Int) (8 : Int) v1 hc1) rfl rfl rfl rfl rfl rfl rfl rfl ⟨rfl, rfl, rfl, Tvv⟩ ?_
 iterate 2 refine Ac tt rfl rfl rfl rfl rfl Tvv ?_
 refine Dc rfl rfl rfl (fun hb2 => ?_) (fun hb2 => ?_)
 ·replace h := Ao hb2 h
  iterate 4 refine Tv rfl rfl rfl rfl hb2 rfl rfl ?_
  refine Eo rfl rfl rfl rfl rfl hb2 rfl ?_
  refine Af ?_
  change VC _ _ _ _
  refine Ev rfl rfl ?_
  refine Ah ?_
  refine Aa ?_
  refine Ac tt rfl rfl rfl rfl rfl Tvv ?_
  refine Af ?_
  change VC _ _ _ _
  refine Bh ?_
  change ∃ _, _
  cases h
  exact ⟨[], _, rfl, Tvv, rfl, (.eq rfl), rfl⟩
 replace h := Ap hb2 h
 iterate 4 refine Cl tt rfl rfl rfl rfl rfl hb2 rfl rfl rfl Tvv ?_
 refine Cv rfl rfl rfl rfl rfl hb2 rfl ?_
 refine Af ?_
 change VC _ _ _ _
 refine Av rfl (fun hb3 => ?_) (fun hb3 => ?_)
 ·replace h := Ao hb3 h
  refine Ah ?_
  refine Aa ?_
  refine Ac tt rfl rfl rfl rfl rfl Tvv ?_
  refine Af ?_
  change VC _ _ _ _
  refine Bh ?_
  change ∃ _, _
  cases h
  exact ⟨[], _, rfl, Tvv, rfl, (.eq rfl), rfl⟩
 replace h := Ap hb3 h
 refine Au ?_
 change VC _ _ _ _
 iterate 2 refine Ah ?_
 refine Aa ?_
 iterate 4 refine Ac tt rfl rfl rfl rfl rfl Tvv ?_
 refine Af ?_
 change VC _ _ _ _
 refine Cc (F := fun k => Et N g_0 k) h (α := Unit) (J := fun (_ : Unit) => (⟨[], [], []⟩ : PS)) ?_ ?_
 ·rintro ⟨⟩ h
  show VC _ _ _ (⟨[], [], []⟩ : PS)
  refine Ah ?_
  refine Aa ?_
  refine Ac tt rfl rfl rfl rfl rfl Tvv ?_
  refine Af ?_
  change VC _ _ _ _
  refine Bh ?_
  change ∃ _, _
  cases h
  exact ⟨[], _, rfl, Tvv, rfl, (.eq rfl), rfl⟩
 intro k h
 refine Ar ?_
 refine Ba (α := Int) (fun (x8 : Int) => (⟨[(1, .ptr 1 0), (16, .ro false (.pairs g_0.bars)), (17, .int (g_0.bars.length : Int)), (18, .int x8)], [], [(1, some [.int g_0.n, .ro false (.pairs g_0.bars)])]⟩ : PS)) (Et N g_0 k) h (En.of ⟨rfl, rfl, rfl, rfl, Tvv⟩ trivial ⟨rfl, Tvv⟩) (fun _ => rfl) ?_
 rintro n x8 h
 rw [Et] at h
 show VC _ _ _ (⟨[(1, .ptr 1 0), (16, .ro false (.pairs g_0.bars)), (17, .int (g_0.bars.length : Int)), (18, .int x8)], [], [(1, some [.int g_0.n, .ro false (.pairs g_0.bars)])]⟩ : PS)
 refine Ah ?_
 refine Aa ?_
 refine Ac tt rfl rfl rfl rfl rfl Tvv ?_
 refine Af ?_
 change VC _ _ _ _
 refine Ah ?_
 refine Av rfl (fun hb4 => ?_) (fun hb4 => ?_)
 ·replace h := Ao hb4 h
  refine Au ?_
  change VC _ _ _ _
  refine Ah ?_
  refine Ar ?_
  refine Ah ?_
  refine Aa ?_
  refine Ac tt rfl rfl rfl rfl rfl Tvv ?_
  obtain ⟨hg5, h⟩ := Ab h
  refine Ac tt rfl rfl rfl rfl rfl hg5 ?_
  refine Ac tt rfl rfl rfl rfl rfl Tvv ?_
  refine Cy tt rfl rfl rfl rfl rfl rfl rfl rfl rfl ?_
  refine Ac tt rfl rfl rfl rfl rfl Tvv ?_
  refine Ax tt rfl rfl rfl rfl rfl rfl rfl rfl rfl rfl rfl ⟨Tvv, Tvv, Tvv⟩ ?_
  refine Af ?_
  change VC _ _ _ _
  refine Ah ?_
  refine Ca (by kernel_rfl) (by kernel_rfl) ?_
  iterate 4 refine Bi tt rfl (Ag rfl) rfl rfl rfl Tvv ?_
  refine Hr rfl rfl rfl (fun hb6 => ?_) (fun hb6 => ?_)
  ·replace h := Ao hb6 h
   iterate 5 refine Ww rfl rfl rfl rfl hb6 rfl rfl ?_
   refine Ek rfl (Ag rfl) rfl rfl rfl hb6 rfl ?_
   refine Bi tt rfl (Ag rfl) rfl rfl rfl Tvv ?_
   iterate 5 refine Ww rfl rfl rfl rfl rfl rfl rfl ?_
   refine Ek rfl (Ag rfl) rfl rfl rfl rfl rfl ?_
   refine Bi tt rfl (Ag rfl) rfl rfl rfl Tvv ?_
   iterate 3 refine Ww rfl rfl rfl rfl rfl rfl rfl ?_
   iterate 9 refine cNoU rfl rfl rfl rfl rfl ?_
   refine Ww rfl rfl rfl rfl rfl rfl rfl ?_
   refine Ek rfl (Ag rfl) rfl rfl rfl rfl rfl ?_
   refine Lo ?_
   change VC _ _ _ _
   refine Ev rfl rfl ?_
   refine Ah ?_
   refine Aa ?_
   refine Ac tt rfl rfl rfl rfl rfl Tvv ?_
   refine Af ?_
   change VC _ _ _ _
   refine Bh ?_
   change ∃ _, _
   cases h
   exact ⟨[], _, rfl, Tvv, rfl, (.eq rfl), rfl⟩
  replace h := Ap hb6 h
  iterate 5 refine Bi tt rfl (Be rfl rfl rfl rfl hb6) rfl rfl rfl Tvv ?_
  refine Gt rfl (Ag rfl) rfl rfl rfl hb6 rfl ?_
  refine Bi tt rfl (Ag rfl) rfl rfl rfl Tvv ?_
  refine Hr rfl rfl rfl (fun hb7 => ?_) (fun hb7 => ?_)
  ·replace h := Ao hb7 h
   iterate 5 refine Ww rfl rfl rfl rfl hb7 rfl rfl ?_
   refine Ek rfl (Ag rfl) rfl rfl rfl hb7 rfl ?_
   refine Bi tt rfl (Ag rfl) rfl rfl rfl Tvv ?_
   iterate 3 refine Ww rfl rfl rfl rfl rfl rfl rfl ?_
   iterate 9 refine cNoU rfl rfl rfl rfl rfl ?_
   refine Ww rfl rfl rfl rfl rfl rfl rfl ?_
   refine Ek rfl (Ag rfl) rfl rfl rfl rfl rfl ?_
   refine Lo ?_
   change VC _ _ _ _
   refine Ev rfl rfl ?_
   refine Ah ?_
   refine Aa ?_
   refine Ac tt rfl rfl rfl rfl rfl Tvv ?_
   refine Af ?_
   change VC _ _ _ _
   refine Bh ?_
   change ∃ _, _
   cases h
   exact ⟨[], _, rfl, Tvv, rfl, (.eq rfl), rfl⟩
  replace h := Ap hb7 h
  iterate 5 refine Bi tt rfl (Be rfl rfl rfl rfl hb7) rfl rfl rfl Tvv ?_
  refine Gt rfl (Ag rfl) rfl rfl rfl hb7 rfl ?_
  refine Bi tt rfl (Ag rfl) rfl rfl rfl Tvv ?_
  refine Hr rfl rfl rfl (fun hb8 => ?_) (fun hb8 => ?_)
  ·replace h := Ao hb8 h
   iterate 3 refine Ww rfl rfl rfl rfl hb8 rfl rfl ?_
   iterate 9 refine cNoU rfl rfl rfl rfl rfl ?_
   refine Ww rfl rfl rfl rfl hb8 rfl rfl ?_
   refine Ek rfl (Ag rfl) rfl rfl rfl hb8 rfl ?_
   refine Lo ?_
   change VC _ _ _ _
   refine Ev rfl rfl ?_
   refine Ah ?_
   refine Aa ?_
   refine Ac tt rfl rfl rfl rfl rfl Tvv ?_
   refine Af ?_
   change VC _ _ _ _
   refine Bh ?_
   change ∃ _, _
   cases h
   exact ⟨[], _, rfl, Tvv, rfl, (.eq rfl), rfl⟩
  replace h := Ap hb8 h
  iterate 3 refine Bi tt rfl (Be rfl rfl rfl rfl hb8) rfl rfl rfl Tvv ?_
  refine Hr rfl rfl rfl (fun hb9 => ?_) (fun hb9 => ?_)
  ·replace h := Ao hb9 h
   iterate 3 refine Bi tt rfl (Be rfl rfl rfl rfl hb9) rfl rfl rfl Tvv ?_
   obtain ⟨hg10, h⟩ := Ab h
   refine Bi tt rfl (Be rfl rfl rfl rfl hb9) rfl rfl rfl hg10 ?_
   obtain ⟨hg11, h⟩ := Ab h
   refine Bi tt rfl (Be rfl rfl rfl rfl hb9) rfl rfl rfl hg11 ?_
   iterate 2 refine Bi tt rfl (Be rfl rfl rfl rfl hb9) rfl rfl rfl Tvv ?_
   obtain ⟨v10, hc12, h⟩ := Ai h
   refine Mq (Xd N (g_0.bars.getD (((x8 - (1 : Int))).toNat) (0, 0)) (g_0.bars.getD ((x8).toNat) (0, 0)) v10 hc12) rfl (Be rfl rfl rfl rfl hb9) rfl rfl rfl rfl rfl rfl ⟨⟨rfl, rfl, Tvv⟩, ⟨rfl, rfl, Tvv⟩, Tvv⟩ ?_
   refine Bi tt rfl (Be rfl rfl rfl rfl hb9) rfl rfl rfl Tvv ?_
   refine Ek rfl (Be rfl rfl rfl rfl hb8) rfl rfl rfl hb9 rfl ?_
   refine Gt rfl (Ag rfl) rfl rfl rfl hb8 rfl ?_
   refine Lo ?_
   change VC _ _ _ _
   refine Av rfl (fun hb13 => ?_) (fun hb13 => ?_)
   ·replace h := Ao hb13 h
    refine Ah ?_
    refine Aa ?_
    refine Ac tt rfl rfl rfl rfl rfl Tvv ?_
    refine Af ?_
    change VC _ _ _ _
    refine Bh ?_
    change ∃ _, _
    cases h
    exact ⟨[], _, rfl, Tvv, rfl, (.eq rfl), rfl⟩
   replace h := Ap hb13 h
   refine Au ?_
   change VC _ _ _ _
   refine Aa ?_
   obtain ⟨hg14, h⟩ := Ab h
   refine Ac tt rfl rfl rfl rfl rfl hg14 ?_
   refine Ac tt rfl rfl rfl rfl rfl Tvv ?_
   refine Af ?_
   change ∃ _, _
   exact ⟨(x8 + (1 : Int)), (En.of ⟨rfl, rfl, rfl, rfl, Tvv⟩ trivial ⟨rfl, Tvv⟩), h⟩
  replace h := Ap hb9 h
  iterate 9 refine cNoT rfl rfl rfl rfl hb9 rfl rfl ?_
  refine Gt rfl (Be rfl rfl rfl rfl hb8) rfl rfl rfl hb9 rfl ?_
  refine Gt rfl (Ag rfl) rfl rfl rfl hb8 rfl ?_
  refine Lo ?_
  change VC _ _ _ _
  refine Gw rfl rfl ?_
  refine Au ?_
  change VC _ _ _ _
  refine Aa ?_
  obtain ⟨hg15, h⟩ := Ab h
  refine Ac tt rfl rfl rfl rfl rfl hg15 ?_
  refine Ac tt rfl rfl rfl rfl rfl Tvv ?_
  refine Af ?_
  change ∃ _, _
  exact ⟨(x8 + (1 : Int)), (En.of ⟨rfl, rfl, rfl, rfl, Tvv⟩ trivial ⟨rfl, Tvv⟩), h⟩
 replace h := Ap hb4 h
 refine Bl ?_
 change ∃ _, _
 exact ⟨(), (En.of trivial trivial trivial), h⟩
def Dn (N : Nat) (g_0 : Grf) (k : Unit → Option (Bool)) : Nat → Int → Option (Bool)
 | 0, _ => none
 | n + 1, i3 =>
  cnd (decide (i3 < (g_0.bars.length : Int))) (
   grd (Bk (i3 - (1 : Int))) <|
   grd (0 ≤ (i3 - (1 : Int)) ∧ (i3 - (1 : Int)) < (g_0.bars.length : Int)) <|
   grd (0 ≤ i3 ∧ i3 < (g_0.bars.length : Int)) <|
   cnd (((g_0.bars.getD (((i3 - (1 : Int))).toNat) (0, 0)).1 == (g_0.bars.getD ((i3).toNat) (0, 0)).1) && ((g_0.bars.getD (((i3 - (1 : Int))).toNat) (0, 0)).2 == (g_0.bars.getD ((i3).toNat) (0, 0)).2)) (
    some true) (
    grd (Bk (i3 + (1 : Int))) <|
    Dn N g_0 k n (i3 + (1 : Int)))) (
   k ())
def Js (N : Nat) (g_0 : Grf) : Option (Bool) :=
 Dn N g_0 (fun (_ : Unit) =>
    some false) N (1 : Int)
theorem Zj (N : Nat) (g_0 : Grf) (r : Bool) (h : Js N g_0 = some r) : PCall Try.prog 98 [gD g_0] [] (.bool r) := by
 unfold Js at h
 refine Aj (TT := TT) tt Try.func98 rfl rfl Try.ntmps98 (congrArg Array.toList Try.results98) rfl rfl fun w0 => ?_
 refine Ah ?_
 refine Aa ?_
 refine Jc rfl rfl rfl rfl rfl rfl rfl rfl rfl ?_
 refine Ac tt rfl rfl rfl rfl rfl Tvv ?_
 refine Af ?_
 change VC _ _ _ _
 iterate 2 refine Ah ?_
 refine Aa ?_
 refine Ac tt rfl rfl rfl rfl rfl Tvv ?_
 refine Af ?_
 change VC _ _ _ _
 refine Cc (F := fun k => Dn N g_0 k) h (α := Unit) (J := fun (_ : Unit) => (⟨[], [], []⟩ : PS)) ?_ ?_
 ·rintro ⟨⟩ h
  show VC _ _ _ (⟨[], [], []⟩ : PS)
  refine Ah ?_
  refine Aa ?_
  refine Ac tt rfl rfl rfl rfl rfl Tvv ?_
  refine Af ?_
  change VC _ _ _ _
  refine Bh ?_
  change ∃ _, _
  cases h
  exact ⟨[], _, rfl, Tvv, rfl, (.eq rfl), rfl⟩
 intro k h
 refine Ar ?_
 refine Ba (α := Int) (fun (i3 : Int) => (⟨[(1, .ptr 1 0), (3, .int i3)], [], [(1, some [.int g_0.n, .ro false (.pairs g_0.bars)])]⟩ : PS)) (Dn N g_0 k) h (En.of ⟨rfl, rfl, Tvv⟩ trivial ⟨rfl, Tvv⟩) (fun _ => rfl) ?_
 rintro n i3 h
 rw [Dn] at h
 show VC _ _ _ (⟨[(1, .ptr 1 0), (3, .int i3)], [], [(1, some [.int g_0.n, .ro false (.pairs g_0.bars)])]⟩ : PS)
 iterate 2 refine Ah ?_
 refine Aa ?_
 iterate 5 refine Ac tt rfl rfl rfl rfl rfl Tvv ?_
 refine Af ?_
 change VC _ _ _ _
 refine Av rfl (fun hb1 => ?_) (fun hb1 => ?_)
 ·replace h := Ao hb1 h
  refine Au ?_
  change VC _ _ _ _
  refine Ah ?_
  refine Ar ?_
  refine Ah ?_
  refine Ca (by kernel_rfl) (by kernel_rfl) ?_
  iterate 3 refine Bi tt rfl (Ag rfl) rfl rfl rfl Tvv ?_
  obtain ⟨hg2, h⟩ := Ab h
  refine Bi tt rfl (Ag rfl) rfl rfl rfl hg2 ?_
  obtain ⟨hg3, h⟩ := Ab h
  refine Bi tt rfl (Ag rfl) rfl rfl rfl hg3 ?_
  iterate 4 refine Bi tt rfl (Ag rfl) rfl rfl rfl Tvv ?_
  obtain ⟨hg4, h⟩ := Ab h
  refine Bi tt rfl (Ag rfl) rfl rfl rfl hg4 ?_
  refine Bi tt rfl (Ag rfl) rfl rfl rfl Tvv ?_
  refine cPure (Ag rfl) (pEqP We rfl rfl rfl) rfl rfl ?_
  refine Lo ?_
  change VC _ _ _ _
  refine Av rfl (fun hb5 => ?_) (fun hb5 => ?_)
  ·replace h := Ao hb5 h
   refine Ah ?_
   refine Aa ?_
   refine Ac tt rfl rfl rfl rfl rfl Tvv ?_
   refine Af ?_
   change VC _ _ _ _
   refine Bh ?_
   change ∃ _, _
   cases h
   exact ⟨[], _, rfl, Tvv, rfl, (.eq rfl), rfl⟩
  replace h := Ap hb5 h
  refine Au ?_
  change VC _ _ _ _
  refine Aa ?_
  refine Ac tt rfl rfl rfl rfl rfl Tvv ?_
  obtain ⟨hg6, h⟩ := Ab h
  refine Ac tt rfl rfl rfl rfl rfl hg6 ?_
  refine Ac tt rfl rfl rfl rfl rfl Tvv ?_
  refine Af ?_
  change ∃ _, _
  exact ⟨(i3 + (1 : Int)), (En.of ⟨rfl, rfl, Tvv⟩ trivial ⟨rfl, Tvv⟩), h⟩
 replace h := Ap hb1 h
 refine Bl ?_
 change ∃ _, _
 exact ⟨(), (En.of trivial trivial trivial), h⟩
def Fz (N : Nat) (x_0 : Int × Int) (v_1 : Int) : Option (Int) :=
 cnd (x_0.1 == v_1) (
  some x_0.2) (
  some x_0.1)
theorem Td (N : Nat) (x_0 : Int × Int) (v_1 : Int) (r : Int) (h : Fz N x_0 v_1 = some r) : PCall Try.prog 114 [.agg [.int x_0.1, .int x_0.2], .int v_1] [] (.int r) := by
 unfold Fz at h
 refine Aj (TT := TT) tt Try.func114 rfl rfl Try.ntmps114 (congrArg Array.toList Try.results114) rfl rfl fun w0 => ?_
 refine Ah ?_
 refine Aa ?_
 refine Jc rfl rfl rfl rfl rfl rfl rfl rfl rfl ?_
 refine Ac tt rfl rfl rfl rfl rfl Tvv ?_
 refine Af ?_
 change VC _ _ _ _
 iterate 2 refine Ah ?_
 refine Aa ?_
 iterate 4 refine Ac tt rfl rfl rfl rfl rfl Tvv ?_
 refine Af ?_
 change VC _ _ _ _
 refine Av rfl (fun hb1 => ?_) (fun hb1 => ?_)
 ·replace h := Ao hb1 h
  refine Ah ?_
  refine Aa ?_
  iterate 3 refine Ac tt rfl rfl rfl rfl rfl Tvv ?_
  refine Af ?_
  change VC _ _ _ _
  refine Bh ?_
  change ∃ _, _
  cases h
  exact ⟨[], _, rfl, Tvv, rfl, (.eq rfl), rfl⟩
 replace h := Ap hb1 h
 refine Au ?_
 change VC _ _ _ _
 refine Ah ?_
 refine Aa ?_
 iterate 3 refine Ac tt rfl rfl rfl rfl rfl Tvv ?_
 refine Af ?_
 change VC _ _ _ _
 refine Bh ?_
 change ∃ _, _
 cases h
 exact ⟨[], _, rfl, Tvv, rfl, (.eq rfl), rfl⟩
end Go.Proofs.Ytkklfgcelmeccaa
namespace Go.Proofs.Ytkklfgcelmeccaa
open Go.RowKit
end Go.Proofs.Ytkklfgcelmeccaa
namespace Go.Proofs.Ytkklfgcelmeccaa
open Go.RowKit
end Go.Proofs.Ytkklfgcelmeccaa
namespace Go.Proofs.Ytkklfgcelmeccaa
open Go.RowKit
def Je (N : Nat) (l_0 : List Int) (x_1 : Int) (k : Unit → Option (Bool)) : Nat → Int → Option (Bool)
 | 0, _ => none
 | n + 1, i3 =>
  cnd (decide (i3 < (l_0.length : Int))) (
   grd (0 ≤ i3 ∧ i3 < (l_0.length : Int)) <|
   cnd ((l_0.getD ((i3).toNat) 0) == x_1) (
    some true) (
    grd (Bk (i3 + (1 : Int))) <|
    Je N l_0 x_1 k n (i3 + (1 : Int)))) (
   k ())
def Fc (N : Nat) (l_0 : List Int) (x_1 : Int) : Option (Bool) :=
 Je N l_0 x_1 (fun (_ : Unit) =>
    some false) N (0 : Int)
theorem Fg (N : Nat) (l_0 : List Int) (x_1 : Int) (r : Bool) (h : Fc N l_0 x_1 = some r) : PCall Try.prog 55 [.ro false (.ints l_0), .int x_1] [] (.bool r) := by
 unfold Fc at h
 refine Aj (TT := TT) tt Try.func55 rfl rfl Try.ntmps55 (congrArg Array.toList Try.results55) rfl rfl fun w0 => ?_
 refine Ah ?_
 refine Aa ?_
 refine Ac tt rfl rfl rfl rfl rfl Tvv ?_
 refine Af ?_
 change VC _ _ _ _
 iterate 2 refine Ah ?_
 refine Aa ?_
 refine Ac tt rfl rfl rfl rfl rfl Tvv ?_
 refine Af ?_
 change VC _ _ _ _
 refine Cc (F := fun k => Je N l_0 x_1 k) h (α := Unit) (J := fun (_ : Unit) => (⟨[], [], []⟩ : PS)) ?_ ?_
 ·rintro ⟨⟩ h
  show VC _ _ _ (⟨[], [], []⟩ : PS)
  refine Ah ?_
  refine Aa ?_
  refine Ac tt rfl rfl rfl rfl rfl Tvv ?_
  refine Af ?_
  change VC _ _ _ _
  refine Bh ?_
  change ∃ _, _
  cases h
  exact ⟨[], _, rfl, Tvv, rfl, (.eq rfl), rfl⟩
 intro k h
 refine Ar ?_
 refine Ba (α := Int) (fun (i3 : Int) => (⟨[(0, .ro false (.ints l_0)), (1, .int x_1), (5, .int i3)], [], []⟩ : PS)) (Je N l_0 x_1 k) h (En.of ⟨rfl, rfl, rfl, Tvv⟩ trivial trivial) (fun _ => rfl) ?_
 rintro n i3 h
 rw [Je] at h
 show VC _ _ _ (⟨[(0, .ro false (.ints l_0)), (1, .int x_1), (5, .int i3)], [], []⟩ : PS)
 iterate 2 refine Ah ?_
 refine Aa ?_
 iterate 4 refine Ac tt rfl rfl rfl rfl rfl Tvv ?_
 refine Af ?_
 change VC _ _ _ _
 refine Av rfl (fun hb1 => ?_) (fun hb1 => ?_)
 ·replace h := Ao hb1 h
  refine Au ?_
  change VC _ _ _ _
  refine Ah ?_
  refine Ar ?_
  refine Ah ?_
  refine Aa ?_
  iterate 2 refine Ac tt rfl rfl rfl rfl rfl Tvv ?_
  obtain ⟨hg2, h⟩ := Ab h
  refine Ac tt rfl rfl rfl rfl rfl hg2 ?_
  iterate 3 refine Ac tt rfl rfl rfl rfl rfl Tvv ?_
  refine Af ?_
  change VC _ _ _ _
  refine Av rfl (fun hb3 => ?_) (fun hb3 => ?_)
  ·replace h := Ao hb3 h
   refine Ah ?_
   refine Aa ?_
   refine Ac tt rfl rfl rfl rfl rfl Tvv ?_
   refine Af ?_
   change VC _ _ _ _
   refine Bh ?_
   change ∃ _, _
   cases h
   exact ⟨[], _, rfl, Tvv, rfl, (.eq rfl), rfl⟩
  replace h := Ap hb3 h
  refine Au ?_
  change VC _ _ _ _
  refine Aa ?_
  refine Ac tt rfl rfl rfl rfl rfl Tvv ?_
  obtain ⟨hg4, h⟩ := Ab h
  refine Ac tt rfl rfl rfl rfl rfl hg4 ?_
  refine Ac tt rfl rfl rfl rfl rfl Tvv ?_
  refine Af ?_
  change ∃ _, _
  exact ⟨(i3 + (1 : Int)), (En.of ⟨rfl, rfl, rfl, Tvv⟩ trivial trivial), h⟩
 replace h := Ap hb1 h
 refine Bl ?_
 change ∃ _, _
 exact ⟨(), (En.of trivial trivial trivial), h⟩
def Hq (N : Nat) (b_0 : Int × Int) (v_1 : Int) : Option (Int) :=
 grd (Bk (b_0.1 + b_0.2)) <|
 grd (Bk ((b_0.1 + b_0.2) - v_1)) <|
 some ((b_0.1 + b_0.2) - v_1)
theorem Mt (N : Nat) (b_0 : Int × Int) (v_1 : Int) (r : Int) (h : Hq N b_0 v_1 = some r) : PCall Try.prog 88 [.agg [.int b_0.1, .int b_0.2], .int v_1] [] (.int r) := by
 unfold Hq at h
 refine Aj (TT := TT) tt Try.func88 rfl rfl Try.ntmps88 (congrArg Array.toList Try.results88) rfl rfl fun w0 => ?_
 refine Ah ?_
 refine Aa ?_
 refine Jc rfl rfl rfl rfl rfl rfl rfl rfl rfl ?_
 refine Ac tt rfl rfl rfl rfl rfl Tvv ?_
 refine Af ?_
 change VC _ _ _ _
 refine Ah ?_
 refine Aa ?_
 iterate 4 refine Ac tt rfl rfl rfl rfl rfl Tvv ?_
 obtain ⟨hg1, h⟩ := Ab h
 refine Ac tt rfl rfl rfl rfl rfl hg1 ?_
 refine Ac tt rfl rfl rfl rfl rfl Tvv ?_
 obtain ⟨hg2, h⟩ := Ab h
 refine Ac tt rfl rfl rfl rfl rfl hg2 ?_
 refine Ac tt rfl rfl rfl rfl rfl Tvv ?_
 refine Af ?_
 change VC _ _ _ _
 refine Bh ?_
 change ∃ _, _
 cases h
 exact ⟨[], _, rfl, Tvv, rfl, (.eq rfl), rfl⟩
end Go.Proofs.Ytkklfgcelmeccaa
namespace Go.Proofs.Ytkklfgcelmeccaa
open Go.RowKit
def Mk (N : Nat) (a_0 : Pin) (left_1 : Int) : Option (Int) :=
 (Pr N a_0.g left_1).bind fun v1 =>
 cnd (decide (v1 < (0 : Int))) (
  some (-1 : Int)) (
  (Qx N a_0.ground v1).bind fun v2 =>
  cnd (decide (v2 < (0 : Int))) (
   some (-1 : Int)) (
   some v2))
theorem L_szPinned_w (N : Nat) (a_0 : Pin) (left_1 : Int) (r : Int) (h : Mk N a_0 left_1 = some r) : PCall Try.prog 17 [pD a_0, .int left_1] [] (.int r) := by
 unfold Mk at h
 refine Aj (TT := TT) tt Try.func17 rfl rfl Try.ntmps17 (congrArg Array.toList Try.results17) rfl rfl fun w0 => ?_
 refine Ah ?_
 refine Aa ?_
 refine Jc rfl rfl rfl rfl rfl rfl rfl rfl rfl ?_
 refine Ac tt rfl rfl rfl rfl rfl Tvv ?_
 refine Af ?_
 change VC _ _ _ _
 refine Ah ?_
 refine Aa ?_
 iterate 3 refine Ac tt rfl rfl rfl rfl rfl Tvv ?_
 obtain ⟨v1, hc1, h⟩ := Ai h
 refine Bm (L_szGraph_w N a_0.g left_1 v1 hc1) rfl rfl rfl rfl rfl rfl rfl rfl ⟨⟨rfl, rfl, Tvv⟩, rfl, Tvv⟩ ?_
 refine Ac tt rfl rfl rfl rfl rfl Tvv ?_
 refine Af ?_
 change VC _ _ _ _
 iterate 2 refine Ah ?_
 refine Aa ?_
 iterate 2 refine Ac tt rfl rfl rfl rfl rfl Tvv ?_
 refine Af ?_
 change VC _ _ _ _
 refine Av rfl (fun hb2 => ?_) (fun hb2 => ?_)
 ·replace h := Ao hb2 h
  refine Ah ?_
  refine Aa ?_
  refine Ac tt rfl rfl rfl rfl rfl Tvv ?_
  refine Af ?_
  change VC _ _ _ _
  refine Bh ?_
  change ∃ _, _
  cases h
  exact ⟨[], _, rfl, Tvv, rfl, (.eq rfl), rfl⟩
 replace h := Ap hb2 h
 refine Au ?_
 change VC _ _ _ _
 refine Ah ?_
 refine Aa ?_
 iterate 3 refine Ac tt rfl rfl rfl rfl rfl Tvv ?_
 obtain ⟨v2, hc3, h⟩ := Ai h
 refine Bm (Aac N a_0.ground v1 v2 hc3) rfl rfl rfl rfl rfl rfl rfl rfl ⟨rfl, rfl, Tvv⟩ ?_
 refine Ac tt rfl rfl rfl rfl rfl Tvv ?_
 refine Af ?_
 change VC _ _ _ _
 iterate 2 refine Ah ?_
 refine Aa ?_
 iterate 2 refine Ac tt rfl rfl rfl rfl rfl Tvv ?_
 refine Af ?_
 change VC _ _ _ _
 refine Av rfl (fun hb4 => ?_) (fun hb4 => ?_)
 ·replace h := Ao hb4 h
  refine Ah ?_
  refine Aa ?_
  refine Ac tt rfl rfl rfl rfl rfl Tvv ?_
  refine Af ?_
  change VC _ _ _ _
  refine Bh ?_
  change ∃ _, _
  cases h
  exact ⟨[], _, rfl, Tvv, rfl, (.eq rfl), rfl⟩
 replace h := Ap hb4 h
 refine Au ?_
 change VC _ _ _ _
 refine Ah ?_
 refine Aa ?_
 iterate 2 refine Ac tt rfl rfl rfl rfl rfl Tvv ?_
 refine Af ?_
 change VC _ _ _ _
 refine Bh ?_
 change ∃ _, _
 cases h
 exact ⟨[], _, rfl, Tvv, rfl, (.eq rfl), rfl⟩
def Du (N : Nat) (p_0 : Pin) (k : Unit → Option (Bool)) : Nat → Int → Option (Bool)
 | 0, _ => none
 | n + 1, i13 =>
  cnd (decide (i13 < (p_0.g.bars.length : Int))) (
   grd (0 ≤ i13 ∧ i13 < (p_0.g.bars.length : Int)) <|
   (Fc N p_0.ground ((p_0.g.bars.getD ((i13).toNat) (0, 0)).1)).bind fun v16 =>
   cnd v16 (
    (Fc N p_0.ground ((p_0.g.bars.getD ((i13).toNat) (0, 0)).2)).bind fun v17 =>
    cnd v17 (
     some false) (
     grd (Bk (i13 + (1 : Int))) <|
     Du N p_0 k n (i13 + (1 : Int)))) (
    grd (Bk (i13 + (1 : Int))) <|
    Du N p_0 k n (i13 + (1 : Int)))) (
   k ())
def Dx (N : Nat) (p_0 : Pin) (k : Unit → Option (Bool)) : Nat → Int → Option (Bool)
 | 0, _ => none
 | n + 1, i19 =>
  cnd (decide (i19 < (p_0.ground.length : Int))) (
   grd (0 ≤ i19 ∧ i19 < (p_0.ground.length : Int)) <|
   cnd (decide ((p_0.ground.getD ((i19).toNat) 0) < (0 : Int))) (
    some false) (
    cnd (decide ((p_0.ground.getD ((i19).toNat) 0) ≥ p_0.g.n)) (
     some false) (
     cnd (decide (i19 > (0 : Int))) (
      grd (Bk (i19 - (1 : Int))) <|
      grd (0 ≤ (i19 - (1 : Int)) ∧ (i19 - (1 : Int)) < (p_0.ground.length : Int)) <|
      cnd (decide ((p_0.ground.getD (((i19 - (1 : Int))).toNat) 0) ≥ (p_0.ground.getD ((i19).toNat) 0))) (
       some false) (
       grd (Bk (i19 + (1 : Int))) <|
       Dx N p_0 k n (i19 + (1 : Int)))) (
      grd (Bk (i19 + (1 : Int))) <|
      Dx N p_0 k n (i19 + (1 : Int)))))) (
   k ())
def Jd (N : Nat) (p_0 : Pin) : Option (Bool) :=
 Dx N p_0 (fun (_ : Unit) =>
    Du N p_0 (fun (_ : Unit) =>
       (Ll N p_0.g).bind fun v9 =>
       cnd v9 (
        cnd (decide ((p_0.ground.length : Int) ≥ (2 : Int))) (
         cnd (decide ((p_0.g.bars.length : Int) ≤ (15 : Int))) (
          grd (Bk ((2 : Int) * (p_0.ground.length : Int))) <|
          grd (Bk ((p_0.g.bars.length : Int) + ((2 : Int) * (p_0.ground.length : Int)))) <|
          grd (Bk (((p_0.g.bars.length : Int) + ((2 : Int) * (p_0.ground.length : Int))) - (3 : Int))) <|
          some (decide ((((p_0.g.bars.length : Int) + ((2 : Int) * (p_0.ground.length : Int))) - (3 : Int)) ≤ (24 : Int)))) (
          some false)) (
         some false)) (
        some false)) N (0 : Int)) N (0 : Int)
theorem Qn (N : Nat) (p_0 : Pin) (r : Bool) (h : Jd N p_0 = some r) : PCall Try.prog 110 [pD p_0] [] (.bool r) := by
 unfold Jd at h
 refine Aj (TT := TT) tt Try.func110 rfl rfl Try.ntmps110 (congrArg Array.toList Try.results110) rfl rfl fun w0 => ?_
 refine Ah ?_
 refine Aa ?_
 refine Jc rfl rfl rfl rfl rfl rfl rfl rfl rfl ?_
 refine Ac tt rfl rfl rfl rfl rfl Tvv ?_
 refine Af ?_
 change VC _ _ _ _
 iterate 2 refine Ah ?_
 refine Aa ?_
 refine Ac tt rfl rfl rfl rfl rfl Tvv ?_
 refine Af ?_
 change VC _ _ _ _
 refine Cc (F := fun k => Dx N p_0 k) h (α := Unit) (J := fun (_ : Unit) => (⟨[(1, .ptr 1 0)], [], [(1, some [.int p_0.g.n, .ro false (.pairs p_0.g.bars), .ro false (.ints p_0.ground)])]⟩ : PS)) ?_ ?_
 ·rintro ⟨⟩ h
  show VC _ _ _ (⟨[(1, .ptr 1 0)], [], [(1, some [.int p_0.g.n, .ro false (.pairs p_0.g.bars), .ro false (.ints p_0.ground)])]⟩ : PS)
  iterate 2 refine Ah ?_
  refine Aa ?_
  refine Ac tt rfl rfl rfl rfl rfl Tvv ?_
  refine Af ?_
  change VC _ _ _ _
  refine Cc (F := fun k => Du N p_0 k) h (α := Unit) (J := fun (_ : Unit) => (⟨[(1, .ptr 1 0)], [], [(1, some [.int p_0.g.n, .ro false (.pairs p_0.g.bars), .ro false (.ints p_0.ground)])]⟩ : PS)) ?_ ?_
  ·rintro ⟨⟩ h
   show VC _ _ _ (⟨[(1, .ptr 1 0)], [], [(1, some [.int p_0.g.n, .ro false (.pairs p_0.g.bars), .ro false (.ints p_0.ground)])]⟩ : PS)
   refine Ah ?_
   refine Aa ?_
   iterate 2 refine Ac tt rfl rfl rfl rfl rfl Tvv ?_
   obtain ⟨v9, hc1, h⟩ := Ai h
   refine Bm (S_l17Simple_w N p_0.g v9 hc1) rfl rfl rfl rfl rfl rfl rfl rfl ⟨⟨rfl, rfl, Tvv⟩, Tvv⟩ ?_
   refine Ac tt rfl rfl rfl rfl rfl Tvv ?_
   refine Dc rfl rfl rfl (fun hb2 => ?_) (fun hb2 => ?_)
   ·replace h := Ao hb2 h
    iterate 4 refine Cl tt rfl rfl rfl rfl rfl hb2 rfl rfl rfl Tvv ?_
    refine Eo rfl rfl rfl rfl rfl hb2 rfl ?_
    refine Ac tt rfl rfl rfl rfl rfl Tvv ?_
    refine Dc rfl rfl rfl (fun hb3 => ?_) (fun hb3 => ?_)
    ·replace h := Ao hb3 h
     iterate 5 refine Cl tt rfl rfl rfl rfl rfl hb3 rfl rfl rfl Tvv ?_
     refine Eo rfl rfl rfl rfl rfl hb3 rfl ?_
     refine Ac tt rfl rfl rfl rfl rfl Tvv ?_
     refine Dc rfl rfl rfl (fun hb4 => ?_) (fun hb4 => ?_)
     ·replace h := Ao hb4 h
      iterate 7 refine Cl tt rfl rfl rfl rfl rfl hb4 rfl rfl rfl Tvv ?_
      obtain ⟨hg5, h⟩ := Ab h
      refine Cl tt rfl rfl rfl rfl rfl hb4 rfl rfl rfl hg5 ?_
      obtain ⟨hg6, h⟩ := Ab h
      refine Cl tt rfl rfl rfl rfl rfl hb4 rfl rfl rfl hg6 ?_
      obtain ⟨hg7, h⟩ := Ab h
      refine Cl tt rfl rfl rfl rfl rfl hb4 rfl rfl rfl hg7 ?_
      refine Cl tt rfl rfl rfl rfl rfl hb4 rfl rfl rfl Tvv ?_
      refine Eo rfl rfl rfl rfl rfl hb4 rfl ?_
      refine Ac tt rfl rfl rfl rfl rfl Tvv ?_
      refine Af ?_
      change VC _ _ _ _
      refine Bh ?_
      change ∃ _, _
      cases h
      exact ⟨[], _, rfl, Tvv, rfl, (.eq rfl), rfl⟩
     replace h := Ap hb4 h
     iterate 11 refine Zf rfl rfl rfl rfl hb4 rfl rfl ?_
     refine Cv rfl rfl rfl rfl rfl hb4 rfl ?_
     refine Ac tt rfl rfl rfl rfl rfl Tvv ?_
     refine Af ?_
     change VC _ _ _ _
     refine Bh ?_
     change ∃ _, _
     cases h
     exact ⟨[], _, rfl, Tvv, rfl, (.eq rfl), rfl⟩
    replace h := Ap hb3 h
    iterate 5 refine Zf rfl rfl rfl rfl hb3 rfl rfl ?_
    refine Cv rfl rfl rfl rfl rfl hb3 rfl ?_
    refine Ac tt rfl rfl rfl rfl rfl Tvv ?_
    iterate 11 refine Zf rfl rfl rfl rfl rfl rfl rfl ?_
    refine Cv rfl rfl rfl rfl rfl rfl rfl ?_
    refine Ac tt rfl rfl rfl rfl rfl Tvv ?_
    refine Af ?_
    change VC _ _ _ _
    refine Bh ?_
    change ∃ _, _
    cases h
    exact ⟨[], _, rfl, Tvv, rfl, (.eq rfl), rfl⟩
   replace h := Ap hb2 h
   iterate 4 refine Zf rfl rfl rfl rfl hb2 rfl rfl ?_
   refine Cv rfl rfl rfl rfl rfl hb2 rfl ?_
   refine Ac tt rfl rfl rfl rfl rfl Tvv ?_
   iterate 5 refine Zf rfl rfl rfl rfl rfl rfl rfl ?_
   refine Cv rfl rfl rfl rfl rfl rfl rfl ?_
   refine Ac tt rfl rfl rfl rfl rfl Tvv ?_
   iterate 11 refine Zf rfl rfl rfl rfl rfl rfl rfl ?_
   refine Cv rfl rfl rfl rfl rfl rfl rfl ?_
   refine Ac tt rfl rfl rfl rfl rfl Tvv ?_
   refine Af ?_
   change VC _ _ _ _
   refine Bh ?_
   change ∃ _, _
   cases h
   exact ⟨[], _, rfl, Tvv, rfl, (.eq rfl), rfl⟩
  intro k h
  refine Ar ?_
  refine Ba (α := Int) (fun (i13 : Int) => (⟨[(1, .ptr 1 0), (4, .int i13)], [], [(1, some [.int p_0.g.n, .ro false (.pairs p_0.g.bars), .ro false (.ints p_0.ground)])]⟩ : PS)) (Du N p_0 k) h (En.of ⟨rfl, rfl, Tvv⟩ trivial ⟨rfl, Tvv⟩) (fun _ => rfl) ?_
  rintro n i13 h
  rw [Du] at h
  show VC _ _ _ (⟨[(1, .ptr 1 0), (4, .int i13)], [], [(1, some [.int p_0.g.n, .ro false (.pairs p_0.g.bars), .ro false (.ints p_0.ground)])]⟩ : PS)
  iterate 2 refine Ah ?_
  refine Aa ?_
  iterate 6 refine Ac tt rfl rfl rfl rfl rfl Tvv ?_
  refine Af ?_
  change VC _ _ _ _
  refine Av rfl (fun hb8 => ?_) (fun hb8 => ?_)
  ·replace h := Ao hb8 h
   refine Au ?_
   change VC _ _ _ _
   refine Ah ?_
   refine Ar ?_
   refine Ah ?_
   refine Ca (by kernel_rfl) (by kernel_rfl) ?_
   iterate 6 refine Bi tt rfl (Ag rfl) rfl rfl rfl Tvv ?_
   obtain ⟨hg9, h⟩ := Ab h
   refine Bi tt rfl (Ag rfl) rfl rfl rfl hg9 ?_
   iterate 2 refine Bi tt rfl (Ag rfl) rfl rfl rfl Tvv ?_
   obtain ⟨v16, hc10, h⟩ := Ai h
   refine Mq (Fg N p_0.ground ((p_0.g.bars.getD ((i13).toNat) (0, 0)).1) v16 hc10) rfl (Ag rfl) rfl rfl rfl rfl rfl rfl ⟨rfl, rfl, Tvv⟩ ?_
   refine Bi tt rfl (Ag rfl) rfl rfl rfl Tvv ?_
   refine Hr rfl rfl rfl (fun hb11 => ?_) (fun hb11 => ?_)
   ·replace h := Ao hb11 h
    iterate 6 refine Bi tt rfl (Be rfl rfl rfl rfl hb11) rfl rfl rfl Tvv ?_
    refine Bi tt rfl (Be rfl rfl rfl rfl hb11) rfl rfl rfl hg9 ?_
    iterate 2 refine Bi tt rfl (Be rfl rfl rfl rfl hb11) rfl rfl rfl Tvv ?_
    obtain ⟨v17, hc12, h⟩ := Ai h
    refine Mq (Fg N p_0.ground ((p_0.g.bars.getD ((i13).toNat) (0, 0)).2) v17 hc12) rfl (Be rfl rfl rfl rfl hb11) rfl rfl rfl rfl rfl rfl ⟨rfl, rfl, Tvv⟩ ?_
    refine Ek rfl (Ag rfl) rfl rfl rfl hb11 rfl ?_
    refine Lo ?_
    change VC _ _ _ _
    refine Av rfl (fun hb13 => ?_) (fun hb13 => ?_)
    ·replace h := Ao hb13 h
     refine Ah ?_
     refine Aa ?_
     refine Ac tt rfl rfl rfl rfl rfl Tvv ?_
     refine Af ?_
     change VC _ _ _ _
     refine Bh ?_
     change ∃ _, _
     cases h
     exact ⟨[], _, rfl, Tvv, rfl, (.eq rfl), rfl⟩
    replace h := Ap hb13 h
    refine Au ?_
    change VC _ _ _ _
    refine Aa ?_
    refine Ac tt rfl rfl rfl rfl rfl Tvv ?_
    obtain ⟨hg14, h⟩ := Ab h
    refine Ac tt rfl rfl rfl rfl rfl hg14 ?_
    refine Ac tt rfl rfl rfl rfl rfl Tvv ?_
    refine Af ?_
    change ∃ _, _
    exact ⟨(i13 + (1 : Int)), (En.of ⟨rfl, rfl, Tvv⟩ trivial ⟨rfl, Tvv⟩), h⟩
   replace h := Ap hb11 h
   iterate 10 refine cNoT rfl rfl rfl rfl hb11 rfl rfl ?_
   refine Gt rfl (Ag rfl) rfl rfl rfl hb11 rfl ?_
   refine Lo ?_
   change VC _ _ _ _
   refine Gw rfl rfl ?_
   refine Au ?_
   change VC _ _ _ _
   refine Aa ?_
   refine Ac tt rfl rfl rfl rfl rfl Tvv ?_
   obtain ⟨hg15, h⟩ := Ab h
   refine Ac tt rfl rfl rfl rfl rfl hg15 ?_
   refine Ac tt rfl rfl rfl rfl rfl Tvv ?_
   refine Af ?_
   change ∃ _, _
   exact ⟨(i13 + (1 : Int)), (En.of ⟨rfl, rfl, Tvv⟩ trivial ⟨rfl, Tvv⟩), h⟩
  replace h := Ap hb8 h
  refine Bl ?_
  change ∃ _, _
  exact ⟨(), (En.of ⟨rfl, Tvv⟩ trivial ⟨rfl, Tvv⟩), h⟩
 intro k h
 refine Ar ?_
 refine Ba (α := Int) (fun (i19 : Int) => (⟨[(1, .ptr 1 0), (3, .int i19)], [], [(1, some [.int p_0.g.n, .ro false (.pairs p_0.g.bars), .ro false (.ints p_0.ground)])]⟩ : PS)) (Dx N p_0 k) h (En.of ⟨rfl, rfl, Tvv⟩ trivial ⟨rfl, Tvv⟩) (fun _ => rfl) ?_
 rintro n i19 h
 rw [Dx] at h
 show VC _ _ _ (⟨[(1, .ptr 1 0), (3, .int i19)], [], [(1, some [.int p_0.g.n, .ro false (.pairs p_0.g.bars), .ro false (.ints p_0.ground)])]⟩ : PS)
 iterate 2 refine Ah ?_
 refine Aa ?_
 iterate 5 refine Ac tt rfl rfl rfl rfl rfl Tvv ?_
 refine Af ?_
 change VC _ _ _ _
 refine Av rfl (fun hb16 => ?_) (fun hb16 => ?_)
 ·replace h := Ao hb16 h
  refine Au ?_
  change VC _ _ _ _
  refine Ah ?_
  refine Ar ?_
  refine Ah ?_
  refine Ca (by kernel_rfl) (by kernel_rfl) ?_
  iterate 3 refine Bi tt rfl (Ag rfl) rfl rfl rfl Tvv ?_
  obtain ⟨hg17, h⟩ := Ab h
  refine Bi tt rfl (Ag rfl) rfl rfl rfl hg17 ?_
  iterate 3 refine Bi tt rfl (Ag rfl) rfl rfl rfl Tvv ?_
  refine Hr rfl rfl rfl (fun hb18 => ?_) (fun hb18 => ?_)
  ·replace h := Ao hb18 h
   iterate 9 refine Ww rfl rfl rfl rfl hb18 rfl rfl ?_
   refine Ek rfl (Ag rfl) rfl rfl rfl hb18 rfl ?_
   refine Bi tt rfl (Ag rfl) rfl rfl rfl Tvv ?_
   iterate 3 refine Ww rfl rfl rfl rfl rfl rfl rfl ?_
   iterate 12 refine cNoU rfl rfl rfl rfl rfl ?_
   refine Ww rfl rfl rfl rfl rfl rfl rfl ?_
   refine Ek rfl (Ag rfl) rfl rfl rfl rfl rfl ?_
   refine Lo ?_
   change VC _ _ _ _
   refine Ev rfl rfl ?_
   refine Ah ?_
   refine Aa ?_
   refine Ac tt rfl rfl rfl rfl rfl Tvv ?_
   refine Af ?_
   change VC _ _ _ _
   refine Bh ?_
   change ∃ _, _
   cases h
   exact ⟨[], _, rfl, Tvv, rfl, (.eq rfl), rfl⟩
  replace h := Ap hb18 h
  iterate 3 refine Bi tt rfl (Be rfl rfl rfl rfl hb18) rfl rfl rfl Tvv ?_
  refine Bi tt rfl (Be rfl rfl rfl rfl hb18) rfl rfl rfl hg17 ?_
  iterate 5 refine Bi tt rfl (Be rfl rfl rfl rfl hb18) rfl rfl rfl Tvv ?_
  refine Gt rfl (Ag rfl) rfl rfl rfl hb18 rfl ?_
  refine Bi tt rfl (Ag rfl) rfl rfl rfl Tvv ?_
  refine Hr rfl rfl rfl (fun hb19 => ?_) (fun hb19 => ?_)
  ·replace h := Ao hb19 h
   iterate 3 refine Ww rfl rfl rfl rfl hb19 rfl rfl ?_
   iterate 12 refine cNoU rfl rfl rfl rfl rfl ?_
   refine Ww rfl rfl rfl rfl hb19 rfl rfl ?_
   refine Ek rfl (Ag rfl) rfl rfl rfl hb19 rfl ?_
   refine Lo ?_
   change VC _ _ _ _
   refine Ev rfl rfl ?_
   refine Ah ?_
   refine Aa ?_
   refine Ac tt rfl rfl rfl rfl rfl Tvv ?_
   refine Af ?_
   change VC _ _ _ _
   refine Bh ?_
   change ∃ _, _
   cases h
   exact ⟨[], _, rfl, Tvv, rfl, (.eq rfl), rfl⟩
  replace h := Ap hb19 h
  iterate 3 refine Bi tt rfl (Be rfl rfl rfl rfl hb19) rfl rfl rfl Tvv ?_
  refine Hr rfl rfl rfl (fun hb20 => ?_) (fun hb20 => ?_)
  ·replace h := Ao hb20 h
   iterate 3 refine Bi tt rfl (Be rfl rfl rfl rfl hb20) rfl rfl rfl Tvv ?_
   obtain ⟨hg21, h⟩ := Ab h
   refine Bi tt rfl (Be rfl rfl rfl rfl hb20) rfl rfl rfl hg21 ?_
   obtain ⟨hg22, h⟩ := Ab h
   refine Bi tt rfl (Be rfl rfl rfl rfl hb20) rfl rfl rfl hg22 ?_
   iterate 4 refine Bi tt rfl (Be rfl rfl rfl rfl hb20) rfl rfl rfl Tvv ?_
   refine Bi tt rfl (Be rfl rfl rfl rfl hb20) rfl rfl rfl hg17 ?_
   iterate 2 refine Bi tt rfl (Be rfl rfl rfl rfl hb20) rfl rfl rfl Tvv ?_
   refine Ek rfl (Be rfl rfl rfl rfl hb19) rfl rfl rfl hb20 rfl ?_
   refine Gt rfl (Ag rfl) rfl rfl rfl hb19 rfl ?_
   refine Lo ?_
   change VC _ _ _ _
   refine Av rfl (fun hb23 => ?_) (fun hb23 => ?_)
   ·replace h := Ao hb23 h
    refine Ah ?_
    refine Aa ?_
    refine Ac tt rfl rfl rfl rfl rfl Tvv ?_
    refine Af ?_
    change VC _ _ _ _
    refine Bh ?_
    change ∃ _, _
    cases h
    exact ⟨[], _, rfl, Tvv, rfl, (.eq rfl), rfl⟩
   replace h := Ap hb23 h
   refine Au ?_
   change VC _ _ _ _
   refine Aa ?_
   refine Ac tt rfl rfl rfl rfl rfl Tvv ?_
   obtain ⟨hg24, h⟩ := Ab h
   refine Ac tt rfl rfl rfl rfl rfl hg24 ?_
   refine Ac tt rfl rfl rfl rfl rfl Tvv ?_
   refine Af ?_
   change ∃ _, _
   exact ⟨(i19 + (1 : Int)), (En.of ⟨rfl, rfl, Tvv⟩ trivial ⟨rfl, Tvv⟩), h⟩
  replace h := Ap hb20 h
  iterate 12 refine cNoT rfl rfl rfl rfl hb20 rfl rfl ?_
  refine Gt rfl (Be rfl rfl rfl rfl hb19) rfl rfl rfl hb20 rfl ?_
  refine Gt rfl (Ag rfl) rfl rfl rfl hb19 rfl ?_
  refine Lo ?_
  change VC _ _ _ _
  refine Gw rfl rfl ?_
  refine Au ?_
  change VC _ _ _ _
  refine Aa ?_
  refine Ac tt rfl rfl rfl rfl rfl Tvv ?_
  obtain ⟨hg25, h⟩ := Ab h
  refine Ac tt rfl rfl rfl rfl rfl hg25 ?_
  refine Ac tt rfl rfl rfl rfl rfl Tvv ?_
  refine Af ?_
  change ∃ _, _
  exact ⟨(i19 + (1 : Int)), (En.of ⟨rfl, rfl, Tvv⟩ trivial ⟨rfl, Tvv⟩), h⟩
 replace h := Ap hb16 h
 refine Bl ?_
 change ∃ _, _
 exact ⟨(), (En.of ⟨rfl, Tvv⟩ trivial ⟨rfl, Tvv⟩), h⟩
def Ch (N : Nat) (p_0 : Pin) (k : (List Int) → Option (List Int)) : Nat → ((List Int) × Int) → Option (List Int)
 | 0, _ => none
 | n + 1, (l17, i18) =>
  cnd (decide (i18 < p_0.g.n)) (
   (Jd N p_0).bind fun v21 =>
   cnd v21 (
    (Fc N p_0.ground i18).bind fun v22 =>
    cnd (!v22) (
     grd (l17.length + 1 ≤ 4294967296) <|
     grd (Bk (i18 + (1 : Int))) <|
     Ch N p_0 k n ((l17 ++ ([i18] : List Int)), (i18 + (1 : Int)))) (
     grd (Bk (i18 + (1 : Int))) <|
     Ch N p_0 k n (l17, (i18 + (1 : Int))))) (
    k l17)) (
   k l17)
def Gg (N : Nat) (p_0 : Pin) : Option (List Int) :=
 Ch N p_0 (fun (l11 : List Int) =>
    some l11) N (([] : List Int), (0 : Int))
theorem Pp (N : Nat) (p_0 : Pin) (r : List Int) (h : Gg N p_0 = some r) : PCall Try.prog 85 [pD p_0] [(3, .ints r)] (.row 0 0 r.length) := by
 unfold Gg at h
 refine Aj (TT := TT) tt Try.func85 rfl rfl Try.ntmps85 (congrArg Array.toList Try.results85) rfl rfl fun w0 => ?_
 refine Ah ?_
 refine Aa ?_
 refine Jc rfl rfl rfl rfl rfl rfl rfl rfl rfl ?_
 refine Ac tt rfl rfl rfl rfl rfl Tvv ?_
 refine Af ?_
 change VC _ _ _ _
 refine Ah ?_
 refine Aa ?_
 refine Gx tt (Ag rfl) rfl rfl rfl rfl ?_
 refine Ac tt rfl rfl rfl rfl rfl Tvv ?_
 refine Af ?_
 change VC _ _ _ _
 iterate 2 refine Ah ?_
 refine Aa ?_
 refine Ac tt rfl rfl rfl rfl rfl Tvv ?_
 refine Af ?_
 change VC _ _ _ _
 refine Cc (F := fun k => Ch N p_0 k) h (α := List Int) (J := fun (l11 : List Int) => (⟨[(3, .row 25 0 l11.length)], [(25, some (3, .ints l11))], []⟩ : PS)) ?_ ?_
 ·rintro l11 h
  show VC _ _ _ (⟨[(3, .row 25 0 l11.length)], [(25, some (3, .ints l11))], []⟩ : PS)
  refine Ah ?_
  refine Aa ?_
  iterate 2 refine Ac tt rfl rfl rfl rfl rfl Tvv ?_
  refine Af ?_
  change VC _ _ _ _
  refine Bh ?_
  change ∃ _, _
  cases h
  exact ⟨[25], _, rfl, ⟨rfl, Tvv⟩, rfl, (.eq rfl), rfl⟩
 intro k h
 refine Ar ?_
 refine Lp 3 25 3 (.ints []) rfl rfl rfl rfl ?_
 refine Ba (α := (List Int) × Int) (fun | (l17, i18) => (⟨[(1, .ptr 1 0), (3, .row 25 0 l17.length), (4, .int i18)], [(25, some (3, .ints l17))], [(1, some [.int p_0.g.n, .ro false (.pairs p_0.g.bars), .ro false (.ints p_0.ground)])]⟩ : PS)) (Ch N p_0 k) h (En.of ⟨rfl, rfl, rfl, Tvv⟩ ⟨rfl, Tvv⟩ ⟨rfl, Tvv⟩) (fun _ => rfl) ?_
 rintro n ⟨l17, i18⟩ h
 rw [Ch] at h
 show VC _ _ _ (⟨[(1, .ptr 1 0), (3, .row 25 0 l17.length), (4, .int i18)], [(25, some (3, .ints l17))], [(1, some [.int p_0.g.n, .ro false (.pairs p_0.g.bars), .ro false (.ints p_0.ground)])]⟩ : PS)
 iterate 2 refine Ah ?_
 refine Aa ?_
 iterate 6 refine Ac tt rfl rfl rfl rfl rfl Tvv ?_
 refine Dc rfl rfl rfl (fun hb1 => ?_) (fun hb1 => ?_)
 ·replace h := Ao hb1 h
  refine Cl tt rfl rfl rfl rfl rfl hb1 rfl rfl rfl Tvv ?_
  obtain ⟨v21, hc2, h⟩ := Ai h
  refine Qm (Qn N p_0 v21 hc2) rfl rfl rfl rfl hb1 rfl rfl rfl rfl rfl rfl rfl ⟨⟨rfl, rfl, rfl, Tvv⟩, Tvv⟩ ?_
  refine Eo rfl rfl rfl rfl rfl hb1 rfl ?_
  refine Af ?_
  change VC _ _ _ _
  refine Av rfl (fun hb3 => ?_) (fun hb3 => ?_)
  ·replace h := Ao hb3 h
   refine Au ?_
   change VC _ _ _ _
   refine Ah ?_
   refine Ar ?_
   refine Ah ?_
   refine Aa ?_
   iterate 3 refine Ac tt rfl rfl rfl rfl rfl Tvv ?_
   obtain ⟨v22, hc4, h⟩ := Ai h
   refine Bm (Fg N p_0.ground i18 v22 hc4) rfl rfl rfl rfl rfl rfl rfl rfl ⟨rfl, rfl, Tvv⟩ ?_
   refine Ac tt rfl rfl rfl rfl rfl Tvv ?_
   refine Af ?_
   change VC _ _ _ _
   refine Av rfl (fun hb5 => ?_) (fun hb5 => ?_)
   ·replace h := Ao hb5 h
    refine Aa ?_
    iterate 2 refine Ac tt rfl rfl rfl rfl rfl Tvv ?_
    refine Dt tt rfl rfl rfl rfl rfl rfl rfl rfl rfl rfl rfl ?_
    obtain ⟨hg6, h⟩ := Ab h
    refine Cp tt rfl rfl rfl rfl rfl rfl rfl rfl rfl rfl rfl rfl rfl rfl rfl rfl (Nat.le_of_eq (Nat.zero_add _)) hg6 ?_
    refine Ac tt rfl rfl rfl rfl rfl Tvv ?_
    refine Af ?_
    change VC _ _ _ _
    refine Aa ?_
    refine Ac tt rfl rfl rfl rfl rfl Tvv ?_
    obtain ⟨hg7, h⟩ := Ab h
    refine Ac tt rfl rfl rfl rfl rfl hg7 ?_
    refine Ac tt rfl rfl rfl rfl rfl Tvv ?_
    refine Af ?_
    change ∃ _, _
    exact ⟨((l17 ++ ([i18] : List Int)), (i18 + (1 : Int))), (En.of ⟨rfl, rfl, rfl, Tvv⟩ ⟨rfl, Tvv⟩ ⟨rfl, Tvv⟩), h⟩
   replace h := Ap hb5 h
   refine Au ?_
   change VC _ _ _ _
   refine Aa ?_
   refine Ac tt rfl rfl rfl rfl rfl Tvv ?_
   obtain ⟨hg8, h⟩ := Ab h
   refine Ac tt rfl rfl rfl rfl rfl hg8 ?_
   refine Ac tt rfl rfl rfl rfl rfl Tvv ?_
   refine Af ?_
   change ∃ _, _
   exact ⟨(l17, (i18 + (1 : Int))), (En.of ⟨rfl, rfl, rfl, Tvv⟩ ⟨rfl, Tvv⟩ ⟨rfl, Tvv⟩), h⟩
  replace h := Ap hb3 h
  refine Bl ?_
  change ∃ _, _
  exact ⟨l17, (En.of ⟨rfl, Tvv⟩ ⟨rfl, Tvv⟩ trivial), h⟩
 replace h := Ap hb1 h
 iterate 2 refine Zf rfl rfl rfl rfl hb1 rfl rfl ?_
 refine Cv rfl rfl rfl rfl rfl hb1 rfl ?_
 refine Af ?_
 change VC _ _ _ _
 refine Gw rfl rfl ?_
 refine Bl ?_
 change ∃ _, _
 exact ⟨l17, (En.of ⟨rfl, Tvv⟩ ⟨rfl, Tvv⟩ trivial), h⟩
def Ho (N : Nat) (a_0 : Pin) : Option (Pin) :=
 (Pq N a_0.g).bind fun v1 =>
 (Tk N a_0.ground).bind fun v2 =>
 some (⟨⟨v1.n, v1.bars⟩, v2⟩ : Pin)
theorem Ls (N : Nat) (a_0 : Pin) (r : Pin) (h : Ho N a_0 = some r) : PCall Try.prog 19 [pD a_0] [(113, .pairs r.g.bars), (3, .ints r.ground)] (.agg [.int r.g.n, .row 0 0 r.g.bars.length, .row 1 0 r.ground.length]) := by
 unfold Ho at h
 refine Aj (TT := TT) tt Try.func19 rfl rfl Try.ntmps19 (congrArg Array.toList Try.results19) rfl rfl fun w0 => ?_
 refine Ah ?_
 refine Aa ?_
 refine Jc rfl rfl rfl rfl rfl rfl rfl rfl rfl ?_
 refine Cy tt rfl rfl rfl rfl rfl rfl rfl rfl rfl ?_
 refine Af ?_
 change VC _ _ _ _
 refine Ah ?_
 refine Aa ?_
 refine Cy tt rfl rfl rfl rfl rfl rfl rfl rfl rfl ?_
 refine Af ?_
 change VC _ _ _ _
 refine Ah ?_
 refine Aa ?_
 iterate 2 refine Ac tt rfl rfl rfl rfl rfl Tvv ?_
 obtain ⟨v1, hc1, h⟩ := Ai h
 refine Bm (L_toGraph_w N a_0.g v1 hc1) rfl rfl rfl rfl rfl rfl rfl rfl ⟨⟨rfl, rfl, Tvv⟩, Tvv⟩ ?_
 refine Ac tt rfl rfl rfl rfl rfl Tvv ?_
 refine Ax tt rfl rfl rfl rfl rfl rfl rfl rfl rfl rfl rfl ⟨Tvv, Tvv, Tvv⟩ ?_
 refine Af ?_
 change VC _ _ _ _
 refine Ah ?_
 refine Aa ?_
 iterate 2 refine Ac tt rfl rfl rfl rfl rfl Tvv ?_
 obtain ⟨v2, hc2, h⟩ := Ai h
 refine Bm (L_toIntS_w N a_0.ground v2 hc2) rfl rfl rfl rfl rfl rfl rfl rfl ⟨rfl, Tvv⟩ ?_
 refine Ac tt rfl rfl rfl rfl rfl Tvv ?_
 refine Ax tt rfl rfl rfl rfl rfl rfl rfl rfl rfl rfl rfl ⟨Tvv, Tvv⟩ ?_
 refine Af ?_
 change VC _ _ _ _
 refine Ah ?_
 refine Aa ?_
 refine Ac tt rfl rfl rfl rfl rfl Tvv ?_
 refine Ax tt rfl rfl rfl rfl rfl rfl rfl rfl rfl rfl rfl ⟨Tvv, Tvv, Tvv, Tvv⟩ ?_
 refine Af ?_
 change VC _ _ _ _
 refine Bh ?_
 change ∃ _, _
 cases h
 exact ⟨[1060, 1100], _, rfl, ⟨rfl, rfl, Tvv⟩, rfl, (.eq rfl), rfl⟩
def Ec (N : Nat) (s_0 : List Int) (v_1 : Int) (k : Unit → Option (Int)) : Nat → Int → Option (Int)
 | 0, _ => none
 | n + 1, x3 =>
  cnd (decide (x3 < (s_0.length : Int))) (
   grd (0 ≤ x3 ∧ x3 < (s_0.length : Int)) <|
   cnd (v_1 == (s_0.getD ((x3).toNat) 0)) (
    some x3) (
    grd (Bk (x3 + (1 : Int))) <|
    Ec N s_0 v_1 k n (x3 + (1 : Int)))) (
   k ())
def Pb (N : Nat) (s_0 : List Int) (v_1 : Int) : Option (Int) :=
 Ec N s_0 v_1 (fun (_ : Unit) =>
    some (-1 : Int)) N (0 : Int)
theorem G_Index_int_w (N : Nat) (s_0 : List Int) (v_1 : Int) (r : Int) (h : Pb N s_0 v_1 = some r) : PCall Try.prog 92 [.ro false (.ints s_0), .int v_1] [] (.int r) := by
 unfold Pb at h
 refine Aj (TT := TT) tt Try.func92 rfl rfl Try.ntmps92 (congrArg Array.toList Try.results92) rfl rfl fun w0 => ?_
 refine Ah ?_
 refine Aa ?_
 refine Ac tt rfl rfl rfl rfl rfl Tvv ?_
 refine Af ?_
 change VC _ _ _ _
 iterate 2 refine Ah ?_
 refine Aa ?_
 iterate 3 refine Ac tt rfl rfl rfl rfl rfl Tvv ?_
 refine Af ?_
 change VC _ _ _ _
 refine Cc (F := fun k => Ec N s_0 v_1 k) h (α := Unit) (J := fun (_ : Unit) => (⟨[], [], []⟩ : PS)) ?_ ?_
 ·rintro ⟨⟩ h
  show VC _ _ _ (⟨[], [], []⟩ : PS)
  refine Ah ?_
  refine Aa ?_
  refine Ac tt rfl rfl rfl rfl rfl Tvv ?_
  refine Af ?_
  change VC _ _ _ _
  refine Bh ?_
  change ∃ _, _
  cases h
  exact ⟨[], _, rfl, Tvv, rfl, (.eq rfl), rfl⟩
 intro k h
 refine Ar ?_
 refine Ba (α := Int) (fun (x3 : Int) => (⟨[(0, .ro false (.ints s_0)), (1, .int v_1), (7, .int (s_0.length : Int)), (8, .int x3)], [], []⟩ : PS)) (Ec N s_0 v_1 k) h (En.of ⟨rfl, rfl, rfl, rfl, Tvv⟩ trivial trivial) (fun _ => rfl) ?_
 rintro n x3 h
 rw [Ec] at h
 show VC _ _ _ (⟨[(0, .ro false (.ints s_0)), (1, .int v_1), (7, .int (s_0.length : Int)), (8, .int x3)], [], []⟩ : PS)
 refine Ah ?_
 refine Aa ?_
 refine Ac tt rfl rfl rfl rfl rfl Tvv ?_
 refine Af ?_
 change VC _ _ _ _
 refine Ah ?_
 refine Av rfl (fun hb1 => ?_) (fun hb1 => ?_)
 ·replace h := Ao hb1 h
  refine Au ?_
  change VC _ _ _ _
  refine Ah ?_
  refine Ar ?_
  refine Ah ?_
  refine Aa ?_
  iterate 2 refine Ac tt rfl rfl rfl rfl rfl Tvv ?_
  refine Af ?_
  change VC _ _ _ _
  refine Ah ?_
  refine Aa ?_
  iterate 3 refine Ac tt rfl rfl rfl rfl rfl Tvv ?_
  obtain ⟨hg2, h⟩ := Ab h
  refine Ac tt rfl rfl rfl rfl rfl hg2 ?_
  iterate 2 refine Ac tt rfl rfl rfl rfl rfl Tvv ?_
  refine Af ?_
  change VC _ _ _ _
  refine Av rfl (fun hb3 => ?_) (fun hb3 => ?_)
  ·replace h := Ao hb3 h
   refine Ah ?_
   refine Aa ?_
   iterate 2 refine Ac tt rfl rfl rfl rfl rfl Tvv ?_
   refine Af ?_
   change VC _ _ _ _
   refine Bh ?_
   change ∃ _, _
   cases h
   exact ⟨[], _, rfl, Tvv, rfl, (.eq rfl), rfl⟩
  replace h := Ap hb3 h
  refine Au ?_
  change VC _ _ _ _
  refine Aa ?_
  obtain ⟨hg4, h⟩ := Ab h
  refine Ac tt rfl rfl rfl rfl rfl hg4 ?_
  refine Ac tt rfl rfl rfl rfl rfl Tvv ?_
  refine Af ?_
  change ∃ _, _
  exact ⟨(x3 + (1 : Int)), (En.of ⟨rfl, rfl, rfl, rfl, Tvv⟩ trivial trivial), h⟩
 replace h := Ap hb1 h
 refine Bl ?_
 change ∃ _, _
 exact ⟨(), (En.of trivial trivial trivial), h⟩
end Go.Proofs.Ytkklfgcelmeccaa
namespace Go.Proofs.Ytkklfgcelmeccaa
open Go.RowKit
def Co (N : Nat) (s_0 : List Int) (v_1 : Int) : Option (Bool) :=
 (Pb N s_0 v_1).bind fun v1 =>
 some (decide (v1 ≥ (0 : Int)))
theorem Ds (N : Nat) (s_0 : List Int) (v_1 : Int) (r : Bool) (h : Co N s_0 v_1 = some r) : PCall Try.prog 59 [.ro false (.ints s_0), .int v_1] [] (.bool r) := by
 unfold Co at h
 refine Aj (TT := TT) tt Try.func59 rfl rfl Try.ntmps59 (congrArg Array.toList Try.results59) rfl rfl fun w0 => ?_
 refine Ah ?_
 refine Aa ?_
 refine Ac tt rfl rfl rfl rfl rfl Tvv ?_
 refine Af ?_
 change VC _ _ _ _
 refine Ah ?_
 refine Aa ?_
 iterate 2 refine Ac tt rfl rfl rfl rfl rfl Tvv ?_
 obtain ⟨v1, hc1, h⟩ := Ai h
 refine Bm (G_Index_int_w N s_0 v_1 v1 hc1) rfl rfl rfl rfl rfl rfl rfl rfl ⟨rfl, rfl, Tvv⟩ ?_
 iterate 2 refine Ac tt rfl rfl rfl rfl rfl Tvv ?_
 refine Af ?_
 change VC _ _ _ _
 refine Bh ?_
 change ∃ _, _
 cases h
 exact ⟨[], _, rfl, Tvv, rfl, (.eq rfl), rfl⟩
def Dy (N : Nat) (p_0 : Pin) (k : Unit → Option (Bool)) : Nat → Int → Option (Bool)
 | 0, _ => none
 | n + 1, x17 =>
  cnd (decide (x17 < (p_0.g.bars.length : Int))) (
   grd (0 ≤ x17 ∧ x17 < (p_0.g.bars.length : Int)) <|
   (Co N p_0.ground ((p_0.g.bars.getD ((x17).toNat) (0, 0)).1)).bind fun v20 =>
   cnd v20 (
    (Co N p_0.ground ((p_0.g.bars.getD ((x17).toNat) (0, 0)).2)).bind fun v21 =>
    cnd v21 (
     some false) (
     grd (Bk (x17 + (1 : Int))) <|
     Dy N p_0 k n (x17 + (1 : Int)))) (
    grd (Bk (x17 + (1 : Int))) <|
    Dy N p_0 k n (x17 + (1 : Int)))) (
   k ())
def Dv (N : Nat) (p_0 : Pin) (k : Unit → Option (Bool)) : Nat → Int → Option (Bool)
 | 0, _ => none
 | n + 1, x24 =>
  cnd (decide (x24 < (p_0.ground.length : Int))) (
   grd (0 ≤ x24 ∧ x24 < (p_0.ground.length : Int)) <|
   (Jl N p_0.g (p_0.ground.getD ((x24).toNat) 0)).bind fun v26 =>
   cnd (!v26) (
    some false) (
    cnd (decide (x24 > (0 : Int))) (
     grd (Bk (x24 - (1 : Int))) <|
     grd (0 ≤ (x24 - (1 : Int)) ∧ (x24 - (1 : Int)) < (p_0.ground.length : Int)) <|
     cnd (decide ((p_0.ground.getD (((x24 - (1 : Int))).toNat) 0) ≥ (p_0.ground.getD ((x24).toNat) 0))) (
      some false) (
      grd (Bk (x24 + (1 : Int))) <|
      Dv N p_0 k n (x24 + (1 : Int)))) (
     grd (Bk (x24 + (1 : Int))) <|
     Dv N p_0 k n (x24 + (1 : Int))))) (
   k ())
def Jj (N : Nat) (p_0 : Pin) : Option (Bool) :=
 (Qk N p_0.g).bind fun v1 =>
 cnd (!v1) (
  some false) (
  (Js N p_0.g).bind fun v2 =>
  cnd v2 (
   some false) (
   cnd (decide ((p_0.ground.length : Int) < (2 : Int))) (
    some false) (
    cnd (decide ((p_0.g.bars.length : Int) > (15 : Int))) (
     some false) (
     grd (Bk ((2 : Int) * (p_0.ground.length : Int))) <|
     grd (Bk ((p_0.g.bars.length : Int) + ((2 : Int) * (p_0.ground.length : Int)))) <|
     grd (Bk (((p_0.g.bars.length : Int) + ((2 : Int) * (p_0.ground.length : Int))) - (3 : Int))) <|
     cnd (decide ((((p_0.g.bars.length : Int) + ((2 : Int) * (p_0.ground.length : Int))) - (3 : Int)) > (24 : Int))) (
      some false) (
      Dv N p_0 (fun (_ : Unit) =>
         Dy N p_0 (fun (_ : Unit) =>
            some true) N (0 : Int)) N (0 : Int))))))
theorem Pz (N : Nat) (p_0 : Pin) (r : Bool) (h : Jj N p_0 = some r) : PCall Try.prog 115 [pD p_0] [] (.bool r) := by
 unfold Jj at h
 refine Aj (TT := TT) tt Try.func115 rfl rfl Try.ntmps115 (congrArg Array.toList Try.results115) rfl rfl fun w0 => ?_
 refine Ah ?_
 refine Aa ?_
 refine Jc rfl rfl rfl rfl rfl rfl rfl rfl rfl ?_
 refine Ac tt rfl rfl rfl rfl rfl Tvv ?_
 refine Af ?_
 change VC _ _ _ _
 refine Ah ?_
 refine Aa ?_
 iterate 2 refine Ac tt rfl rfl rfl rfl rfl Tvv ?_
 refine Cy tt rfl rfl rfl rfl rfl rfl rfl rfl rfl ?_
 refine Ax tt rfl rfl rfl rfl rfl rfl rfl rfl rfl rfl rfl ⟨Tvv, Tvv, Tvv⟩ ?_
 refine Af ?_
 change VC _ _ _ _
 iterate 2 refine Ah ?_
 refine Aa ?_
 refine Ac tt rfl rfl rfl rfl rfl Tvv ?_
 obtain ⟨v1, hc1, h⟩ := Ai h
 refine Bm (I_IsGraph_w N p_0.g v1 hc1) rfl rfl rfl rfl rfl rfl rfl rfl ⟨⟨rfl, rfl, Tvv⟩, Tvv⟩ ?_
 iterate 2 refine Ac tt rfl rfl rfl rfl rfl Tvv ?_
 refine Dc rfl rfl rfl (fun hb2 => ?_) (fun hb2 => ?_)
 ·replace h := Ao hb2 h
  iterate 2 refine Tv rfl rfl rfl rfl hb2 rfl rfl ?_
  refine Eo rfl rfl rfl rfl rfl hb2 rfl ?_
  refine Ac tt rfl rfl rfl rfl rfl Tvv ?_
  iterate 4 refine Tv rfl rfl rfl rfl rfl rfl rfl ?_
  refine Eo rfl rfl rfl rfl rfl rfl rfl ?_
  refine Ac tt rfl rfl rfl rfl rfl Tvv ?_
  iterate 4 refine Tv rfl rfl rfl rfl rfl rfl rfl ?_
  refine Eo rfl rfl rfl rfl rfl rfl rfl ?_
  refine Ac tt rfl rfl rfl rfl rfl Tvv ?_
  iterate 10 refine Tv rfl rfl rfl rfl rfl rfl rfl ?_
  refine Eo rfl rfl rfl rfl rfl rfl rfl ?_
  refine Af ?_
  change VC _ _ _ _
  refine Ev rfl rfl ?_
  refine Ah ?_
  refine Aa ?_
  refine Ac tt rfl rfl rfl rfl rfl Tvv ?_
  refine Af ?_
  change VC _ _ _ _
  refine Bh ?_
  change ∃ _, _
  cases h
  exact ⟨[], _, rfl, Tvv, rfl, (.eq rfl), rfl⟩
 replace h := Ap hb2 h
 refine Cl tt rfl rfl rfl rfl rfl hb2 rfl rfl rfl Tvv ?_
 obtain ⟨v2, hc3, h⟩ := Ai h
 refine Qm (Zj N p_0.g v2 hc3) rfl rfl rfl rfl hb2 rfl rfl rfl rfl rfl rfl rfl ⟨⟨rfl, rfl, Tvv⟩, Tvv⟩ ?_
 refine Cv rfl rfl rfl rfl rfl hb2 rfl ?_
 refine Ac tt rfl rfl rfl rfl rfl Tvv ?_
 refine Dc rfl rfl rfl (fun hb4 => ?_) (fun hb4 => ?_)
 ·replace h := Ao hb4 h
  iterate 4 refine Tv rfl rfl rfl rfl hb4 rfl rfl ?_
  refine Eo rfl rfl rfl rfl rfl hb4 rfl ?_
  refine Ac tt rfl rfl rfl rfl rfl Tvv ?_
  iterate 4 refine Tv rfl rfl rfl rfl rfl rfl rfl ?_
  refine Eo rfl rfl rfl rfl rfl rfl rfl ?_
  refine Ac tt rfl rfl rfl rfl rfl Tvv ?_
  iterate 10 refine Tv rfl rfl rfl rfl rfl rfl rfl ?_
  refine Eo rfl rfl rfl rfl rfl rfl rfl ?_
  refine Af ?_
  change VC _ _ _ _
  refine Ev rfl rfl ?_
  refine Ah ?_
  refine Aa ?_
  refine Ac tt rfl rfl rfl rfl rfl Tvv ?_
  refine Af ?_
  change VC _ _ _ _
  refine Bh ?_
  change ∃ _, _
  cases h
  exact ⟨[], _, rfl, Tvv, rfl, (.eq rfl), rfl⟩
 replace h := Ap hb4 h
 iterate 4 refine Cl tt rfl rfl rfl rfl rfl hb4 rfl rfl rfl Tvv ?_
 refine Cv rfl rfl rfl rfl rfl hb4 rfl ?_
 refine Ac tt rfl rfl rfl rfl rfl Tvv ?_
 refine Dc rfl rfl rfl (fun hb5 => ?_) (fun hb5 => ?_)
 ·replace h := Ao hb5 h
  iterate 4 refine Tv rfl rfl rfl rfl hb5 rfl rfl ?_
  refine Eo rfl rfl rfl rfl rfl hb5 rfl ?_
  refine Ac tt rfl rfl rfl rfl rfl Tvv ?_
  iterate 10 refine Tv rfl rfl rfl rfl rfl rfl rfl ?_
  refine Eo rfl rfl rfl rfl rfl rfl rfl ?_
  refine Af ?_
  change VC _ _ _ _
  refine Ev rfl rfl ?_
  refine Ah ?_
  refine Aa ?_
  refine Ac tt rfl rfl rfl rfl rfl Tvv ?_
  refine Af ?_
  change VC _ _ _ _
  refine Bh ?_
  change ∃ _, _
  cases h
  exact ⟨[], _, rfl, Tvv, rfl, (.eq rfl), rfl⟩
 replace h := Ap hb5 h
 iterate 4 refine Cl tt rfl rfl rfl rfl rfl hb5 rfl rfl rfl Tvv ?_
 refine Cv rfl rfl rfl rfl rfl hb5 rfl ?_
 refine Ac tt rfl rfl rfl rfl rfl Tvv ?_
 refine Dc rfl rfl rfl (fun hb6 => ?_) (fun hb6 => ?_)
 ·replace h := Ao hb6 h
  iterate 10 refine Tv rfl rfl rfl rfl hb6 rfl rfl ?_
  refine Eo rfl rfl rfl rfl rfl hb6 rfl ?_
  refine Af ?_
  change VC _ _ _ _
  refine Ev rfl rfl ?_
  refine Ah ?_
  refine Aa ?_
  refine Ac tt rfl rfl rfl rfl rfl Tvv ?_
  refine Af ?_
  change VC _ _ _ _
  refine Bh ?_
  change ∃ _, _
  cases h
  exact ⟨[], _, rfl, Tvv, rfl, (.eq rfl), rfl⟩
 replace h := Ap hb6 h
 iterate 6 refine Cl tt rfl rfl rfl rfl rfl hb6 rfl rfl rfl Tvv ?_
 obtain ⟨hg7, h⟩ := Ab h
 refine Cl tt rfl rfl rfl rfl rfl hb6 rfl rfl rfl hg7 ?_
 obtain ⟨hg8, h⟩ := Ab h
 refine Cl tt rfl rfl rfl rfl rfl hb6 rfl rfl rfl hg8 ?_
 obtain ⟨hg9, h⟩ := Ab h
 refine Cl tt rfl rfl rfl rfl rfl hb6 rfl rfl rfl hg9 ?_
 refine Cl tt rfl rfl rfl rfl rfl hb6 rfl rfl rfl Tvv ?_
 refine Cv rfl rfl rfl rfl rfl hb6 rfl ?_
 refine Af ?_
 change VC _ _ _ _
 refine Av rfl (fun hb10 => ?_) (fun hb10 => ?_)
 ·replace h := Ao hb10 h
  refine Ah ?_
  refine Aa ?_
  refine Ac tt rfl rfl rfl rfl rfl Tvv ?_
  refine Af ?_
  change VC _ _ _ _
  refine Bh ?_
  change ∃ _, _
  cases h
  exact ⟨[], _, rfl, Tvv, rfl, (.eq rfl), rfl⟩
 replace h := Ap hb10 h
 refine Au ?_
 change VC _ _ _ _
 iterate 2 refine Ah ?_
 refine Aa ?_
 iterate 4 refine Ac tt rfl rfl rfl rfl rfl Tvv ?_
 refine Af ?_
 change VC _ _ _ _
 refine Cc (F := fun k => Dv N p_0 k) h (α := Unit) (J := fun (_ : Unit) => (⟨[(1, .ptr 1 0), (3, .ptr 3 0)], [], [(1, some [.int p_0.g.n, .ro false (.pairs p_0.g.bars), .ro false (.ints p_0.ground)]), (3, some [.int p_0.g.n, .ro false (.pairs p_0.g.bars)])]⟩ : PS)) ?_ ?_
 ·rintro ⟨⟩ h
  show VC _ _ _ (⟨[(1, .ptr 1 0), (3, .ptr 3 0)], [], [(1, some [.int p_0.g.n, .ro false (.pairs p_0.g.bars), .ro false (.ints p_0.ground)]), (3, some [.int p_0.g.n, .ro false (.pairs p_0.g.bars)])]⟩ : PS)
  iterate 2 refine Ah ?_
  refine Aa ?_
  iterate 4 refine Ac tt rfl rfl rfl rfl rfl Tvv ?_
  refine Af ?_
  change VC _ _ _ _
  refine Cc (F := fun k => Dy N p_0 k) h (α := Unit) (J := fun (_ : Unit) => (⟨[], [], []⟩ : PS)) ?_ ?_
  ·rintro ⟨⟩ h
   show VC _ _ _ (⟨[], [], []⟩ : PS)
   refine Ah ?_
   refine Aa ?_
   refine Ac tt rfl rfl rfl rfl rfl Tvv ?_
   refine Af ?_
   change VC _ _ _ _
   refine Bh ?_
   change ∃ _, _
   cases h
   exact ⟨[], _, rfl, Tvv, rfl, (.eq rfl), rfl⟩
  intro k h
  refine Ar ?_
  refine Ba (α := Int) (fun (x17 : Int) => (⟨[(1, .ptr 1 0), (69, .ro false (.pairs p_0.g.bars)), (70, .int (p_0.g.bars.length : Int)), (71, .int x17)], [], [(1, some [.int p_0.g.n, .ro false (.pairs p_0.g.bars), .ro false (.ints p_0.ground)])]⟩ : PS)) (Dy N p_0 k) h (En.of ⟨rfl, rfl, rfl, rfl, Tvv⟩ trivial ⟨rfl, Tvv⟩) (fun _ => rfl) ?_
  rintro n x17 h
  rw [Dy] at h
  show VC _ _ _ (⟨[(1, .ptr 1 0), (69, .ro false (.pairs p_0.g.bars)), (70, .int (p_0.g.bars.length : Int)), (71, .int x17)], [], [(1, some [.int p_0.g.n, .ro false (.pairs p_0.g.bars), .ro false (.ints p_0.ground)])]⟩ : PS)
  refine Ah ?_
  refine Aa ?_
  refine Ac tt rfl rfl rfl rfl rfl Tvv ?_
  refine Af ?_
  change VC _ _ _ _
  refine Ah ?_
  refine Av rfl (fun hb11 => ?_) (fun hb11 => ?_)
  ·replace h := Ao hb11 h
   refine Au ?_
   change VC _ _ _ _
   refine Ah ?_
   refine Ar ?_
   refine Ah ?_
   refine Aa ?_
   obtain ⟨hg12, h⟩ := Ab h
   refine Ac tt rfl rfl rfl rfl rfl hg12 ?_
   refine Ac tt rfl rfl rfl rfl rfl Tvv ?_
   refine Cy tt rfl rfl rfl rfl rfl rfl rfl rfl rfl ?_
   refine Ax tt rfl rfl rfl rfl rfl rfl rfl rfl rfl rfl rfl ⟨Tvv, Tvv, Tvv⟩ ?_
   refine Af ?_
   change VC _ _ _ _
   refine Ah ?_
   refine Aa ?_
   iterate 4 refine Ac tt rfl rfl rfl rfl rfl Tvv ?_
   obtain ⟨v20, hc13, h⟩ := Ai h
   refine Bm (Ds N p_0.ground ((p_0.g.bars.getD ((x17).toNat) (0, 0)).1) v20 hc13) rfl rfl rfl rfl rfl rfl rfl rfl ⟨rfl, rfl, Tvv⟩ ?_
   refine Ac tt rfl rfl rfl rfl rfl Tvv ?_
   refine Dc rfl rfl rfl (fun hb14 => ?_) (fun hb14 => ?_)
   ·replace h := Ao hb14 h
    iterate 4 refine Cl tt rfl rfl rfl rfl rfl hb14 rfl rfl rfl Tvv ?_
    obtain ⟨v21, hc15, h⟩ := Ai h
    refine Qm (Ds N p_0.ground ((p_0.g.bars.getD ((x17).toNat) (0, 0)).2) v21 hc15) rfl rfl rfl rfl hb14 rfl rfl rfl rfl rfl rfl rfl ⟨rfl, rfl, Tvv⟩ ?_
    refine Eo rfl rfl rfl rfl rfl hb14 rfl ?_
    refine Af ?_
    change VC _ _ _ _
    refine Av rfl (fun hb16 => ?_) (fun hb16 => ?_)
    ·replace h := Ao hb16 h
     refine Ah ?_
     refine Aa ?_
     refine Ac tt rfl rfl rfl rfl rfl Tvv ?_
     refine Af ?_
     change VC _ _ _ _
     refine Bh ?_
     change ∃ _, _
     cases h
     exact ⟨[], _, rfl, Tvv, rfl, (.eq rfl), rfl⟩
    replace h := Ap hb16 h
    refine Au ?_
    change VC _ _ _ _
    refine Aa ?_
    obtain ⟨hg17, h⟩ := Ab h
    refine Ac tt rfl rfl rfl rfl rfl hg17 ?_
    refine Ac tt rfl rfl rfl rfl rfl Tvv ?_
    refine Af ?_
    change ∃ _, _
    exact ⟨(x17 + (1 : Int)), (En.of ⟨rfl, rfl, rfl, rfl, Tvv⟩ trivial ⟨rfl, Tvv⟩), h⟩
   replace h := Ap hb14 h
   iterate 5 refine Zf rfl rfl rfl rfl hb14 rfl rfl ?_
   refine Cv rfl rfl rfl rfl rfl hb14 rfl ?_
   refine Af ?_
   change VC _ _ _ _
   refine Gw rfl rfl ?_
   refine Au ?_
   change VC _ _ _ _
   refine Aa ?_
   obtain ⟨hg18, h⟩ := Ab h
   refine Ac tt rfl rfl rfl rfl rfl hg18 ?_
   refine Ac tt rfl rfl rfl rfl rfl Tvv ?_
   refine Af ?_
   change ∃ _, _
   exact ⟨(x17 + (1 : Int)), (En.of ⟨rfl, rfl, rfl, rfl, Tvv⟩ trivial ⟨rfl, Tvv⟩), h⟩
  replace h := Ap hb11 h
  refine Bl ?_
  change ∃ _, _
  exact ⟨(), (En.of trivial trivial trivial), h⟩
 intro k h
 refine Ar ?_
 refine Ba (α := Int) (fun (x24 : Int) => (⟨[(1, .ptr 1 0), (3, .ptr 3 0), (42, .ro false (.ints p_0.ground)), (43, .int (p_0.ground.length : Int)), (44, .int x24)], [], [(1, some [.int p_0.g.n, .ro false (.pairs p_0.g.bars), .ro false (.ints p_0.ground)]), (3, some [.int p_0.g.n, .ro false (.pairs p_0.g.bars)])]⟩ : PS)) (Dv N p_0 k) h (En.of ⟨rfl, rfl, rfl, rfl, rfl, Tvv⟩ trivial ⟨rfl, rfl, Tvv⟩) (fun _ => rfl) ?_
 rintro n x24 h
 rw [Dv] at h
 show VC _ _ _ (⟨[(1, .ptr 1 0), (3, .ptr 3 0), (42, .ro false (.ints p_0.ground)), (43, .int (p_0.ground.length : Int)), (44, .int x24)], [], [(1, some [.int p_0.g.n, .ro false (.pairs p_0.g.bars), .ro false (.ints p_0.ground)]), (3, some [.int p_0.g.n, .ro false (.pairs p_0.g.bars)])]⟩ : PS)
 refine Ah ?_
 refine Aa ?_
 refine Ac tt rfl rfl rfl rfl rfl Tvv ?_
 refine Af ?_
 change VC _ _ _ _
 refine Ah ?_
 refine Av rfl (fun hb19 => ?_) (fun hb19 => ?_)
 ·replace h := Ao hb19 h
  refine Au ?_
  change VC _ _ _ _
  refine Ah ?_
  refine Ar ?_
  refine Ah ?_
  refine Aa ?_
  refine Ac tt rfl rfl rfl rfl rfl Tvv ?_
  obtain ⟨hg20, h⟩ := Ab h
  refine Ac tt rfl rfl rfl rfl rfl hg20 ?_
  iterate 3 refine Ac tt rfl rfl rfl rfl rfl Tvv ?_
  refine Af ?_
  change VC _ _ _ _
  refine Ah ?_
  refine Aa ?_
  iterate 2 refine Ac tt rfl rfl rfl rfl rfl Tvv ?_
  obtain ⟨v26, hc21, h⟩ := Ai h
  refine Bm (Sw N p_0.g (p_0.ground.getD ((x24).toNat) 0) v26 hc21) rfl rfl rfl rfl rfl rfl rfl rfl ⟨⟨rfl, rfl, Tvv⟩, rfl, Tvv⟩ ?_
  iterate 2 refine Ac tt rfl rfl rfl rfl rfl Tvv ?_
  refine Dc rfl rfl rfl (fun hb22 => ?_) (fun hb22 => ?_)
  ·replace h := Ao hb22 h
   iterate 3 refine Tv rfl rfl rfl rfl hb22 rfl rfl ?_
   iterate 8 refine oNoU rfl rfl rfl rfl rfl ?_
   refine Tv rfl rfl rfl rfl hb22 rfl rfl ?_
   refine Eo rfl rfl rfl rfl rfl hb22 rfl ?_
   refine Af ?_
   change VC _ _ _ _
   refine Ev rfl rfl ?_
   refine Ah ?_
   refine Aa ?_
   refine Ac tt rfl rfl rfl rfl rfl Tvv ?_
   refine Af ?_
   change VC _ _ _ _
   refine Bh ?_
   change ∃ _, _
   cases h
   exact ⟨[], _, rfl, Tvv, rfl, (.eq rfl), rfl⟩
  replace h := Ap hb22 h
  iterate 3 refine Cl tt rfl rfl rfl rfl rfl hb22 rfl rfl rfl Tvv ?_
  refine Dc rfl rfl rfl (fun hb23 => ?_) (fun hb23 => ?_)
  ·replace h := Ao hb23 h
   iterate 3 refine Cl tt rfl rfl rfl rfl rfl hb23 rfl rfl rfl Tvv ?_
   obtain ⟨hg24, h⟩ := Ab h
   refine Cl tt rfl rfl rfl rfl rfl hb23 rfl rfl rfl hg24 ?_
   obtain ⟨hg25, h⟩ := Ab h
   refine Cl tt rfl rfl rfl rfl rfl hb23 rfl rfl rfl hg25 ?_
   iterate 3 refine Cl tt rfl rfl rfl rfl rfl hb23 rfl rfl rfl Tvv ?_
   refine oPickGT rfl rfl rfl rfl hb22 rfl rfl rfl rfl hb23 rfl ?_
   refine Cv rfl rfl rfl rfl rfl hb22 rfl ?_
   refine Af ?_
   change VC _ _ _ _
   refine Av rfl (fun hb26 => ?_) (fun hb26 => ?_)
   ·replace h := Ao hb26 h
    refine Ah ?_
    refine Aa ?_
    refine Ac tt rfl rfl rfl rfl rfl Tvv ?_
    refine Af ?_
    change VC _ _ _ _
    refine Bh ?_
    change ∃ _, _
    cases h
    exact ⟨[], _, rfl, Tvv, rfl, (.eq rfl), rfl⟩
   replace h := Ap hb26 h
   refine Au ?_
   change VC _ _ _ _
   refine Aa ?_
   obtain ⟨hg27, h⟩ := Ab h
   refine Ac tt rfl rfl rfl rfl rfl hg27 ?_
   refine Ac tt rfl rfl rfl rfl rfl Tvv ?_
   refine Af ?_
   change ∃ _, _
   exact ⟨(x24 + (1 : Int)), (En.of ⟨rfl, rfl, rfl, rfl, rfl, Tvv⟩ trivial ⟨rfl, rfl, Tvv⟩), h⟩
  replace h := Ap hb23 h
  iterate 8 refine Zf rfl rfl rfl rfl hb23 rfl rfl ?_
  refine oPickGF rfl rfl rfl rfl hb22 rfl rfl rfl rfl hb23 rfl ?_
  refine Cv rfl rfl rfl rfl rfl hb22 rfl ?_
  refine Af ?_
  change VC _ _ _ _
  refine Gw rfl rfl ?_
  refine Au ?_
  change VC _ _ _ _
  refine Aa ?_
  obtain ⟨hg28, h⟩ := Ab h
  refine Ac tt rfl rfl rfl rfl rfl hg28 ?_
  refine Ac tt rfl rfl rfl rfl rfl Tvv ?_
  refine Af ?_
  change ∃ _, _
  exact ⟨(x24 + (1 : Int)), (En.of ⟨rfl, rfl, rfl, rfl, rfl, Tvv⟩ trivial ⟨rfl, rfl, Tvv⟩), h⟩
 replace h := Ap hb19 h
 refine Bl ?_
 change ∃ _, _
 exact ⟨(), (En.of ⟨rfl, rfl, Tvv⟩ trivial ⟨rfl, rfl, Tvv⟩), h⟩
def Ci (N : Nat) (p_0 : Pin) (v_1 : Int) : Option (Bool) :=
 (Jl N p_0.g v_1).bind fun v1 =>
 cnd v1 (
  (Co N p_0.ground v_1).bind fun v2 =>
  some (!v2)) (
  some false)
theorem Fn (N : Nat) (p_0 : Pin) (v_1 : Int) (r : Bool) (h : Ci N p_0 v_1 = some r) : PCall Try.prog 91 [pD p_0, .int v_1] [] (.bool r) := by
 unfold Ci at h
 refine Aj (TT := TT) tt Try.func91 rfl rfl Try.ntmps91 (congrArg Array.toList Try.results91) rfl rfl fun w0 => ?_
 refine Ah ?_
 refine Aa ?_
 refine Jc rfl rfl rfl rfl rfl rfl rfl rfl rfl ?_
 refine Ac tt rfl rfl rfl rfl rfl Tvv ?_
 refine Af ?_
 change VC _ _ _ _
 refine Ah ?_
 refine Aa ?_
 iterate 3 refine Ac tt rfl rfl rfl rfl rfl Tvv ?_
 obtain ⟨v1, hc1, h⟩ := Ai h
 refine Bm (Sw N p_0.g v_1 v1 hc1) rfl rfl rfl rfl rfl rfl rfl rfl ⟨⟨rfl, rfl, Tvv⟩, rfl, Tvv⟩ ?_
 refine Ac tt rfl rfl rfl rfl rfl Tvv ?_
 refine Dc rfl rfl rfl (fun hb2 => ?_) (fun hb2 => ?_)
 ·replace h := Ao hb2 h
  iterate 3 refine Cl tt rfl rfl rfl rfl rfl hb2 rfl rfl rfl Tvv ?_
  obtain ⟨v2, hc3, h⟩ := Ai h
  refine Qm (Ds N p_0.ground v_1 v2 hc3) rfl rfl rfl rfl hb2 rfl rfl rfl rfl rfl rfl rfl ⟨rfl, rfl, Tvv⟩ ?_
  refine Cl tt rfl rfl rfl rfl rfl hb2 rfl rfl rfl Tvv ?_
  refine Eo rfl rfl rfl rfl rfl hb2 rfl ?_
  refine Ac tt rfl rfl rfl rfl rfl Tvv ?_
  refine Af ?_
  change VC _ _ _ _
  refine Bh ?_
  change ∃ _, _
  cases h
  exact ⟨[], _, rfl, Tvv, rfl, (.eq rfl), rfl⟩
 replace h := Ap hb2 h
 iterate 5 refine Zf rfl rfl rfl rfl hb2 rfl rfl ?_
 refine Cv rfl rfl rfl rfl rfl hb2 rfl ?_
 refine Ac tt rfl rfl rfl rfl rfl Tvv ?_
 refine Af ?_
 change VC _ _ _ _
 refine Bh ?_
 change ∃ _, _
 cases h
 exact ⟨[], _, rfl, Tvv, rfl, (.eq rfl), rfl⟩
def Cu (N : Nat) (p_0 : Pin) (k : (List Int) → Option (List Int)) : Nat → ((List Int) × Int) → Option (List Int)
 | 0, _ => none
 | n + 1, (l12, x13) =>
  cnd (decide (x13 < p_0.g.n)) (
   (Co N p_0.ground x13).bind fun v15 =>
   cnd (!v15) (
    grd (l12.length + 1 ≤ 4294967296) <|
    grd (Bk (x13 + (1 : Int))) <|
    Cu N p_0 k n ((l12 ++ ([x13] : List Int)), (x13 + (1 : Int)))) (
    grd (Bk (x13 + (1 : Int))) <|
    Cu N p_0 k n (l12, (x13 + (1 : Int))))) (
   k l12)
def Gp (N : Nat) (p_0 : Pin) : Option (List Int) :=
 (Jj N p_0).bind fun v1 =>
 cnd (!v1) (
  some ([] : List Int)) (
  Cu N p_0 (fun (l8 : List Int) =>
     some l8) N (([] : List Int), (0 : Int)))
theorem Qc (N : Nat) (p_0 : Pin) (r : List Int) (h : Gp N p_0 = some r) : PCall Try.prog 90 [pD p_0] [(3, .ints r)] (.row 0 0 r.length) := by
 unfold Gp at h
 refine Aj (TT := TT) tt Try.func90 rfl rfl Try.ntmps90 (congrArg Array.toList Try.results90) rfl rfl fun w0 => ?_
 refine Ah ?_
 refine Aa ?_
 refine Jc rfl rfl rfl rfl rfl rfl rfl rfl rfl ?_
 refine Ac tt rfl rfl rfl rfl rfl Tvv ?_
 refine Af ?_
 change VC _ _ _ _
 refine Ah ?_
 refine Aa ?_
 refine Gx tt (Ag rfl) rfl rfl rfl rfl ?_
 refine Ac tt rfl rfl rfl rfl rfl Tvv ?_
 refine Af ?_
 change VC _ _ _ _
 iterate 2 refine Ah ?_
 refine Aa ?_
 refine Ac tt rfl rfl rfl rfl rfl Tvv ?_
 obtain ⟨v1, hc1, h⟩ := Ai h
 refine Bm (Pz N p_0 v1 hc1) rfl rfl rfl rfl rfl rfl rfl rfl ⟨⟨rfl, rfl, rfl, Tvv⟩, Tvv⟩ ?_
 refine Ac tt rfl rfl rfl rfl rfl Tvv ?_
 refine Af ?_
 change VC _ _ _ _
 refine Av rfl (fun hb2 => ?_) (fun hb2 => ?_)
 ·replace h := Ao hb2 h
  refine Ah ?_
  refine Aa ?_
  iterate 2 refine Ac tt rfl rfl rfl rfl rfl Tvv ?_
  refine Af ?_
  change VC _ _ _ _
  refine Lp 2 9001 3 (.ints []) rfl rfl rfl rfl ?_
  refine Bh ?_
  change ∃ _, _
  cases h
  exact ⟨[9001], _, rfl, ⟨rfl, Tvv⟩, rfl, (.eq rfl), rfl⟩
 replace h := Ap hb2 h
 refine Au ?_
 change VC _ _ _ _
 iterate 2 refine Ah ?_
 refine Aa ?_
 iterate 4 refine Ac tt rfl rfl rfl rfl rfl Tvv ?_
 refine Af ?_
 change VC _ _ _ _
 refine Cc (F := fun k => Cu N p_0 k) h (α := List Int) (J := fun (l8 : List Int) => (⟨[(3, .row 24 0 l8.length)], [(24, some (3, .ints l8))], []⟩ : PS)) ?_ ?_
 ·rintro l8 h
  show VC _ _ _ (⟨[(3, .row 24 0 l8.length)], [(24, some (3, .ints l8))], []⟩ : PS)
  refine Ah ?_
  refine Aa ?_
  iterate 2 refine Ac tt rfl rfl rfl rfl rfl Tvv ?_
  refine Af ?_
  change VC _ _ _ _
  refine Bh ?_
  change ∃ _, _
  cases h
  exact ⟨[24], _, rfl, ⟨rfl, Tvv⟩, rfl, (.eq rfl), rfl⟩
 intro k h
 refine Ar ?_
 refine Lp 3 24 3 (.ints []) rfl rfl rfl rfl ?_
 refine Ba (α := (List Int) × Int) (fun | (l12, x13) => (⟨[(1, .ptr 1 0), (3, .row 24 0 l12.length), (12, .int p_0.g.n), (13, .int x13)], [(24, some (3, .ints l12))], [(1, some [.int p_0.g.n, .ro false (.pairs p_0.g.bars), .ro false (.ints p_0.ground)])]⟩ : PS)) (Cu N p_0 k) h (En.of ⟨rfl, rfl, rfl, rfl, Tvv⟩ ⟨rfl, Tvv⟩ ⟨rfl, Tvv⟩) (fun _ => rfl) ?_
 rintro n ⟨l12, x13⟩ h
 rw [Cu] at h
 show VC _ _ _ (⟨[(1, .ptr 1 0), (3, .row 24 0 l12.length), (12, .int p_0.g.n), (13, .int x13)], [(24, some (3, .ints l12))], [(1, some [.int p_0.g.n, .ro false (.pairs p_0.g.bars), .ro false (.ints p_0.ground)])]⟩ : PS)
 refine Ah ?_
 refine Aa ?_
 refine Ac tt rfl rfl rfl rfl rfl Tvv ?_
 refine Af ?_
 change VC _ _ _ _
 refine Ah ?_
 refine Av rfl (fun hb3 => ?_) (fun hb3 => ?_)
 ·replace h := Ao hb3 h
  refine Au ?_
  change VC _ _ _ _
  refine Ah ?_
  refine Ar ?_
  refine Ah ?_
  refine Aa ?_
  iterate 2 refine Ac tt rfl rfl rfl rfl rfl Tvv ?_
  refine Af ?_
  change VC _ _ _ _
  refine Ah ?_
  refine Aa ?_
  iterate 3 refine Ac tt rfl rfl rfl rfl rfl Tvv ?_
  obtain ⟨v15, hc4, h⟩ := Ai h
  refine Bm (Ds N p_0.ground x13 v15 hc4) rfl rfl rfl rfl rfl rfl rfl rfl ⟨rfl, rfl, Tvv⟩ ?_
  refine Ac tt rfl rfl rfl rfl rfl Tvv ?_
  refine Af ?_
  change VC _ _ _ _
  refine Av rfl (fun hb5 => ?_) (fun hb5 => ?_)
  ·replace h := Ao hb5 h
   refine Aa ?_
   iterate 2 refine Ac tt rfl rfl rfl rfl rfl Tvv ?_
   refine Dt tt rfl rfl rfl rfl rfl rfl rfl rfl rfl rfl rfl ?_
   obtain ⟨hg6, h⟩ := Ab h
   refine Cp tt rfl rfl rfl rfl rfl rfl rfl rfl rfl rfl rfl rfl rfl rfl rfl rfl (Nat.le_of_eq (Nat.zero_add _)) hg6 ?_
   refine Ac tt rfl rfl rfl rfl rfl Tvv ?_
   refine Af ?_
   change VC _ _ _ _
   refine Aa ?_
   obtain ⟨hg7, h⟩ := Ab h
   refine Ac tt rfl rfl rfl rfl rfl hg7 ?_
   refine Ac tt rfl rfl rfl rfl rfl Tvv ?_
   refine Af ?_
   change ∃ _, _
   exact ⟨((l12 ++ ([x13] : List Int)), (x13 + (1 : Int))), (En.of ⟨rfl, rfl, rfl, rfl, Tvv⟩ ⟨rfl, Tvv⟩ ⟨rfl, Tvv⟩), h⟩
  replace h := Ap hb5 h
  refine Au ?_
  change VC _ _ _ _
  refine Aa ?_
  obtain ⟨hg8, h⟩ := Ab h
  refine Ac tt rfl rfl rfl rfl rfl hg8 ?_
  refine Ac tt rfl rfl rfl rfl rfl Tvv ?_
  refine Af ?_
  change ∃ _, _
  exact ⟨(l12, (x13 + (1 : Int))), (En.of ⟨rfl, rfl, rfl, rfl, Tvv⟩ ⟨rfl, Tvv⟩ ⟨rfl, Tvv⟩), h⟩
 replace h := Ap hb3 h
 refine Bl ?_
 change ∃ _, _
 exact ⟨l12, (En.of ⟨rfl, Tvv⟩ ⟨rfl, Tvv⟩ trivial), h⟩
def Ml (N : Nat) (a_0 : Pin) (b_1 : Pin) : Option (Bool) :=
 (Pt N a_0.g b_1.g).bind fun v1 =>
 cnd (!v1) (
  some false) (
  (Qs N a_0.ground b_1.ground).bind fun v2 =>
  cnd (!v2) (
   some false) (
   some true))
theorem L_eqPinned_w (N : Nat) (a_0 : Pin) (b_1 : Pin) (r : Bool) (h : Ml N a_0 b_1 = some r) : PCall Try.prog 22 [pD a_0, pD b_1] [] (.bool r) := by
 unfold Ml at h
 refine Aj (TT := TT) tt Try.func22 rfl rfl Try.ntmps22 (congrArg Array.toList Try.results22) rfl rfl fun w0 => ?_
 refine Ah ?_
 refine Aa ?_
 iterate 2 refine Jc rfl rfl rfl rfl rfl rfl rfl rfl rfl ?_
 refine Ac tt rfl rfl rfl rfl rfl Tvv ?_
 refine Af ?_
 change VC _ _ _ _
 iterate 2 refine Ah ?_
 refine Aa ?_
 iterate 4 refine Ac tt rfl rfl rfl rfl rfl Tvv ?_
 obtain ⟨v1, hc1, h⟩ := Ai h
 refine Bm (L_eqGraph_w N a_0.g b_1.g v1 hc1) rfl rfl rfl rfl rfl rfl rfl rfl ⟨⟨rfl, rfl, Tvv⟩, ⟨rfl, rfl, Tvv⟩, Tvv⟩ ?_
 refine Ac tt rfl rfl rfl rfl rfl Tvv ?_
 refine Af ?_
 change VC _ _ _ _
 refine Av rfl (fun hb2 => ?_) (fun hb2 => ?_)
 ·replace h := Ao hb2 h
  refine Ah ?_
  refine Aa ?_
  refine Ac tt rfl rfl rfl rfl rfl Tvv ?_
  refine Af ?_
  change VC _ _ _ _
  refine Bh ?_
  change ∃ _, _
  cases h
  exact ⟨[], _, rfl, Tvv, rfl, (.eq rfl), rfl⟩
 replace h := Ap hb2 h
 refine Au ?_
 change VC _ _ _ _
 iterate 2 refine Ah ?_
 refine Aa ?_
 iterate 4 refine Ac tt rfl rfl rfl rfl rfl Tvv ?_
 obtain ⟨v2, hc3, h⟩ := Ai h
 refine Bm (Aaf N a_0.ground b_1.ground v2 hc3) rfl rfl rfl rfl rfl rfl rfl rfl ⟨rfl, rfl, Tvv⟩ ?_
 refine Ac tt rfl rfl rfl rfl rfl Tvv ?_
 refine Af ?_
 change VC _ _ _ _
 refine Av rfl (fun hb4 => ?_) (fun hb4 => ?_)
 ·replace h := Ao hb4 h
  refine Ah ?_
  refine Aa ?_
  refine Ac tt rfl rfl rfl rfl rfl Tvv ?_
  refine Af ?_
  change VC _ _ _ _
  refine Bh ?_
  change ∃ _, _
  cases h
  exact ⟨[], _, rfl, Tvv, rfl, (.eq rfl), rfl⟩
 replace h := Ap hb4 h
 refine Au ?_
 change VC _ _ _ _
 refine Ah ?_
 refine Aa ?_
 refine Ac tt rfl rfl rfl rfl rfl Tvv ?_
 refine Af ?_
 change VC _ _ _ _
 refine Bh ?_
 change ∃ _, _
 cases h
 exact ⟨[], _, rfl, Tvv, rfl, (.eq rfl), rfl⟩
end Go.Proofs.Ytkklfgcelmeccaa
namespace Go.Proofs.Ytkklfgcelmeccaa
variable (N : Nat)
def szv (left : Int) (n : Nat) : Int := if left < n then -1 else left - n
theorem Qo {left : Int} {n : Nat} (h : left < n) : szv left n = -1 := if_pos h
theorem Xl {left : Int} {n : Nat} (h : ¬ left < n) : szv left n = left - n := if_neg h
abbrev B63 (n : Nat) : Prop := n ≤ 9223372036854775807
theorem szIntS_s {a : List Int} (ha : B63 a.length) {left : Int} (h0 : 0 ≤ left) (h1 : left ≤ 1048576) : Qx N a left = some (szv left a.length) := by
 unfold Qx
 by_cases h : left < a.length
 ·rw [Qo h]; simp (disch := omega) only [Int.toNat_natCast, tk0, List.length_cons, List.length_nil, Ad, Aw, As, Ak, Al, cnd_true, cnd_false, Option.bind_some]
 rw [Xl h]; simp (disch := omega) only [Int.toNat_natCast, tk0, List.length_cons, List.length_nil, Ad, Aw, As, Ak, Al, cnd_true, cnd_false, Option.bind_some]
theorem toIntS_l {a : List Int} (ha : a.length ≤ 1048576) (k : List Int → Option (List Int)) : ∀ n i : Nat, i ≤ a.length → a.length < n + i → Hj N a k n (cpy a 0 i, (i : Int)) = k a := by
 intro n
 induction n with
 | zero => intro i h1 h2; omega
 | succ n ih =>
  intro i h1 h2
  have hl := cpy_len a 0 i
  rw [Hj]
  by_cases hi : i < a.length
  ·simp (disch := omega) only [Int.toNat_natCast, tk0, List.length_cons, List.length_nil, Ad, Aw, As, Ak, Al, cnd_true, cnd_false, Option.bind_some, List.length_replicate, hl]
   rw [cpy_set a 0 0 i hi rfl]
   exact ih (i + 1) (by omega) (by omega)
  simp (disch := omega) only [Int.toNat_natCast, tk0, List.length_cons, List.length_nil, Ad, Aw, As, Ak, Al, cnd_true, cnd_false, Option.bind_some]
  obtain rfl : i = a.length := by omega
  rw [cpy_full]
theorem toIntS_s (hN : 4000000 ≤ N) {a : List Int} (ha : a.length ≤ 1048576) : Tk N a = some a := by
 unfold Tk
 have h := toIntS_l N ha (fun l9 => grd ((List.replicate (((a.length : Int)).toNat) (0 : Int)).length = l9.length) <| some l9) N 0 (by omega) (by omega)
 simp only [Int.toNat_natCast, cpy_zero] at h ⊢
 simp (disch := omega) only [Int.toNat_natCast, tk0, List.length_cons, List.length_nil, Ad, Aw, As, Ak, Al, cnd_true, cnd_false, Option.bind_some]
 refine h.trans ?_
 simp (disch := omega) only [Int.toNat_natCast, tk0, List.length_cons, List.length_nil, Ad, Aw, As, Ak, Al, cnd_true, cnd_false, Option.bind_some, cpy_len]
theorem eqIntS_l {a : List Int} (ha : a.length ≤ 1048576) (k : Unit → Option Bool) : ∀ n i : Nat, i ≤ a.length → a.length < n + i → Hf N a a k n (i : Int) = k () := by
 intro n
 induction n with
 | zero => intro i h1 h2; omega
 | succ n ih =>
  intro i h1 h2
  rw [Hf]
  by_cases hi : i < a.length
  ·simp (disch := omega) only [Int.toNat_natCast, tk0, List.length_cons, List.length_nil, Ad, Aw, As, Ak, Al, cnd_true, cnd_false, Option.bind_some, bne_self_eq_false]
   exact ih (i + 1) (by omega) (by omega)
  simp (disch := omega) only [Int.toNat_natCast, tk0, List.length_cons, List.length_nil, Ad, Aw, As, Ak, Al, cnd_true, cnd_false, Option.bind_some]
theorem eqIntS_s (hN : 4000000 ≤ N) {a : List Int} (ha : a.length ≤ 1048576) : Qs N a a = some true := by
 unfold Qs
 simp (disch := omega) only [Int.toNat_natCast, tk0, List.length_cons, List.length_nil, Ad, Aw, As, Ak, Al, cnd_true, cnd_false, Option.bind_some, bne_self_eq_false]
 exact eqIntS_l N ha (fun _ => some true) N 0 (by omega) (by omega)
theorem szBarS_s {a : List (Int × Int)} (ha : B63 a.length) {left : Int} (h0 : 0 ≤ left) (h1 : left ≤ 1048576) : Sk N a left = some (szv left a.length) := by
 unfold Sk
 by_cases h : left < a.length
 ·rw [Qo h]; simp (disch := omega) only [Int.toNat_natCast, tk0, List.length_cons, List.length_nil, Ad, Aw, As, Ak, Al, cnd_true, cnd_false, Option.bind_some]
 rw [Xl h]; simp (disch := omega) only [Int.toNat_natCast, tk0, List.length_cons, List.length_nil, Ad, Aw, As, Ak, Al, cnd_true, cnd_false, Option.bind_some]
theorem toBar_s (x : Int × Int) : L_toBar N x = some x := rfl
theorem toBarS_l {a : List (Int × Int)} (ha : a.length ≤ 1048576) (k : List (Int × Int) → Option (List (Int × Int))) : ∀ n i : Nat, i ≤ a.length → a.length < n + i → Hi N a k n (cpy a (0, 0) i, (i : Int)) = k a := by
 intro n
 induction n with
 | zero => intro i h1 h2; omega
 | succ n ih =>
  intro i h1 h2
  have hl := cpy_len a (0, 0) i
  rw [Hi]
  by_cases hi : i < a.length
  ·simp (disch := omega) only [Int.toNat_natCast, tk0, List.length_cons, List.length_nil, Ad, Aw, As, Ak, Al, cnd_true, cnd_false, Option.bind_some, List.length_replicate, hl, toBar_s]
   rw [set_pair _ _ _ _ (by omega), cpy_set a (0, 0) (0, 0) i hi rfl]
   exact ih (i + 1) (by omega) (by omega)
  simp (disch := omega) only [Int.toNat_natCast, tk0, List.length_cons, List.length_nil, Ad, Aw, As, Ak, Al, cnd_true, cnd_false, Option.bind_some]
  obtain rfl : i = a.length := by omega
  rw [cpy_full]
theorem toBarS_s (hN : 4000000 ≤ N) {a : List (Int × Int)} (ha : a.length ≤ 1048576) : Sx N a = some a := by
 unfold Sx
 have h := toBarS_l N ha (fun l9 => grd ((List.replicate (((a.length : Int)).toNat) ((0, 0) : Int × Int)).length = l9.length) <| some l9) N 0 (by omega) (by omega)
 simp only [Int.toNat_natCast, cpy_zero] at h ⊢
 simp (disch := omega) only [Int.toNat_natCast, tk0, List.length_cons, List.length_nil, Ad, Aw, As, Ak, Al, cnd_true, cnd_false, Option.bind_some]
 refine h.trans ?_
 simp (disch := omega) only [Int.toNat_natCast, tk0, List.length_cons, List.length_nil, Ad, Aw, As, Ak, Al, cnd_true, cnd_false, Option.bind_some, cpy_len]
theorem eqBar_s (x : Int × Int) : Yq N x x = some true := by
 unfold Yq
 simp (disch := omega) only [Int.toNat_natCast, tk0, List.length_cons, List.length_nil, Ad, Aw, As, Ak, Al, cnd_true, cnd_false, Option.bind_some, bne_self_eq_false]
theorem eqBarS_l {a : List (Int × Int)} (ha : a.length ≤ 1048576) (k : Unit → Option Bool) : ∀ n i : Nat, i ≤ a.length → a.length < n + i → Gz N a a k n (i : Int) = k () := by
 intro n
 induction n with
 | zero => intro i h1 h2; omega
 | succ n ih =>
  intro i h1 h2
  rw [Gz]
  by_cases hi : i < a.length
  ·simp (disch := omega) only [Int.toNat_natCast, tk0, List.length_cons, List.length_nil, Ad, Aw, As, Ak, Al, cnd_true, cnd_false, Option.bind_some, bne_self_eq_false, eqBar_s, Bool.not_true]
   exact ih (i + 1) (by omega) (by omega)
  simp (disch := omega) only [Int.toNat_natCast, tk0, List.length_cons, List.length_nil, Ad, Aw, As, Ak, Al, cnd_true, cnd_false, Option.bind_some]
theorem eqBarS_s (hN : 4000000 ≤ N) {a : List (Int × Int)} (ha : a.length ≤ 1048576) : To N a a = some true := by
 unfold To
 simp (disch := omega) only [Int.toNat_natCast, tk0, List.length_cons, List.length_nil, Ad, Aw, As, Ak, Al, cnd_true, cnd_false, Option.bind_some, bne_self_eq_false]
 exact eqBarS_l N ha (fun _ => some true) N 0 (by omega) (by omega)
abbrev Hb (a : Grf) : Nat := a.bars.length
abbrev BGraph (a : Grf) : Prop := B63 a.bars.length
theorem szGraph_s {a : Grf} (ha : BGraph a) {left : Int} (h0 : 0 ≤ left) (h1 : left ≤ 1048576) : Pr N a left = some (szv left (Hb a)) := by
 unfold Pr
 rw [szBarS_s N ha h0 h1]
 by_cases h : left < a.bars.length
 ·rw [Qo h]; simp (disch := omega) only [Int.toNat_natCast, tk0, List.length_cons, List.length_nil, Ad, Aw, As, Ak, Al, cnd_true, cnd_false, Option.bind_some]
 rw [Xl h]; simp (disch := omega) only [Int.toNat_natCast, tk0, List.length_cons, List.length_nil, Ad, Aw, As, Ak, Al, cnd_true, cnd_false, Option.bind_some]
theorem toGraph_s (hN : 4000000 ≤ N) {a : Grf} (ha : Hb a ≤ 1048576) : Pq N a = some a := by
 unfold Pq
 rw [toBarS_s N hN (a := a.bars) (by have := ha; simp only [Hb] at this; omega)]
 rfl
theorem eqGraph_s (hN : 4000000 ≤ N) {a : Grf} (ha : Hb a ≤ 1048576) : Pt N a a = some true := by
 unfold Pt
 rw [eqBarS_s N hN (a := a.bars) (by have := ha; simp only [Hb] at this; omega)]
 simp only [bne_self_eq_false]; rfl
abbrev lnRaise (a : Rse) : Nat := a.bars.length
abbrev Fl (a : Pin) : Nat := a.g.bars.length + a.ground.length
abbrev BPinned (a : Pin) : Prop := B63 a.g.bars.length ∧ B63 a.ground.length
theorem szPinned_s {a : Pin} (ha : BPinned a) {left : Int} (h0 : 0 ≤ left) (h1 : left ≤ 1048576) : Mk N a left = some (szv left (Fl a)) := by
 unfold Mk
 have e : Fl a = (Hb a.g) + a.ground.length := rfl
 rw [szGraph_s N ha.1 h0 h1]
 by_cases h : left < (Hb a.g)
 ·rw [Qo h, Qo (by omega)]; simp (disch := omega) only [Int.toNat_natCast, tk0, List.length_cons, List.length_nil, Ad, Aw, As, Ak, Al, cnd_true, cnd_false, Option.bind_some]
 rw [Xl h]
 simp (disch := omega) only [Int.toNat_natCast, tk0, List.length_cons, List.length_nil, Ad, Aw, As, Ak, Al, cnd_true, cnd_false, Option.bind_some]
 rw [szIntS_s N ha.2 (by omega) (by omega)]
 by_cases h' : left - (Hb a.g) < a.ground.length
 ·rw [Qo h', Qo (by omega)]; simp (disch := omega) only [Int.toNat_natCast, tk0, List.length_cons, List.length_nil, Ad, Aw, As, Ak, Al, cnd_true, cnd_false, Option.bind_some]
 rw [Xl h', Xl (by omega)]
 simp (disch := omega) only [Int.toNat_natCast, tk0, List.length_cons, List.length_nil, Ad, Aw, As, Ak, Al, cnd_true, cnd_false, Option.bind_some]
 congr 1; omega
theorem toPinned_s (hN : 4000000 ≤ N) {a : Pin} (ha : Fl a ≤ 1048576) : Ho N a = some a := by
 unfold Ho
 rw [toGraph_s N hN (a := a.g) (by have := ha; simp only [Fl] at this; simp only [Hb]; omega), Option.bind_some, toIntS_s N hN (a := a.ground) (by have := ha; simp only [Fl] at this; omega)]
 rfl
theorem eqPinned_s (hN : 4000000 ≤ N) {a : Pin} (ha : Fl a ≤ 1048576) : Ml N a a = some true := by
 unfold Ml
 rw [eqGraph_s N hN (a := a.g) (by have := ha; simp only [Fl] at this; simp only [Hb]; omega), Option.bind_some, eqIntS_s N hN (a := a.ground) (by have := ha; simp only [Fl] at this; omega)]
 rfl
abbrev Yy (a : Frm) : Nat := a.g.bars.length + a.places.length
abbrev lnLinkage (a : Lnk) : Nat := a.f.g.bars.length + a.f.places.length + a.ground.length
end Go.Proofs.Ytkklfgcelmeccaa
namespace Go.Proofs.Ytkklfgcelmeccaa
open Go.RowKit
def Fa (N : Nat) (a_0 : List Int) (k : ((List Int) × Int) → Option (Int × (List Int))) : Nat → ((List Int) × Int × Int) → Option (Int × (List Int))
 | 0, _ => none
 | n + 1, (l7, k8, i9) =>
  cnd (decide (i9 < (a_0.length : Int))) (
   grd (0 ≤ i9 ∧ i9 < (a_0.length : Int)) <|
   grd (0 ≤ i9 ∧ i9 < (l7.length : Int)) <|
   grd (Bk (k8 + (1 : Int))) <|
   grd (Bk (i9 + (1 : Int))) <|
   Fa N a_0 k n ((l7.set ((i9).toNat) k8), (k8 + (1 : Int)), (i9 + (1 : Int)))) (
   k (l7, k8))
def Ko (N : Nat) (a_0 : List Int) (k_1 : Int) : Option (Int × (List Int)) :=
 Fa N a_0 (fun (x : (List Int) × Int) =>
   match x with
   | (l4, k5) =>
    some (k5, l4)) N (a_0, k_1, (0 : Int))
theorem Wa (N : Nat) (a_0 : List Int) (k_1 : Int) (r : Int × (List Int)) (h : Ko N a_0 k_1 = some r) : MCall Try.prog 60 [.row 1000000 0 a_0.length, .int k_1] [1000000] [] [(3, .ints a_0)] [(3, .ints r.2)] [] [] (.int r.1) := by
 unfold Ko at h
 refine Eb (TT := TT) tt Try.func60 rfl rfl Try.ntmps60 (congrArg Array.toList Try.results60) rfl rfl rfl rfl rfl fun w0 O0 => ?_
 refine Ah ?_
 refine Aa ?_
 refine Ac tt rfl rfl rfl rfl rfl Tvv ?_
 refine Af ?_
 change VC _ _ _ _
 iterate 2 refine Ah ?_
 refine Aa ?_
 refine Ac tt rfl rfl rfl rfl rfl Tvv ?_
 refine Af ?_
 change VC _ _ _ _
 refine Cc (F := fun k => Fa N a_0 k) h (α := (List Int) × Int) (J := fun | (l4, k5) => (⟨[(1, .int k5)], [(1000000, some (3, .ints l4))], []⟩ : PS)) ?_ ?_
 ·rintro ⟨l4, k5⟩ h
  show VC _ _ _ (⟨[(1, .int k5)], [(1000000, some (3, .ints l4))], []⟩ : PS)
  refine Ah ?_
  refine Aa ?_
  iterate 2 refine Ac tt rfl rfl rfl rfl rfl Tvv ?_
  refine Af ?_
  change VC _ _ _ _
  refine Bh ?_
  change ∃ _, _
  cases h
  exact ⟨[1000000], rfl, ⟨rfl, Tvv⟩, Tvv, rfl⟩
 intro k h
 refine Ar ?_
 refine Ba (α := (List Int) × Int × Int) (fun | (l7, k8, i9) => (⟨[(0, .row 1000000 0 a_0.length), (1, .int k8), (5, .int i9)], [(1000000, some (3, .ints l7))], []⟩ : PS)) (Fa N a_0 k) h (En.of ⟨rfl, rfl, rfl, Tvv⟩ ⟨rfl, Tvv⟩ trivial) (fun _ => rfl) ?_
 rintro n ⟨l7, k8, i9⟩ h
 rw [Fa] at h
 show VC _ _ _ (⟨[(0, .row 1000000 0 a_0.length), (1, .int k8), (5, .int i9)], [(1000000, some (3, .ints l7))], []⟩ : PS)
 iterate 2 refine Ah ?_
 refine Aa ?_
 iterate 4 refine Ac tt rfl rfl rfl rfl rfl Tvv ?_
 refine Af ?_
 change VC _ _ _ _
 refine Av rfl (fun hb1 => ?_) (fun hb1 => ?_)
 ·replace h := Ao hb1 h
  refine Au ?_
  change VC _ _ _ _
  refine Ah ?_
  refine Ar ?_
  refine Ah ?_
  refine Aa ?_
  iterate 3 refine Ac tt rfl rfl rfl rfl rfl Tvv ?_
  obtain ⟨hg2, h⟩ := Ab h
  refine Ac tt rfl rfl rfl rfl rfl hg2 ?_
  obtain ⟨hg3, h⟩ := Ab h
  refine Ax tt rfl rfl rfl rfl rfl rfl rfl rfl rfl rfl ⟨_, _, rfl, hg3.1, hg3.2⟩ ⟨hg3, Tvv⟩ ?_
  refine Af ?_
  change VC _ _ _ _
  refine Aa ?_
  refine Ac tt rfl rfl rfl rfl rfl Tvv ?_
  obtain ⟨hg4, h⟩ := Ab h
  refine Ac tt rfl rfl rfl rfl rfl hg4 ?_
  refine Ac tt rfl rfl rfl rfl rfl Tvv ?_
  refine Af ?_
  change VC _ _ _ _
  refine Aa ?_
  refine Ac tt rfl rfl rfl rfl rfl Tvv ?_
  obtain ⟨hg5, h⟩ := Ab h
  refine Ac tt rfl rfl rfl rfl rfl hg5 ?_
  refine Ac tt rfl rfl rfl rfl rfl Tvv ?_
  refine Af ?_
  change ∃ _, _
  exact ⟨((l7.set ((i9).toNat) k8), (k8 + (1 : Int)), (i9 + (1 : Int))), (En.of ⟨rfl, rfl, rfl, Tvv⟩ ⟨rfl, Tvv⟩ trivial), h⟩
 replace h := Ap hb1 h
 refine Bl ?_
 change ∃ _, _
 exact ⟨(l7, k8), (En.of ⟨rfl, Tvv⟩ ⟨rfl, Tvv⟩ trivial), h⟩
def Ey (N : Nat) (a_0 : List (Int × Int)) (k : ((List (Int × Int)) × Int) → Option (Int × (List (Int × Int)))) : Nat → ((List (Int × Int)) × Int × Int) → Option (Int × (List (Int × Int)))
 | 0, _ => none
 | n + 1, (l7, k8, i9) =>
  cnd (decide (i9 < (a_0.length : Int))) (
   grd (0 ≤ i9 ∧ i9 < (a_0.length : Int)) <|
   grd (0 ≤ i9 ∧ i9 < (l7.length : Int)) <|
   grd (Bk (k8 + (1 : Int))) <|
   grd (0 ≤ i9 ∧ i9 < ((l7.set ((i9).toNat) (k8, (l7.getD ((i9).toNat) (0, 0)).2)).length : Int)) <|
   grd (Bk ((k8 + (1 : Int)) + (1 : Int))) <|
   grd (Bk (i9 + (1 : Int))) <|
   Ey N a_0 k n (((l7.set ((i9).toNat) (k8, (l7.getD ((i9).toNat) (0, 0)).2)).set ((i9).toNat) (((l7.set ((i9).toNat) (k8, (l7.getD ((i9).toNat) (0, 0)).2)).getD ((i9).toNat) (0, 0)).1, (k8 + (1 : Int)))), ((k8 + (1 : Int)) + (1 : Int)), (i9 + (1 : Int)))) (
   k (l7, k8))
def Mi (N : Nat) (a_0 : List (Int × Int)) (k_1 : Int) : Option (Int × (List (Int × Int))) :=
 Ey N a_0 (fun (x : (List (Int × Int)) × Int) =>
   match x with
   | (l4, k5) =>
    some (k5, l4)) N (a_0, k_1, (0 : Int))
theorem L_markBarS_w (N : Nat) (a_0 : List (Int × Int)) (k_1 : Int) (r : Int × (List (Int × Int))) (h : Mi N a_0 k_1 = some r) : MCall Try.prog 74 [.row 1000000 0 a_0.length, .int k_1] [1000000] [] [(113, .pairs a_0)] [(113, .pairs r.2)] [] [] (.int r.1) := by
 unfold Mi at h
 refine Eb (TT := TT) tt Try.func74 rfl rfl Try.ntmps74 (congrArg Array.toList Try.results74) rfl rfl rfl rfl rfl fun w0 O0 => ?_
 refine Ah ?_
 refine Aa ?_
 refine Ac tt rfl rfl rfl rfl rfl Tvv ?_
 refine Af ?_
 change VC _ _ _ _
 iterate 2 refine Ah ?_
 refine Aa ?_
 refine Ac tt rfl rfl rfl rfl rfl Tvv ?_
 refine Af ?_
 change VC _ _ _ _
 refine Cc (F := fun k => Ey N a_0 k) h (α := (List (Int × Int)) × Int) (J := fun | (l4, k5) => (⟨[(1, .int k5)], [(1000000, some (113, .pairs l4))], []⟩ : PS)) ?_ ?_
 ·rintro ⟨l4, k5⟩ h
  show VC _ _ _ (⟨[(1, .int k5)], [(1000000, some (113, .pairs l4))], []⟩ : PS)
  refine Ah ?_
  refine Aa ?_
  iterate 2 refine Ac tt rfl rfl rfl rfl rfl Tvv ?_
  refine Af ?_
  change VC _ _ _ _
  refine Bh ?_
  change ∃ _, _
  cases h
  exact ⟨[1000000], rfl, ⟨rfl, Tvv⟩, Tvv, rfl⟩
 intro k h
 refine Ar ?_
 refine Ba (α := (List (Int × Int)) × Int × Int) (fun | (l7, k8, i9) => (⟨[(0, .row 1000000 0 a_0.length), (1, .int k8), (5, .int i9)], [(1000000, some (113, .pairs l7))], []⟩ : PS)) (Ey N a_0 k) h (En.of ⟨rfl, rfl, rfl, Tvv⟩ ⟨rfl, Tvv⟩ trivial) (fun _ => rfl) ?_
 rintro n ⟨l7, k8, i9⟩ h
 rw [Ey] at h
 show VC _ _ _ (⟨[(0, .row 1000000 0 a_0.length), (1, .int k8), (5, .int i9)], [(1000000, some (113, .pairs l7))], []⟩ : PS)
 iterate 2 refine Ah ?_
 refine Aa ?_
 iterate 4 refine Ac tt rfl rfl rfl rfl rfl Tvv ?_
 refine Af ?_
 change VC _ _ _ _
 refine Av rfl (fun hb1 => ?_) (fun hb1 => ?_)
 ·replace h := Ao hb1 h
  refine Au ?_
  change VC _ _ _ _
  refine Ah ?_
  refine Ar ?_
  refine Ah ?_
  refine Aa ?_
  iterate 3 refine Ac tt rfl rfl rfl rfl rfl Tvv ?_
  obtain ⟨hg2, h⟩ := Ab h
  refine Ac tt rfl rfl rfl rfl rfl hg2 ?_
  obtain ⟨hg3, h⟩ := Ab h
  refine Ac tt rfl rfl rfl rfl rfl hg3 ?_
  refine Ax tt rfl rfl rfl rfl rfl rfl rfl rfl rfl rfl ⟨_, _, rfl, hg3.1, hg3.2⟩ ⟨hg3, Tvv⟩ ?_
  refine Af ?_
  change VC _ _ _ _
  refine Ah ?_
  refine Aa ?_
  refine Ac tt rfl rfl rfl rfl rfl Tvv ?_
  obtain ⟨hg4, h⟩ := Ab h
  refine Ac tt rfl rfl rfl rfl rfl hg4 ?_
  refine Ac tt rfl rfl rfl rfl rfl Tvv ?_
  refine Af ?_
  change VC _ _ _ _
  refine Ah ?_
  refine Aa ?_
  iterate 3 refine Ac tt rfl rfl rfl rfl rfl Tvv ?_
  refine Ac tt rfl rfl rfl rfl rfl hg2 ?_
  obtain ⟨hg5, h⟩ := Ab h
  refine Ac tt rfl rfl rfl rfl rfl hg5 ?_
  refine Ax tt rfl rfl rfl rfl rfl rfl rfl rfl rfl rfl ⟨_, _, rfl, hg5.1, hg5.2⟩ ⟨hg5, Tvv⟩ ?_
  refine Af ?_
  change VC _ _ _ _
  refine Aa ?_
  refine Ac tt rfl rfl rfl rfl rfl Tvv ?_
  obtain ⟨hg6, h⟩ := Ab h
  refine Ac tt rfl rfl rfl rfl rfl hg6 ?_
  refine Ac tt rfl rfl rfl rfl rfl Tvv ?_
  refine Af ?_
  change VC _ _ _ _
  refine Aa ?_
  refine Ac tt rfl rfl rfl rfl rfl Tvv ?_
  obtain ⟨hg7, h⟩ := Ab h
  refine Ac tt rfl rfl rfl rfl rfl hg7 ?_
  refine Ac tt rfl rfl rfl rfl rfl Tvv ?_
  refine Af ?_
  change ∃ _, _
  exact ⟨(((l7.set ((i9).toNat) (k8, (l7.getD ((i9).toNat) (0, 0)).2)).set ((i9).toNat) (((l7.set ((i9).toNat) (k8, (l7.getD ((i9).toNat) (0, 0)).2)).getD ((i9).toNat) (0, 0)).1, (k8 + (1 : Int)))), ((k8 + (1 : Int)) + (1 : Int)), (i9 + (1 : Int))), (En.of ⟨rfl, rfl, rfl, Tvv⟩ ⟨rfl, Tvv⟩ trivial), h⟩
 replace h := Ap hb1 h
 refine Bl ?_
 change ∃ _, _
 exact ⟨(l7, k8), (En.of ⟨rfl, Tvv⟩ ⟨rfl, Tvv⟩ trivial), h⟩
def Lh (N : Nat) (a_0 : Grf) (k_1 : Int) : Option (Int × (List (Int × Int))) :=
 (Mi N a_0.bars k_1).bind fun v1 =>
 some (v1.1, v1.2)
theorem L_markGraph_w (N : Nat) (a_0 : Grf) (k_1 : Int) (r : Int × (List (Int × Int))) (h : Lh N a_0 k_1 = some r) : MCall Try.prog 31 [.agg [.int a_0.n, .row 1000001 0 a_0.bars.length], .int k_1] [1000001] [] [(113, .pairs a_0.bars)] [(113, .pairs r.2)] [] [] (.int r.1) := by
 unfold Lh at h
 refine Eb (TT := TT) tt Try.func31 rfl rfl Try.ntmps31 (congrArg Array.toList Try.results31) rfl rfl rfl rfl rfl fun w0 O0 => ?_
 refine Ah ?_
 refine Aa ?_
 refine Jc rfl rfl rfl rfl rfl rfl rfl rfl rfl ?_
 refine Ac tt rfl rfl rfl rfl rfl Tvv ?_
 refine Af ?_
 change VC _ _ _ _
 refine Ah ?_
 refine Aa ?_
 iterate 3 refine Ac tt rfl rfl rfl rfl rfl Tvv ?_
 obtain ⟨v1, hc1, h⟩ := Ai h
 refine Tf (L_markBarS_w N a_0.bars k_1 v1 hc1) [1000001] [] [1000001] rfl rfl rfl rfl rfl rfl ⟨rfl, Tvv⟩ trivial ⟨⟨rfl, rfl⟩, ⟨rfl, rfl⟩, Tvv⟩ ?_
 refine Ac tt rfl rfl rfl rfl rfl Tvv ?_
 refine Af ?_
 change VC _ _ _ _
 refine Ah ?_
 refine Aa ?_
 iterate 2 refine Ac tt rfl rfl rfl rfl rfl Tvv ?_
 refine Af ?_
 change VC _ _ _ _
 refine Bh ?_
 change ∃ _, _
 cases h
 exact ⟨[1000001], rfl, ⟨rfl, Tvv⟩, Tvv, rfl⟩
end Go.Proofs.Ytkklfgcelmeccaa
namespace Go.Proofs.Ytkklfgcelmeccaa
open Go.RowKit
def Jv (N : Nat) (a_0 : Pin) (k_1 : Int) : Option (Int × (List (Int × Int)) × (List Int)) :=
 (Lh N (⟨a_0.g.n, a_0.g.bars⟩ : Grf) k_1).bind fun v1 =>
 (Ko N a_0.ground v1.1).bind fun v2 =>
 some (v2.1, v1.2, v2.2)
theorem Zh (N : Nat) (a_0 : Pin) (k_1 : Int) (r : Int × (List (Int × Int)) × (List Int)) (h : Jv N a_0 k_1 = some r) : MCall Try.prog 23 [.agg [.int a_0.g.n, .row 1000001 0 a_0.g.bars.length, .row 1000002 0 a_0.ground.length], .int k_1] [1000001, 1000002] [] [(113, .pairs a_0.g.bars), (3, .ints a_0.ground)] [(113, .pairs r.2.1), (3, .ints r.2.2)] [] [] (.int r.1) := by
 unfold Jv at h
 refine Eb (TT := TT) tt Try.func23 rfl rfl Try.ntmps23 (congrArg Array.toList Try.results23) rfl rfl rfl rfl rfl fun w0 O0 => ?_
 refine Ah ?_
 refine Aa ?_
 refine Jc rfl rfl rfl rfl rfl rfl rfl rfl rfl ?_
 refine Ac tt rfl rfl rfl rfl rfl Tvv ?_
 refine Af ?_
 change VC _ _ _ _
 refine Ah ?_
 refine Aa ?_
 iterate 3 refine Ac tt rfl rfl rfl rfl rfl Tvv ?_
 obtain ⟨v1, hc1, h⟩ := Ai h
 refine Tf (L_markGraph_w N (⟨a_0.g.n, a_0.g.bars⟩ : Grf) k_1 v1 hc1) [1000001] [] [1000001] rfl rfl rfl rfl rfl rfl ⟨rfl, Tvv⟩ trivial ⟨⟨⟨rfl, rfl⟩, ⟨rfl, rfl⟩, Tvv⟩, ⟨rfl, rfl⟩, Tvv⟩ ?_
 refine Ac tt rfl rfl rfl rfl rfl Tvv ?_
 refine Af ?_
 change VC _ _ _ _
 refine Ah ?_
 refine Aa ?_
 iterate 3 refine Ac tt rfl rfl rfl rfl rfl Tvv ?_
 obtain ⟨v2, hc2, h⟩ := Ai h
 refine Tf (Wa N a_0.ground v1.1 v2 hc2) [1000002] [] [1000002] rfl rfl rfl rfl rfl rfl ⟨rfl, Tvv⟩ trivial ⟨⟨rfl, rfl⟩, ⟨rfl, rfl⟩, Tvv⟩ ?_
 refine Ac tt rfl rfl rfl rfl rfl Tvv ?_
 refine Af ?_
 change VC _ _ _ _
 refine Ah ?_
 refine Aa ?_
 iterate 2 refine Ac tt rfl rfl rfl rfl rfl Tvv ?_
 refine Af ?_
 change VC _ _ _ _
 refine Bh ?_
 change ∃ _, _
 cases h
 exact ⟨[1000001, 1000002], rfl, ⟨rfl, rfl, Tvv⟩, Tvv, rfl⟩
end Go.Proofs.Ytkklfgcelmeccaa
namespace Go.Proofs.Ytkklfgcelmeccaa
variable {N : Nat}
theorem grf_eta (g : Grf) : (⟨g.n, g.bars⟩ : Grf) = g := rfl
theorem pin_eta (p : Pin) : (⟨p.g, p.ground⟩ : Pin) = p := rfl
theorem frm_eta (p : Frm) : (⟨p.g, p.places⟩ : Frm) = p := rfl
theorem lnk_eta (p : Lnk) : (⟨p.f, p.ground⟩ : Lnk) = p := rfl
def mkI (k : Int) (m : Nat) : List Int := (List.range m).map fun (i : Nat) => k + (i : Int)
def mkP (k : Int) (m : Nat) : List (Int × Int) := (List.range m).map fun (i : Nat) => (k + 2 * (i : Int), k + 2 * (i : Int) + 1)
theorem Xn (k : Int) (m : Nat) : (mkI k m).length = m := by simp [mkI]
theorem Xf (k : Int) (m : Nat) : (mkP k m).length = m := by simp [mkP]
theorem mkI_succ (k : Int) (m : Nat) : mkI k (m + 1) = mkI k m ++ [k + (m : Int)] := by simp [mkI, List.range_succ]
theorem mkP_succ (k : Int) (m : Nat) : mkP k (m + 1) = mkP k m ++ [(k + 2 * (m : Int), k + 2 * (m : Int) + 1)] := by simp [mkP, List.range_succ]
theorem set_mid {α : Type} {a b : List α} {x : α} {i : Nat} (h : a.length = i) (hb : 0 < b.length) : (a ++ b).set i x = a ++ [x] ++ b.drop 1 := by
 subst h
 cases b with
 | nil => simp at hb
 | cons y b => simp
theorem getD_mid {α : Type} {a : List α} {x d : α} {b : List α} {i : Nat} (h : a.length = i) : (a ++ [x] ++ b).getD i d = x := by
 subst h; simp
theorem markIntS_l {a : List Int} {k0 : Int} (hk : 0 ≤ k0 ∧ k0 ≤ 100000000) (ha : a.length ≤ 1048576) (k : List Int × Int → Option (Int × List Int)) : ∀ n i : Nat, i ≤ a.length → a.length < n + i → Fa N a k n (mkI k0 i ++ a.drop i, k0 + (i : Int), (i : Int)) = k (mkI k0 a.length, k0 + (a.length : Int)) := by
 intro n
 induction n with
 | zero => intro i h1 h2; omega
 | succ n ih =>
  intro i h1 h2
  rw [Fa]
  by_cases hi : i < a.length
  ·have e1 : ((mkI k0 i ++ a.drop i).set i (k0 + (i : Int))) = mkI k0 (i + 1) ++ a.drop (i + 1) := by
    rw [set_mid (Xn k0 i) (by simp; omega), mkI_succ]
    simp
   have e2 : ((mkI k0 i ++ a.drop i).length : Int) = (a.length : Int) := by simp [Xn]; omega
   rw [Ak (by omega), Ad (by omega), Ad (by omega), Ad (by unfold Bk; omega), Ad (by unfold Bk; omega), Int.toNat_natCast, e1, show k0 + (i : Int) + 1 = k0 + ((i + 1 : Nat) : Int) from by omega, show (i : Int) + 1 = ((i + 1 : Nat) : Int) from by omega]
   exact ih (i + 1) (by omega) (by omega)
  have : i = a.length := by omega
  subst this
  rw [Al (by omega)]
  simp
theorem Aai (hN : 4000000 ≤ N) {a : List Int} {k0 : Int} (hk : 0 ≤ k0 ∧ k0 ≤ 100000000) (ha : a.length ≤ 1048576) : Ko N a k0 = some (k0 + (a.length : Int), mkI k0 a.length) := by
 unfold Ko
 have := markIntS_l (N := N) (a := a) hk ha (fun (x : (List Int) × Int) => match x with | (l, k) => some (k, l)) N 0 (by omega) (by omega)
 simpa [mkI] using this
theorem heldIntS_l {m : Nat} {k0 : Int} (hk : 0 ≤ k0 ∧ k0 ≤ 100000000) (ha : m ≤ 1048576) (k : Int → Option Int) : ∀ n i : Nat, i ≤ m → m < n + i → Ez N (mkI k0 m) k n (k0 + (i : Int), (i : Int)) = k (k0 + (m : Int)) := by
 intro n
 induction n with
 | zero => intro i h1 h2; omega
 | succ n ih =>
  intro i h1 h2
  rw [Ez, Xn]
  by_cases hi : i < m
  ·have e1 : (mkI k0 m).getD i 0 = k0 + (i : Int) := by simp [mkI, hi]
   rw [Ak (by omega), Ad (by omega), Int.toNat_natCast, e1, bne_self_eq_false, cnd_false, Ad (by unfold Bk; omega), Ad (by unfold Bk; omega), show k0 + (i : Int) + 1 = k0 + ((i + 1 : Nat) : Int) from by omega, show (i : Int) + 1 = ((i + 1 : Nat) : Int) from by omega]
   exact ih (i + 1) (by omega) (by omega)
  have : i = m := by omega
  subst this
  rw [Al (by omega)]
theorem heldIntS_s (hN : 4000000 ≤ N) {m : Nat} {k0 : Int} (hk : 0 ≤ k0 ∧ k0 ≤ 100000000) (ha : m ≤ 1048576) : Mf N (mkI k0 m) k0 = some (k0 + (m : Int)) := by
 unfold Mf
 have := heldIntS_l (N := N) hk ha (fun k => some k) N 0 (by omega) (by omega)
 simpa using this
theorem markBarS_l {a : List (Int × Int)} {k0 : Int} (hk : 0 ≤ k0 ∧ k0 ≤ 100000000) (ha : a.length ≤ 1048576) (k : List (Int × Int) × Int → Option (Int × List (Int × Int))) : ∀ n i : Nat, i ≤ a.length → a.length < n + i → Ey N a k n (mkP k0 i ++ a.drop i, k0 + 2 * (i : Int), (i : Int)) = k (mkP k0 a.length, k0 + 2 * (a.length : Int)) := by
 intro n
 induction n with
 | zero => intro i h1 h2; omega
 | succ n ih =>
  intro i h1 h2
  rw [Ey]
  by_cases hi : i < a.length
  ·have e2 : ((mkP k0 i ++ a.drop i).length : Int) = (a.length : Int) := by simp [Xf]; omega
   rw [Ak (by omega), Ad (by omega), Ad (by omega), Ad (by unfold Bk; omega), Ad (by rw [List.length_set]; omega), Ad (by unfold Bk; omega), Ad (by unfold Bk; omega), Int.toNat_natCast]
   rw [set_mid (Xf k0 i) (by simp; omega), getD_mid (Xf k0 i), List.append_assoc, set_mid (Xf k0 i) (by simp)]
   have e1 : mkP k0 i ++ [(k0 + 2 * (i : Int), k0 + 2 * (i : Int) + 1)] ++ List.drop 1 ([(k0 + 2 * (i : Int), ((mkP k0 i ++ a.drop i).getD i (0, 0)).2)] ++ List.drop 1 (a.drop i)) = mkP k0 (i + 1) ++ a.drop (i + 1) := by
    rw [mkP_succ]; simp
   rw [e1, show k0 + 2 * (i : Int) + 1 + 1 = k0 + 2 * ((i + 1 : Nat) : Int) from by omega, show (i : Int) + 1 = ((i + 1 : Nat) : Int) from by omega]
   exact ih (i + 1) (by omega) (by omega)
  have : i = a.length := by omega
  subst this
  rw [Al (by omega)]
  simp
theorem markBarS_s (hN : 4000000 ≤ N) {a : List (Int × Int)} {k0 : Int} (hk : 0 ≤ k0 ∧ k0 ≤ 100000000) (ha : a.length ≤ 1048576) : Mi N a k0 = some (k0 + 2 * (a.length : Int), mkP k0 a.length) := by
 unfold Mi
 have := markBarS_l (N := N) (a := a) hk ha (fun (x : (List (Int × Int)) × Int) => match x with | (l, k) => some (k, l)) N 0 (by omega) (by omega)
 simpa [mkP] using this
theorem markGraph_s (hN : 4000000 ≤ N) {a : Grf} {k0 : Int} (hk : 0 ≤ k0 ∧ k0 ≤ 50000000) (ha : Hb a ≤ 1048576) : Lh N a k0 = some (k0 + 2 * (a.bars.length : Int), mkP k0 a.bars.length) := by
 unfold Lh
 rw [markBarS_s hN (by omega) ha]; rfl
theorem markPinned_s (hN : 4000000 ≤ N) {a : Pin} {k0 : Int} (hk : 0 ≤ k0 ∧ k0 ≤ 20000000) (ha : Fl a ≤ 1048576) : Jv N a k0 = some (k0 + 2 * (a.g.bars.length : Int) + (a.ground.length : Int), mkP k0 a.g.bars.length, mkI (k0 + 2 * (a.g.bars.length : Int)) a.ground.length) := by
 simp only [Fl, Hb] at ha
 unfold Jv
 rw [markGraph_s hN (by omega) (by simp only [Hb]; omega), Option.bind_some, Aai hN (by simp only []; omega) (by omega)]; rfl
end Go.Proofs.Ytkklfgcelmeccaa
namespace Go.Proofs.Ytkklfgcelmeccaa
abbrev VS := Int → Bool
def vsz (n : Nat) (X : VS) : Nat := (List.range n).countP fun (i : Nat) => X (i : Int)
def inX (X : VS) (e : Int × Int) : Bool := X e.1 && X e.2
def spn (X : VS) (L : List (Int × Int)) : Nat := L.countP (inX X)
def vU (X Y : VS) : VS := fun v => X v || Y v
def vI (X Y : VS) : VS := fun v => X v && Y v
def Spr (n : Nat) (L : List (Int × Int)) : Prop := ∀ X, 0 < spn X L → spn X L + 3 ≤ 2 * vsz n X
def Bok (n : Nat) (e : Int × Int) : Prop := 0 ≤ e.1 ∧ e.1 < n ∧ 0 ≤ e.2 ∧ e.2 < n ∧ e.1 ≠ e.2
def Tgt (n : Nat) (L : List (Int × Int)) (X : VS) : Prop := 2 ≤ vsz n X ∧ 2 * vsz n X ≤ spn X L + 3
theorem Mz {α : Type} (p q : α → Bool) : ∀ l : List α, l.countP (fun x => p x || q x) + l.countP (fun x => p x && q x) = l.countP p + l.countP q
 | [] => rfl
 | x :: l => by
  have ih := Mz p q l
  simp only [List.countP_cons]
  cases p x <;> cases q x <;> simp <;> omega
theorem vsz_UI (n : Nat) (X Y : VS) : vsz n (vU X Y) + vsz n (vI X Y) = vsz n X + vsz n Y := Mz (fun i : Nat => X (i : Int)) (fun i : Nat => Y (i : Int)) _
theorem Gi (X : VS) (e : Int × Int) (L : List (Int × Int)) : spn X (e :: L) = spn X L + if inX X e then 1 else 0 := by simp [spn, List.countP_cons]
theorem spn_UI (X Y : VS) : ∀ L, spn X L + spn Y L ≤ spn (vU X Y) L + spn (vI X Y) L
 | [] => Nat.le_refl _
 | e :: L => by
  have ih := spn_UI X Y L
  rw [Gi, Gi, Gi, Gi]
  revert ih
  generalize spn X L = a
  generalize spn Y L = b
  generalize spn (vU X Y) L = c
  generalize spn (vI X Y) L = d
  intro ih
  have key : ∀ x y z w : Bool, (a + if (x && y) = true then 1 else 0) + (b + if (z && w) = true then 1 else 0) ≤ (c + if ((x || z) && (y || w)) = true then 1 else 0) + (d + if ((x && z) && (y && w)) = true then 1 else 0) := by
   intro x y z w
   cases x <;> cases y <;> cases z <;> cases w <;> simp <;> omega
  exact key (X e.1) (X e.2) (Y e.1) (Y e.2)
theorem Aak (X : VS) (L L' : List (Int × Int)) : spn X (L ++ L') = spn X L + spn X L' := by simp [spn, List.countP_append]
theorem Tgt.eq {n : Nat} {L : List (Int × Int)} {X : VS} (hL : Spr n L) (h : Tgt n L X) : spn X L + 3 = 2 * vsz n X := by
 have h1 := h.1
 have h2 := h.2
 have := hL X (by omega)
 omega
theorem Tgt.union {n : Nat} {L : List (Int × Int)} {X Y : VS} (hL : Spr n L) (hX : Tgt n L X) (hY : Tgt n L Y) (h : 2 ≤ vsz n (vI X Y)) : Tgt n L (vU X Y) := by
 have a1 := vsz_UI n X Y
 have a2 := spn_UI X Y L
 have a3 := hX.eq hL
 have a4 := hY.eq hL
 have a5 : spn (vI X Y) L + 3 ≤ 2 * vsz n (vI X Y) := by
  by_cases h0 : 0 < spn (vI X Y) L
  ·exact hL _ h0
  omega
 have a6 := hX.1
 have a7 := hY.1
 refine ⟨?_, by omega⟩
 have : vsz n (vI X Y) ≤ vsz n X := List.countP_mono_left fun i _ h => by simp only [vI, Bool.and_eq_true] at h; exact h.1
 omega
theorem Tgt.grow {n : Nat} {L L' : List (Int × Int)} {X : VS} (h : Tgt n L X) (hs : spn X L ≤ spn X L') : Tgt n L' X := ⟨h.1, by have := h.2; omega⟩
theorem Kr {n : Nat} {X : VS} {a b : Int} (ha : 0 ≤ a ∧ a < n) (hb : 0 ≤ b ∧ b < n) (hab : a ≠ b) (hXa : X a = true) (hXb : X b = true) : 2 ≤ vsz n X := by
 have key : ∀ (a b : Nat), a < b → b < n → X a = true → X b = true → 2 ≤ vsz n X := by
  intro a b h1 h2 h3 h4
  have e : List.range n = List.range b ++ b :: (List.range (n - b - 1)).map (· + (b + 1)) := by
   have := List.range_add (n := b + 1) (m := n - b - 1)
   rw [show b + 1 + (n - b - 1) = n from by omega, List.range_succ, List.append_assoc] at this
   rw [this]
   simp [Nat.add_comm]
  unfold vsz
  rw [e, List.countP_append, List.countP_cons]
  have : 0 < (List.range b).countP fun i : Nat => X (i : Int) := List.countP_pos_iff.2 ⟨a, by simpa using h1, h3⟩
  simp [h4]; omega
 obtain ⟨a', rfl⟩ := Int.eq_ofNat_of_zero_le ha.1
 obtain ⟨b', rfl⟩ := Int.eq_ofNat_of_zero_le hb.1
 rcases Nat.lt_or_gt_of_ne (fun h : a' = b' => hab (by rw [h])) with h | h
 ·exact key a' b' h (by omega) hXa hXb
 exact key b' a' h (by omega) hXb hXa
def v2 (a b : Int) : VS := fun v => v == a || v == b
theorem vsz_v2 {n : Nat} {a b : Int} (ha : 0 ≤ a ∧ a < n) (hb : 0 ≤ b ∧ b < n) (hab : a ≠ b) : vsz n (v2 a b) = 2 := by
 have h1 : 2 ≤ vsz n (v2 a b) := Kr ha hb hab (by simp [v2]) (by simp [v2])
 have one : ∀ (a : Int) (m : Nat), (List.range m).countP (fun i : Nat => ((i : Int) == a)) ≤ 1 := by
  intro a m
  have : (List.range m).countP (fun i : Nat => ((i : Int) == a)) ≤ (List.range m).count a.toNat := by
   rw [List.count]
   refine List.countP_mono_left fun i _ h => ?_
   have : (i : Int) = a := by simpa using h
   simp [← this]
  have h2 := List.nodup_range.count (a := a.toNat) (l := List.range m)
  rw [h2] at this
  split at this <;> omega
 have h2 := Mz (fun i : Nat => ((i : Int) == a)) (fun i : Nat => ((i : Int) == b)) (List.range n)
 have h3 := one a n
 have h4 := one b n
 simp only [vsz, v2] at h1 ⊢
 omega
theorem tgt_bar {n : Nat} {L : List (Int × Int)} {e : Int × Int} (he : e ∈ L) (hb : Bok n e) : Tgt n L (v2 e.1 e.2) := by
 obtain ⟨h1, h2, h3, h4, h5⟩ := hb
 have := vsz_v2 (n := n) ⟨h1, h2⟩ ⟨h3, h4⟩ h5
 refine ⟨by omega, ?_⟩
 have : 0 < spn (v2 e.1 e.2) L := List.countP_pos_iff.2 ⟨e, he, by simp [inX, v2]⟩
 omega
def Wl (n : Nat) (X Y : VS) : Prop := vsz n (vI X Y) ≤ 1
theorem spn_two {n : Nat} {X Y : VS} (h : Wl n X Y) {e : Int × Int} (hb : Bok n e) : (inX X e && inX Y e) = false := by
 cases h1 : inX X e <;> cases h2 : inX Y e <;> try rfl
 exfalso
 simp only [inX, Bool.and_eq_true] at h1 h2
 obtain ⟨g1, g2, g3, g4, g5⟩ := hb
 have := Kr (n := n) (X := vI X Y) ⟨g1, g2⟩ ⟨g3, g4⟩ g5 (by simp [vI, h1.1, h2.1]) (by simp [vI, h1.2, h2.2])
 unfold Wl at h; omega
structure Fam (n : Nat) (L : List (Int × Int)) (F : List VS) : Prop where
 tgt : ∀ X ∈ F, Tgt n L X
 sml : F.Pairwise (Wl n)
theorem fam_add {n : Nat} {L : List (Int × Int)} (hL : Spr n L) : ∀ (k : Nat) (F : List VS) (X : VS), F.length = k → Fam n L F → Tgt n L X →
  ∃ F', Fam n L F' ∧ (∃ Y ∈ F', ∀ e, inX X e = true → inX Y e = true) ∧ ∀ Z ∈ F, ∃ Y ∈ F', ∀ e, inX Z e = true → inX Y e = true := by
 intro k
 induction k with
 | zero =>
  intro F X hk hF hX
  have : F = [] := List.eq_nil_of_length_eq_zero hk
  subst this
  exact ⟨[X], ⟨by simpa using hX, by simp⟩, ⟨X, by simp, fun e he => he⟩, by simp⟩
 | succ k ih =>
  intro F X hk hF hX
  by_cases hbig : ∃ Y ∈ F, 2 ≤ vsz n (vI X Y)
  ·obtain ⟨Y, hY, h2⟩ := hbig
   obtain ⟨l1, l2, rfl⟩ := List.append_of_mem hY
   have hF' : Fam n L (l1 ++ l2) := by
    refine ⟨fun Z hZ => hF.tgt Z (by simp at hZ ⊢; rcases hZ with h | h <;> simp [h]), ?_⟩
    exact hF.sml.sublist (by simp)
   obtain ⟨F', g1, ⟨W, hW, g2⟩, g3⟩ := ih (l1 ++ l2) (vU X Y) (by simp at hk ⊢; omega) hF' (hX.union hL (hF.tgt Y hY) h2)
   refine ⟨F', g1, ⟨W, hW, fun e he => g2 e ?_⟩, fun Z hZ => ?_⟩
   ·simp only [inX, vU, Bool.and_eq_true, Bool.or_eq_true] at he ⊢
    exact ⟨.inl he.1, .inl he.2⟩
   have hc : Z = Y ∨ Z ∈ l1 ++ l2 := by
    simp at hZ ⊢
    rcases hZ with h | h | h
    ·exact .inr (.inl h)
    ·exact .inl h
    exact .inr (.inr h)
   rcases hc with rfl | hc
   ·refine ⟨W, hW, fun e he => g2 e ?_⟩
    simp only [inX, vU, Bool.and_eq_true, Bool.or_eq_true] at he ⊢
    exact ⟨.inr he.1, .inr he.2⟩
   exact g3 Z hc
  refine ⟨X :: F, ⟨fun Z hZ => ?_, List.pairwise_cons.2 ⟨fun Z hZ => ?_, hF.sml⟩⟩, ⟨X, by simp, fun e he => he⟩, fun Z hZ => ⟨Z, by simp [hZ], fun e he => he⟩⟩
  ·rcases List.mem_cons.1 hZ with rfl | h
   ·exact hX
   exact hF.tgt Z h
  unfold Wl
  by_cases h : vsz n (vI X Z) ≤ 1
  ·exact h
  exact absurd ⟨Z, hZ, by omega⟩ hbig
theorem fam_all {n : Nat} {I : List (Int × Int)} (hI : Spr n I) : ∀ J : List (Int × Int), (∀ e ∈ J, ∃ X, Tgt n I X ∧ inX X e = true) → ∃ F, Fam n I F ∧ ∀ e ∈ J, ∃ Y ∈ F, inX Y e = true
 | [], _ => ⟨[], ⟨by simp, by simp⟩, by simp⟩
 | e :: J, h => by
  obtain ⟨F, h1, h2⟩ := fam_all hI J fun x hx => h x (by simp [hx])
  obtain ⟨X, hX, he⟩ := h e (by simp)
  obtain ⟨F', g1, ⟨Y, hY, g2⟩, g3⟩ := fam_add hI F.length F X rfl h1 hX
  refine ⟨F', g1, fun x hx => ?_⟩
  rcases List.mem_cons.1 hx with rfl | hx
  ·exact ⟨Y, hY, g2 _ he⟩
  obtain ⟨Z, hZ, h3⟩ := h2 x hx
  obtain ⟨W, hW, h4⟩ := g3 Z hZ
  exact ⟨W, hW, h4 x h3⟩
def sumS (F : List VS) (L : List (Int × Int)) : Nat := (F.map fun X => spn X L).sum
theorem Ln (X : VS) (F : List VS) (L : List (Int × Int)) : sumS (X :: F) L = spn X L + sumS F L := by simp [sumS]
theorem cover_le {F : List VS} : ∀ {J : List (Int × Int)}, (∀ e ∈ J, ∃ Y ∈ F, inX Y e = true) → J.length ≤ sumS F J
 | [], _ => by simp
 | e :: J, h => by
  have ih := cover_le (F := F) (J := J) fun x hx => h x (by simp [hx])
  have key : ∀ F : List VS, sumS F (e :: J) = sumS F J + F.countP fun Y => inX Y e := by
   intro F
   induction F with
   | nil => simp [sumS]
   | cons X F ihF => rw [Ln, Ln, ihF, Gi, List.countP_cons]; split <;> omega
  rw [key]
  obtain ⟨Y, hY, he⟩ := h e (by simp)
  have : 0 < F.countP fun Y => inX Y e := List.countP_pos_iff.2 ⟨Y, hY, he⟩
  simp; omega
theorem fam_le {n : Nat} {F : List VS} (hF : F.Pairwise (Wl n)) : ∀ {I : List (Int × Int)}, (∀ e ∈ I, Bok n e) → sumS F I ≤ I.length
 | [], _ => by
  have : ∀ F : List VS, sumS F [] = 0 := fun F => by induction F with | nil => rfl | cons X F ih => rw [Ln, ih]; rfl
  rw [this]; simp
 | e :: I, h => by
  have ih := fam_le hF (I := I) fun x hx => h x (by simp [hx])
  have key : ∀ F : List VS, sumS F (e :: I) = sumS F I + F.countP fun Y => inX Y e := by
   intro F
   induction F with
   | nil => simp [sumS]
   | cons X F ihF => rw [Ln, Ln, ihF, Gi, List.countP_cons]; split <;> omega
  have one : ∀ F : List VS, F.Pairwise (Wl n) → (F.countP fun Y => inX Y e) ≤ 1 := by
   intro F
   induction F with
   | nil => simp
   | cons X F ihF =>
    intro hp
    obtain ⟨h1, h2⟩ := List.pairwise_cons.1 hp
    rw [List.countP_cons]
    by_cases hx : inX X e = true
    ·have : (F.countP fun Y => inX Y e) = 0 := List.countP_eq_zero.2 fun Y hY hy => by
      have := spn_two (h1 Y hY) (h e (by simp))
      rw [hx, hy] at this; cases this
     rw [if_pos hx]; omega
    rw [if_neg hx]; exact ihF h2
  rw [key]
  have := one F hF
  simp; omega
theorem spr_le {n : Nat} {I J : List (Int × Int)} (hI : Spr n I) (hJ : Spr n J) (hb : ∀ e ∈ I, Bok n e) (h : ∀ e ∈ J, ∃ X, Tgt n I X ∧ inX X e = true) : J.length ≤ I.length := by
 obtain ⟨F, h1, h2⟩ := fam_all hI J h
 refine Nat.le_trans (cover_le h2) (Nat.le_trans ?_ (fam_le h1.sml hb))
 have key : ∀ F : List VS, (∀ X ∈ F, Tgt n I X) → sumS F J ≤ sumS F I := by
  intro F
  induction F with
  | nil => intro _; simp [sumS]
  | cons X F ih =>
   intro hF
   have := ih fun Z hZ => hF Z (by simp [hZ])
   have a1 := (hF X (by simp)).eq hI
   have a2 : spn X J ≤ spn X I := by
    by_cases h0 : 0 < spn X J
    ·have := hJ X h0; omega
    omega
   rw [Ln, Ln]; omega
 exact key F h1.tgt
structure Bas (n : Nat) (L I : List (Int × Int)) : Prop where
 mem : ∀ e ∈ I, e ∈ L
 spr : Spr n I
 spn : ∀ e ∈ L, ∃ X, Tgt n I X ∧ inX X e = true
end Go.Proofs.Ytkklfgcelmeccaa
namespace Go.Proofs.Ytkklfgcelmeccaa
def oth (e : Int × Int) (v : Int) : Int := e.1 + e.2 - v
def fsum (X : VS) (f : List Int) : Nat → Int
 | 0 => 0
 | m + 1 => fsum X f m + (if X (m : Int) = true then f.getD m 0 else 0)
theorem vsz_succ (m : Nat) (X : VS) : vsz (m + 1) X = vsz m X + (if X (m : Int) = true then 1 else 0) := by
 simp [vsz, List.range_succ, List.countP_append, List.countP_cons]
def pB (X : VS) (m : Nat) (t : Int) : Bool := X t && decide (0 ≤ t) && decide (t < (m : Int))
theorem cnt_succ (X : VS) (m : Nat) : ∀ T : List Int, T.countP (pB X (m + 1)) = T.countP (pB X m) + (if X (m : Int) = true then T.count (m : Int) else 0)
 | [] => by simp
 | t :: T => by
  have ih := cnt_succ X m T
  rw [List.countP_cons, List.countP_cons, List.count_cons, ih]
  by_cases h : t = (m : Int)
  ·subst h
   have e1 : pB X (m + 1) (m : Int) = X (m : Int) := by
    have : decide ((m : Int) < ((m + 1 : Nat) : Int)) = true := decide_eq_true (by omega)
    have h0 : decide (0 ≤ (m : Int)) = true := decide_eq_true (by omega)
    unfold pB; rw [this, h0]; simp
   have e2 : pB X m (m : Int) = false := by
    have : decide ((m : Int) < (m : Int)) = false := decide_eq_false (by omega)
    unfold pB; rw [this]; simp
   rw [e1, e2]
   cases X (m : Int) <;> simp <;> omega
  have e1 : pB X (m + 1) t = pB X m t := by
   have : decide (t < ((m + 1 : Nat) : Int)) = decide (t < (m : Int)) := decide_eq_decide.2 (by omega)
   unfold pB; rw [this]
  have e2 : (t == (m : Int)) = false := by simpa using h
  rw [e1, e2]
  cases X (m : Int) <;> simp <;> omega
theorem fsum_eq {n : Nat} {X : VS} {f T : List Int} (h : ∀ v : Nat, v < n → f.getD v 0 + (T.count (v : Int) : Int) = 2) : ∀ m, m ≤ n → fsum X f m + (T.countP (pB X m) : Int) = 2 * (vsz m X : Int)
 | 0, _ => by
  have : T.countP (pB X 0) = 0 := List.countP_eq_zero.2 fun t _ ht => by simp only [pB, Bool.and_eq_true, decide_eq_true_eq] at ht; omega
  rw [this]; simp [fsum, vsz]
 | m + 1, hm => by
  have ih := fsum_eq (X := X) h m (by omega)
  have := h m (by omega)
  rw [fsum, cnt_succ, vsz_succ]
  split <;> push_cast <;> omega
theorem spn_tails (X : VS) : ∀ {E : List (Int × Int)} {T : List Int}, T.length = E.length → (∀ i, i < E.length → T.getD i 0 = (E.getD i (0, 0)).1 ∨ T.getD i 0 = (E.getD i (0, 0)).2) → spn X E ≤ T.countP X
 | [], _, _, _ => by simp [spn]
 | e :: E, [], h, _ => by simp at h
 | e :: E, t :: T, h, he => by
  have ih := spn_tails X (E := E) (T := T) (by simpa using h) fun i hi => by simpa using he (i + 1) (by simpa using hi)
  have h0 := he 0 (by simp)
  simp at h0
  rw [Gi, List.countP_cons]
  by_cases hx : inX X e = true
  ·have : X t = true := by
    simp only [inX, Bool.and_eq_true] at hx
    rcases h0 with rfl | rfl
    ·exact hx.1
    exact hx.2
   rw [if_pos hx, if_pos this]; omega
  rw [if_neg hx]; omega
theorem tails_spn (R : VS) : ∀ {E : List (Int × Int)} {T : List Int}, T.length = E.length → (∀ i, i < E.length → R (T.getD i 0) = true → inX R (E.getD i (0, 0)) = true) → T.countP R ≤ spn R E
 | [], T, h, _ => by
  have : T = [] := List.eq_nil_of_length_eq_zero (by simpa using h)
  subst this; simp [spn]
 | e :: E, [], h, _ => by simp at h
 | e :: E, t :: T, h, he => by
  have ih := tails_spn R (E := E) (T := T) (by simpa using h) fun i hi => by simpa using he (i + 1) (by simpa using hi)
  have h0 := he 0 (by simp)
  simp at h0
  rw [Gi, List.countP_cons]
  by_cases hx : R t = true
  ·rw [if_pos hx, if_pos (h0 hx)]; omega
  rw [if_neg hx]; omega
theorem fsum_ge {n : Nat} {X : VS} {f : List Int} {a b : Nat} (hab : a ≠ b) (ha : X (a : Int) = true) (hb : X (b : Int) = true) (nn : ∀ v : Nat, v < n → 0 ≤ f.getD v 0) : ∀ m, m ≤ n → (if a < m then f.getD a 0 else 0) + (if b < m then f.getD b 0 else 0) ≤ fsum X f m
 | 0, _ => by simp [fsum]
 | m + 1, hm => by
  have ih := fsum_ge hab ha hb nn m (by omega)
  have h0 := nn m (by omega)
  rw [fsum]
  by_cases h1 : a = m
  ·subst h1
   rw [if_pos ha]
   revert ih
   repeat' split
   all_goals (intro ih; omega)
  by_cases h2 : b = m
  ·subst h2
   rw [if_pos hb]
   revert ih
   repeat' split
   all_goals (intro ih; omega)
  revert ih
  repeat' split
  all_goals (intro ih; omega)
theorem fsum_le {n : Nat} {X : VS} {f : List Int} {a b : Nat} (hab : a ≠ b) (nn : ∀ v : Nat, v < n → 0 ≤ f.getD v 0) (hz : ∀ v : Nat, v < n → X (v : Int) = true → v ≠ a → v ≠ b → f.getD v 0 = 0) : ∀ m, m ≤ n → fsum X f m ≤ (if a < m then f.getD a 0 else 0) + (if b < m then f.getD b 0 else 0)
 | 0, _ => by simp [fsum]
 | m + 1, hm => by
  have ih := fsum_le hab nn hz m (by omega)
  have h0 := nn m (by omega)
  have hz := hz m (by omega)
  rw [fsum]
  by_cases h1 : a = m
  ·subst h1
   revert ih
   repeat' split
   all_goals (intro ih; omega)
  by_cases h2 : b = m
  ·subst h2
   revert ih
   repeat' split
   all_goals (intro ih; omega)
  by_cases hx : X (m : Int) = true
  ·have := hz hx (fun e => h1 e.symm) (fun e => h2 e.symm)
   rw [if_pos hx, this]
   revert ih
   repeat' split
   all_goals (intro ih; omega)
  rw [if_neg hx]
  revert ih
  repeat' split
  all_goals (intro ih; omega)
structure PInv (n : Nat) (E : List (Int × Int)) (f T : List Int) : Prop where
 fl : f.length = n
 tl : T.length = E.length
 ok : ∀ e ∈ E, Bok n e
 en : ∀ i, i < E.length → T.getD i 0 = (E.getD i (0, 0)).1 ∨ T.getD i 0 = (E.getD i (0, 0)).2
 nn : ∀ v : Nat, v < n → 0 ≤ f.getD v 0
 sm : ∀ v : Nat, v < n → f.getD v 0 + (T.count (v : Int) : Int) = 2
variable {n : Nat} {E : List (Int × Int)} {f T : List Int}
theorem Dd {α : Type} {l : List α} {i : Nat} {d : α} (h : i < l.length) : l.getD i d ∈ l := by
 rw [List.getD_eq_getElem?_getD, List.getElem?_eq_getElem h]; exact List.getElem_mem h
theorem PInv.tail (h : PInv n E f T) {i : Nat} (hi : i < E.length) : 0 ≤ T.getD i 0 ∧ T.getD i 0 < n := by
 obtain ⟨h1, h2, h3, h4, h5⟩ := h.ok _ (Dd (d := (0, 0)) hi)
 rcases h.en i hi with e | e <;> rw [e] <;> omega
theorem PInv.sum (h : PInv n E f T) (X : VS) : fsum X f n + (T.countP X : Int) = 2 * (vsz n X : Int) := by
 rw [← fsum_eq (X := X) h.sm n (Nat.le_refl _)]
 have : T.countP (pB X n) = T.countP X := List.countP_congr fun t ht => by
  obtain ⟨i, hi, e⟩ := List.mem_iff_getElem.1 ht
  have := h.tail (i := i) (h.tl ▸ hi)
  rw [List.getD_eq_getElem?_getD, List.getElem?_eq_getElem hi] at this
  simp only [Option.getD_some] at this
  rw [e] at this
  have e1 : decide (0 ≤ t) = true := decide_eq_true this.1
  have e2 : decide (t < (n : Int)) = true := decide_eq_true this.2
  unfold pB; rw [e1, e2]; simp
 rw [this]
theorem PInv.le2 (h : PInv n E f T) {v : Nat} (hv : v < n) : f.getD v 0 ≤ 2 := by have := h.sm v hv; omega
theorem PInv.acc (h : PInv n E f T) (hE : Spr n E) {a b : Int} (hb : Bok n (a, b)) (h4 : 4 ≤ f.getD a.toNat 0 + f.getD b.toNat 0) : Spr n (E ++ [(a, b)]) := by
 obtain ⟨h1, h2, h3, h5, h6⟩ := hb
 simp only at h1 h2 h3 h5 h6
 obtain ⟨a, rfl⟩ := Int.eq_ofNat_of_zero_le h1
 obtain ⟨b, rfl⟩ := Int.eq_ofNat_of_zero_le h3
 intro X hX
 rw [Aak] at hX ⊢
 have e1 : spn X [((a : Int), (b : Int))] = if inX X ((a : Int), (b : Int)) = true then 1 else 0 := by rw [Gi]; simp [spn]
 rw [e1] at hX ⊢
 by_cases hin : inX X ((a : Int), (b : Int)) = true
 ·rw [if_pos hin]
  simp only [inX, Bool.and_eq_true] at hin
  have g1 := fsum_ge (n := n) (f := f) (fun e => h6 (by rw [e])) hin.1 hin.2 h.nn n (Nat.le_refl _)
  rw [if_pos (by omega), if_pos (by omega)] at g1
  have g2 := h.sum X
  have g3 := spn_tails X h.tl h.en
  simp only [Int.toNat_natCast] at h4
  have : (spn X E : Int) ≤ T.countP X := by exact_mod_cast g3
  omega
 rw [if_neg hin] at hX ⊢
 have := hE X (by omega)
 omega
theorem Pe {α : Type} (l : List α) (x d : α) (i : Nat) : (l ++ [x]).getD i d = if i < l.length then l.getD i d else if i = l.length then x else d := by
 simp only [List.getD_eq_getElem?_getD, List.getElem?_append]
 split
 ·rfl
 by_cases h : i = l.length
 ·subst h; simp
 rw [if_neg h]
 have : ([x] : List α)[i - l.length]? = none := by simp; omega
 rw [this]; rfl
theorem Gj {α : Type} (l : List α) (i j : Nat) (x d : α) : (l.set i x).getD j d = if i = j ∧ j < l.length then x else l.getD j d := by
 simp only [List.getD_eq_getElem?_getD, List.getElem?_set]
 by_cases h : i = j
 ·subst h
  by_cases h2 : i < l.length
  ·simp [h2]
  simp [h2]
 simp [h]
theorem PInv.put (h : PInv n E f T) {a b t : Int} (hb : Bok n (a, b)) (ht : t = a ∨ t = b) (hf : 1 ≤ f.getD t.toNat 0) : PInv n (E ++ [(a, b)]) (f.set t.toNat (f.getD t.toNat 0 - 1)) (T ++ [t]) := by
 obtain ⟨h1, h2, h3, h5, h6⟩ := id hb
 simp only at h1 h2 h3 h5 h6
 have ht0 : 0 ≤ t ∧ t < n := by rcases ht with rfl | rfl <;> omega
 obtain ⟨t, rfl⟩ := Int.eq_ofNat_of_zero_le ht0.1
 simp only [Int.toNat_natCast] at hf ⊢
 refine ⟨by simp [h.fl], by simp [h.tl], fun e he => ?_, fun i hi => ?_, fun v hv => ?_, fun v hv => ?_⟩
 ·rcases List.mem_append.1 he with he | he
  ·exact h.ok e he
  simp at he; subst he; exact hb
 ·simp at hi
  rw [Pe, Pe, h.tl]
  by_cases hl : i < E.length
  ·rw [if_pos hl, if_pos hl]; exact h.en i hl
  rw [if_neg hl, if_neg hl, if_pos (by omega), if_pos (by omega)]; exact ht
 ·rw [Gj]
  have := h.nn v hv
  split
  ·omega
  exact this
 rw [Gj, List.count_append]
 have := h.sm v hv
 have hl := h.fl
 by_cases e : t = v
 ·subst e
  have hc : List.count (t : Int) [(t : Int)] = 1 := by simp
  rw [if_pos ⟨rfl, by omega⟩, hc]
  push_cast
  omega
 have hc : List.count (v : Int) [(t : Int)] = 0 := List.count_eq_zero.2 fun hm => by simp at hm; omega
 rw [if_neg (fun h => e h.1), hc]
 push_cast
 omega
theorem PInv.rej (h : PInv n E f T) {R : VS} {a b : Int} (hb : Bok n (a, b)) (hcl : ∀ i, i < E.length → R (T.getD i 0) = true → inX R (E.getD i (0, 0)) = true) (ha : R a = true) (hb' : R b = true)
  (hz : ∀ v : Nat, v < n → R (v : Int) = true → (v : Int) ≠ a → (v : Int) ≠ b → f.getD v 0 = 0) (h3 : f.getD a.toNat 0 + f.getD b.toNat 0 ≤ 3) : Tgt n E R := by
 obtain ⟨g1, g2, g3, g4, g5⟩ := id hb
 simp only at g1 g2 g3 g4 g5
 refine ⟨Kr ⟨g1, g2⟩ ⟨g3, g4⟩ g5 ha hb', ?_⟩
 obtain ⟨a, rfl⟩ := Int.eq_ofNat_of_zero_le g1
 obtain ⟨b, rfl⟩ := Int.eq_ofNat_of_zero_le g3
 have a1 := fsum_le (n := n) (X := R) (f := f) (a := a) (b := b) (fun e => g5 (by rw [e])) h.nn (fun v hv hx h1 h2 => hz v hv hx (by omega) (by omega)) n (Nat.le_refl _)
 rw [if_pos (by omega), if_pos (by omega)] at a1
 have a2 := h.sum R
 have a3 := tails_spn R h.tl hcl
 simp only [Int.toNat_natCast] at h3
 have : (T.countP R : Int) ≤ spn R E := by exact_mod_cast a3
 omega
end Go.Proofs.Ytkklfgcelmeccaa
namespace Go.Proofs.Ytkklfgcelmeccaa
variable {n : Nat} {E : List (Int × Int)} {f T : List Int} {a b : Int} {q : List Int} {fr : Int → Int} {k m : Nat}
structure BI (n : Nat) (E : List (Int × Int)) (T : List Int) (a : Int) (q : List Int) (fr : Int → Int) : Prop where
 hd : q.getD 0 0 = a
 pos : 0 < q.length
 nd : q.Nodup
 rg : ∀ v ∈ q, 0 ≤ v ∧ v < n
 st : ∀ j, 0 < j → j < q.length → ∃ j' i : Nat, j' < j ∧ i < E.length ∧ fr (q.getD j 0) = i ∧ T.getD i 0 = q.getD j' 0 ∧ oth (E.getD i (0, 0)) (T.getD i 0) = q.getD j 0
def BZ (f : List Int) (a b : Int) (q : List Int) : Prop := ∀ v ∈ q, v ≠ a → v ≠ b → f.getD v.toNat 0 = 0
def Done (E : List (Int × Int)) (T q : List Int) (k m : Nat) : Prop := (∀ j i : Nat, j < k → i < E.length → T.getD i 0 = q.getD j 0 → oth (E.getD i (0, 0)) (q.getD j 0) ∈ q) ∧ ∀ i : Nat, i < m → i < E.length → T.getD i 0 = q.getD k 0 → oth (E.getD i (0, 0)) (q.getD k 0) ∈ q
theorem BI.start (ha : 0 ≤ a ∧ a < n) : BI n E T a [a] fr := ⟨rfl, by simp, by simp, by simpa using ha, fun j h1 h2 => by simp at h2; omega⟩
theorem Done.start : Done E T q 0 0 := ⟨fun j i h => by omega, fun i h => by omega⟩
theorem Wx : ∀ {n : Nat} {q : List Int}, q.Nodup → (∀ v ∈ q, 0 ≤ v ∧ v < n) → q.length ≤ n
 | 0, q, _, hr => by
  cases q with
  | nil => simp
  | cons x q => have := hr x (by simp); omega
 | n + 1, q, hn, hr => by
  by_cases hm : (n : Int) ∈ q
  ·have ih := Wx (n := n) (hn.erase (n : Int)) fun v hv => by
    have := (hn.mem_erase_iff).1 hv
    have h2 := hr v this.2
    have := this.1
    omega
   rw [List.length_erase_of_mem hm] at ih
   omega
  have ih := Wx (n := n) hn fun v hv => by
   have h2 := hr v hv
   have : v ≠ (n : Int) := fun e => hm (e ▸ hv)
   omega
  omega
theorem BI.len (h : BI n E T a q fr) : q.length ≤ n := Wx h.nd h.rg
theorem Gd {α : Type} {l : List α} {x d : α} {i : Nat} (h : i < l.length) : (l ++ [x]).getD i d = l.getD i d := by rw [Pe, if_pos h]
theorem BI.push (h : BI n E T a q fr) {k i : Nat} {v : Int} (hk : k < q.length) (hi : i < E.length) (ht : T.getD i 0 = q.getD k 0) (hv : oth (E.getD i (0, 0)) (q.getD k 0) = v) (hr : 0 ≤ v ∧ v < n) (hn : v ∉ q) {fr' : Int → Int} (h1 : fr' v = i) (h2 : ∀ w ∈ q, fr' w = fr w) : BI n E T a (q ++ [v]) fr' := by
 refine ⟨by rw [Gd h.pos]; exact h.hd, by simp, List.nodup_append.2 ⟨h.nd, by simp, fun x hx y hy e => hn ?_⟩, fun w hw => ?_, fun j hj hl => ?_⟩
 ·simp at hy; subst hy; subst e; exact hx
 ·rcases List.mem_append.1 hw with hw | hw
  ·exact h.rg w hw
  simp at hw; subst hw; exact hr
 by_cases e : j = q.length
 ·subst e
  refine ⟨k, i, hk, hi, ?_, ?_, ?_⟩
  ·rw [Pe]; simp [h1]
  ·rw [Gd hk]; exact ht
  rw [ht, hv, Pe]; simp
 have hj' : j < q.length := by simp at hl; omega
 obtain ⟨j', i', g1, g2, g3, g4, g5⟩ := h.st j hj hj'
 have hm : q.getD j 0 ∈ q := Dd hj'
 exact ⟨j', i', g1, g2, by rw [Gd hj', h2 _ hm]; exact g3, by rw [Gd (by omega)]; exact g4, by rw [Gd hj']; exact g5⟩
theorem BZ.push (h : BZ f a b q) {v : Int} (hv : v = b ∨ f.getD v.toNat 0 = 0) : BZ f a b (q ++ [v]) := fun w hw h1 h2 => by
 rcases List.mem_append.1 hw with hw | hw
 ·exact h w hw h1 h2
 simp at hw; subst hw; exact hv.resolve_left h2
theorem Done.push (h : Done E T q k m) {v : Int} (hk : k < q.length) : Done E T (q ++ [v]) k m := ⟨fun j i hj hi ht => by
 rw [Gd (by omega)] at ht ⊢
 exact List.mem_append.2 (.inl (h.1 j i hj hi ht)), fun i hm hi ht => by
 rw [Gd hk] at ht ⊢
 exact List.mem_append.2 (.inl (h.2 i hm hi ht))⟩
theorem Done.step (h : Done E T q k m) (hm : m < E.length → T.getD m 0 = q.getD k 0 → oth (E.getD m (0, 0)) (q.getD k 0) ∈ q) : Done E T q k (m + 1) := ⟨h.1, fun i hi hl ht => by
 by_cases e : i = m
 ·subst e; exact hm hl ht
 exact h.2 i (by omega) hl ht⟩
theorem Done.next (h : Done E T q k E.length) : Done E T q (k + 1) 0 := ⟨fun j i hj hi ht => by
 by_cases e : j = k
 ·subst e; exact h.2 i hi hi ht
 exact h.1 j i (by omega) hi ht, fun i h => by omega⟩
def Shut (n : Nat) (E : List (Int × Int)) (f T : List Int) (a b : Int) : Prop := ∃ R : VS, R a = true ∧ (∀ i, i < E.length → R (T.getD i 0) = true → R (oth (E.getD i (0, 0)) (T.getD i 0)) = true) ∧ ∀ v : Nat, v < n → R (v : Int) = true → (v : Int) ≠ a → (v : Int) ≠ b → f.getD v 0 = 0
theorem BI.shut (h : BI n E T a q fr) (hz : BZ f a b q) (hd : Done E T q k 0) (hk : q.length ≤ k) : Shut n E f T a b := by
 refine ⟨fun v => q.contains v, ?_, fun i hi hR => ?_, fun v hv hR h1 h2 => ?_⟩
 ·have : q.getD 0 0 ∈ q := Dd h.pos
  rw [h.hd] at this
  simpa using this
 ·have hR : T.getD i 0 ∈ q := by simpa using hR
  obtain ⟨j, hj, e⟩ := List.mem_iff_getElem.1 hR
  have e' : q.getD j 0 = T.getD i 0 := by rw [List.getD_eq_getElem?_getD, List.getElem?_eq_getElem hj]; exact e
  have := hd.1 j i (by omega) hi e'.symm
  rw [e'] at this
  simpa using this
 have := hz v (by simpa using hR) h1 h2
 simpa using this
theorem Shut.tgt (hp : PInv n E f T) (hb : Bok n (a, b)) (h1 : Shut n E f T a b) (h2 : Shut n E f T b a) (h3 : f.getD a.toNat 0 + f.getD b.toNat 0 ≤ 3) : ∃ X, Tgt n E X ∧ inX X (a, b) = true := by
 obtain ⟨R, r1, r2, r3⟩ := h1
 obtain ⟨S, s1, s2, s3⟩ := h2
 have both : ∀ (R : VS) i, i < E.length → R (T.getD i 0) = true → R (oth (E.getD i (0, 0)) (T.getD i 0)) = true → inX R (E.getD i (0, 0)) = true := by
  intro R i hi g1 g2
  simp only [inX, Bool.and_eq_true]
  rcases hp.en i hi with e | e
  ·rw [e] at g1 g2
   simp only [oth] at g2
   exact ⟨g1, by rwa [show (E.getD i (0, 0)).1 + (E.getD i (0, 0)).2 - (E.getD i (0, 0)).1 = (E.getD i (0, 0)).2 from by omega] at g2⟩
  rw [e] at g1 g2
  simp only [oth] at g2
  exact ⟨by rwa [show (E.getD i (0, 0)).1 + (E.getD i (0, 0)).2 - (E.getD i (0, 0)).2 = (E.getD i (0, 0)).1 from by omega] at g2, g1⟩
 refine ⟨vU R S, hp.rej hb (fun i hi hR => ?_) (by simp [vU, r1]) (by simp [vU, s1]) (fun v hv hR g1 g2 => ?_) h3, by simp [inX, vU, r1, s1]⟩
 ·simp only [vU, Bool.or_eq_true] at hR
  rcases hR with hR | hR
  ·have := both R i hi hR (r2 i hi hR)
   simp only [inX, vU, Bool.and_eq_true, Bool.or_eq_true] at this ⊢
   exact ⟨.inl this.1, .inl this.2⟩
  have := both S i hi hR (s2 i hi hR)
  simp only [inX, vU, Bool.and_eq_true, Bool.or_eq_true] at this ⊢
  exact ⟨.inr this.1, .inr this.2⟩
 simp only [vU, Bool.or_eq_true] at hR
 rcases hR with hR | hR
 ·exact r3 v hv hR g1 g2
 exact s3 v hv hR g2 g1
structure Mv (E : List (Int × Int)) (T T' : List Int) (u at' : Int) : Prop where
 len : T'.length = T.length
 en : ∀ i, i < E.length → T'.getD i 0 = (E.getD i (0, 0)).1 ∨ T'.getD i 0 = (E.getD i (0, 0)).2
 cnt : ∀ v : Int, (T'.count v : Int) + (if v = at' then 1 else 0) = T.count v + (if v = u then 1 else 0)
theorem count_set' {l : List Int} {i : Nat} (h : i < l.length) (x v : Int) : ((l.set i x).count v : Int) = l.count v - (if l.getD i 0 = v then 1 else 0) + (if x = v then 1 else 0) := by
 induction l generalizing i with
 | nil => simp at h
 | cons y l ih =>
  cases i with
  | zero => simp [List.count_cons]; split <;> split <;> omega
  | succ i =>
   have := ih (i := i) (by simpa using h)
   simp only [List.set_cons_succ, List.count_cons, List.getD_cons_succ]
   push_cast
   omega
theorem BI.back (h : BI n E T a q fr) (hp : PInv n E f T) {u : Int} {j : Nat} (hj : 0 < j) (hl : j < q.length) {T' : List Int} (hm : Mv E T T' u (q.getD j 0)) (hun : ∀ j', 0 < j' → j' ≤ j → T'.getD (fr (q.getD j' 0)).toNat 0 = T.getD (fr (q.getD j' 0)).toNat 0) :
  ∃ j' i : Nat, j' < j ∧ i < E.length ∧ fr (q.getD j 0) = i ∧ oth (E.getD i (0, 0)) (q.getD j 0) = q.getD j' 0 ∧ T'.getD i 0 = q.getD j' 0 ∧ Mv E T (T'.set i (q.getD j 0)) u (q.getD j' 0) ∧ ∀ j'', 0 < j'' → j'' ≤ j' → (T'.set i (q.getD j 0)).getD (fr (q.getD j'' 0)).toNat 0 = T.getD (fr (q.getD j'' 0)).toNat 0 := by
 obtain ⟨j', i, g1, g2, g3, g4, g5⟩ := h.st j hj hl
 have e1 := hun j hj (Nat.le_refl _)
 rw [g3, Int.toNat_natCast, g4] at e1
 have e2 : oth (E.getD i (0, 0)) (q.getD j 0) = q.getD j' 0 := by rw [← g5, ← g4]; simp only [oth]; omega
 have hiT : i < T'.length := by rw [hm.len, hp.tl]; exact g2
 refine ⟨j', i, g1, g2, g3, e2, e1, ⟨by simp [hm.len], fun i' hi' => ?_, fun v => ?_⟩, fun j'' h1 h2 => ?_⟩
 ·rw [Gj]
  by_cases e : i = i' ∧ i' < T'.length
  ·rw [if_pos e, ← e.1]
   rcases hp.en i g2 with t | t
   ·right; rw [← g5, t]; simp only [oth]; omega
   left; rw [← g5, t]; simp only [oth]; omega
  rw [if_neg e]; exact hm.en i' hi'
 ·have c1 := hm.cnt v
  rw [count_set' hiT, e1]
  revert c1
  generalize (T'.count v : Int) = x
  generalize (T.count v : Int) = y
  intro c1
  have s1 : (if q.getD j' 0 = v then (1 : Int) else 0) = if v = q.getD j' 0 then 1 else 0 := by split <;> split <;> simp_all
  have s2 : (if q.getD j 0 = v then (1 : Int) else 0) = if v = q.getD j 0 then 1 else 0 := by split <;> split <;> simp_all
  rw [s1, s2]
  omega
 obtain ⟨j3, i3, k1, k2, k3, k4, k5⟩ := h.st j'' h1 (by omega)
 have hne : i ≠ i3 := by
  rintro rfl
  have : q.getD j'' 0 = q.getD j 0 := by rw [← k5, ← g5]
  have hj'' : j'' < q.length := by omega
  rw [List.getD_eq_getElem?_getD, List.getD_eq_getElem?_getD, List.getElem?_eq_getElem hj'', List.getElem?_eq_getElem hl] at this
  have := (List.getElem_inj h.nd).1 this
  omega
 rw [k3, Int.toNat_natCast, Gj, if_neg (fun e => hne e.1)]
 have := hun j'' h1 (by omega)
 rwa [k3, Int.toNat_natCast] at this
theorem Mv.start (hp : PInv n E f T) (u : Int) : Mv E T T u u := ⟨rfl, hp.en, fun v => rfl⟩
structure Won (n : Nat) (E : List (Int × Int)) (f f' T' : List Int) (a b : Int) : Prop where
 inv : PInv n E f' T'
 up : f'.getD a.toNat 0 = f.getD a.toNat 0 + 1
 keep : f'.getD b.toNat 0 = f.getD b.toNat 0
def Wo (f : List Int) (u a : Int) : List Int := (f.set u.toNat (f.getD u.toNat 0 - 1)).set a.toNat ((f.set u.toNat (f.getD u.toNat 0 - 1)).getD a.toNat 0 + 1)
theorem Mv.won (hp : PInv n E f T) {u : Int} {T' : List Int} (hm : Mv E T T' u a) (ha : 0 ≤ a ∧ a < n) (hu : 0 ≤ u ∧ u < n) (hb : 0 ≤ b ∧ b < n) (hua : u ≠ a) (hub : u ≠ b) (hab : a ≠ b) (hf : 1 ≤ f.getD u.toNat 0) : Won n E f (Wo f u a) T' a b := by
 obtain ⟨a, rfl⟩ := Int.eq_ofNat_of_zero_le ha.1
 obtain ⟨u, rfl⟩ := Int.eq_ofNat_of_zero_le hu.1
 obtain ⟨b, rfl⟩ := Int.eq_ofNat_of_zero_le hb.1
 have hl := hp.fl
 have key : ∀ v : Nat, v < n → (Wo f u a).getD v 0 = f.getD v 0 - (if v = u then 1 else 0) + (if v = a then 1 else 0) := by
  intro v hv
  simp only [Wo, Int.toNat_natCast] at hf ⊢
  rw [Gj, Gj, Gj]
  simp only [List.length_set]
  have hua' : u ≠ a := fun e => hua (by rw [e])
  by_cases h1 : v = a
  ·subst h1
   have e1 : (if v = u then (1 : Int) else 0) = 0 := if_neg fun e => hua' e.symm
   rw [e1, if_pos ⟨rfl, by omega⟩, if_neg (fun h => hua' h.1), if_pos rfl]
   omega
  have e1 : (if v = a then (1 : Int) else 0) = 0 := if_neg h1
  rw [e1, if_neg (fun h => h1 h.1.symm)]
  by_cases h2 : v = u
  ·subst h2
   rw [if_pos ⟨rfl, by omega⟩, if_pos rfl]; omega
  rw [if_neg (fun h => h2 h.1.symm), if_neg h2]; omega
 refine ⟨⟨by simp [Wo, hl], hm.len.trans hp.tl, hp.ok, hm.en, fun v hv => ?_, fun v hv => ?_⟩, ?_, ?_⟩
 ·rw [key v hv]
  have := hp.nn v hv
  simp only [Int.toNat_natCast] at hf
  by_cases h1 : v = u
  ·subst h1; split <;> split <;> omega
  rw [if_neg h1]; split <;> omega
 ·rw [key v hv]
  have c := hm.cnt (v : Int)
  have s := hp.sm v hv
  have s1 : (if (v : Int) = (a : Int) then (1 : Int) else 0) = if v = a then 1 else 0 := by split <;> split <;> omega
  have s2 : (if (v : Int) = (u : Int) then (1 : Int) else 0) = if v = u then 1 else 0 := by split <;> split <;> omega
  rw [s1, s2] at c
  omega
 ·simp only [Int.toNat_natCast]
  rw [key a (by omega), if_neg (by omega), if_pos rfl]; omega
 simp only [Int.toNat_natCast]
 rw [key b (by omega), if_neg (by omega), if_neg (by omega)]; omega
end Go.Proofs.Ytkklfgcelmeccaa
namespace Go.Proofs.Ytkklfgcelmeccaa
variable {R σ : Type}
theorem srchA {F : Nat → Int → Option R} {len : Nat} {ok : Nat → Bool} {bad fin : Option R}
  (hs : ∀ n i : Nat, i < len → (∀ j, j < i → ok j = true) → F (n + 1) (i : Int) = cnd (ok i) (F n ((i + 1 : Nat) : Int)) bad) (hf : ∀ n : Nat, (∀ j, j < len → ok j = true) → F (n + 1) (len : Int) = fin) :
  ∀ n i : Nat, i ≤ len → len < n + i → (∀ j, j < i → ok j = true) → F n (i : Int) = cnd ((List.range len).all ok) fin bad := by
 intro n
 induction n with
 | zero => intro i h1 h2; omega
 | succ n ih =>
  intro i h1 h2 h3
  by_cases hi : i < len
  ·rw [hs n i hi h3]
   cases ho : ok i with
   | true =>
    exact ih (i + 1) (by omega) (by omega) fun j hj => by
     rcases Nat.lt_or_ge j i with h | h
     ·exact h3 j h
     rw [show j = i by omega]; exact ho
   | false =>
    have : (List.range len).all ok = false := by
     rw [List.all_eq_false]; exact ⟨i, by simpa using hi, by simp [ho]⟩
    rw [this]; rfl
  obtain rfl : i = len := by omega
  rw [hf n h3]
  have : (List.range i).all ok = true := by
   rw [List.all_eq_true]; intro j hj; exact h3 j (by simpa using hj)
  rw [this]; rfl
theorem srch {F : Nat → Int → Option R} {N len : Nat} {ok : Nat → Bool} {bad fin : Option R} (hN : len < N)
  (hs : ∀ n i : Nat, i < len → (∀ j, j < i → ok j = true) → F (n + 1) (i : Int) = cnd (ok i) (F n ((i + 1 : Nat) : Int)) bad) (hf : ∀ n : Nat, (∀ j, j < len → ok j = true) → F (n + 1) (len : Int) = fin) :
  F N (0 : Int) = cnd ((List.range len).all ok) fin bad :=
 srchA hs hf N 0 (by omega) (by omega) (by omega)
theorem srch1 {F : Nat → Int → Option R} {N len : Nat} {ok : Nat → Bool} {bad fin : Option R} (hN : len + 1 < N) (h0 : ok 0 = true)
  (hs : ∀ n i : Nat, 0 < i → i < len → F (n + 1) (i : Int) = cnd (ok i) (F n ((i + 1 : Nat) : Int)) bad) (hf : ∀ n i : Nat, len ≤ i → F (n + 1) (i : Int) = fin) :
  F N (1 : Int) = cnd ((List.range len).all ok) fin bad := by
 have key : ∀ n i : Nat, 0 < i → i ≤ len + 1 → len + 1 < n + i → (∀ j, j < i → j < len → ok j = true) → F n (i : Int) = cnd ((List.range len).all ok) fin bad := by
  intro n
  induction n with
  | zero => intro i h1 h2 h3 h4; omega
  | succ n ih =>
   intro i h1 h4 h2 h3
   by_cases hi : i < len
   ·rw [hs n i h1 hi]
    cases ho : ok i with
    | true =>
     exact ih (i + 1) (by omega) (by omega) (by omega) fun j hj hl => by
      rcases Nat.lt_or_ge j i with h | h
      ·exact h3 j h hl
      rw [show j = i by omega]; exact ho
    | false =>
     have : (List.range len).all ok = false := by
      rw [List.all_eq_false]; exact ⟨i, by simpa using hi, by simp [ho]⟩
     rw [this]; rfl
   rw [hf n i (by omega)]
   have : (List.range len).all ok = true := by
    rw [List.all_eq_true]; intro j hj; exact h3 j (by have := List.mem_range.1 hj; omega) (by simpa using hj)
   rw [this]; rfl
 exact key N 1 (by omega) (by omega) (by omega) fun j hj _ => by rw [show j = 0 by omega]; exact h0
theorem foldA {F : Nat → σ × Int → Option R} {len : Nat} {st : Nat → σ} {fin : Option R} (hs : ∀ n i : Nat, i < len → F (n + 1) (st i, (i : Int)) = F n (st (i + 1), ((i + 1 : Nat) : Int))) (hf : ∀ n : Nat, F (n + 1) (st len, (len : Int)) = fin) :
  ∀ n i : Nat, i ≤ len → len < n + i → F n (st i, (i : Int)) = fin := by
 intro n
 induction n with
 | zero => intro i h1 h2; omega
 | succ n ih =>
  intro i h1 h2
  by_cases hi : i < len
  ·rw [hs n i hi]; exact ih (i + 1) (by omega) (by omega)
  obtain rfl : i = len := by omega
  exact hf n
theorem fold {F : Nat → σ × Int → Option R} {N len : Nat} {st : Nat → σ} {fin : Option R} (hN : len < N) (hs : ∀ n i : Nat, i < len → F (n + 1) (st i, (i : Int)) = F n (st (i + 1), ((i + 1 : Nat) : Int))) (hf : ∀ n : Nat, F (n + 1) (st len, (len : Int)) = fin) :
  F N (st 0, (0 : Int)) = fin := foldA hs hf N 0 (by omega) (by omega)
theorem cnd_congr {α : Type} {a b : Bool} (h : a = b) (x y : α) : cnd a x y = cnd b x y := by rw [h]
theorem Ei {α : Type} {a b : Bool} (h : a = !b) (x y : α) : cnd a x y = cnd b y x := by subst h; cases b <;> rfl
theorem Am (i : Nat) : ((i : Int) + 1) = ((i + 1 : Nat) : Int) := rfl
theorem Ph (l : List Int) (x : Int) : ((List.range l.length).all fun i => !(l.getD i 0 == x)) = !l.contains x := by
 rw [Bool.eq_iff_iff, List.all_eq_true]
 simp only [List.mem_range, Bool.not_eq_true', beq_eq_false_iff_ne, List.contains_eq_mem, decide_eq_false_iff_not]
 constructor
 ·intro h hx
  obtain ⟨i, hi, he⟩ := List.mem_iff_getElem.1 hx
  exact h i hi (by simp [List.getD_eq_getElem?_getD, hi, he])
 intro h i hi he
 exact h (List.mem_iff_getElem.2 ⟨i, hi, by simpa [List.getD_eq_getElem?_getD, hi] using he⟩)
end Go.Proofs.Ytkklfgcelmeccaa
namespace Go.Proofs.Ytkklfgcelmeccaa
open Go.RowKit
def Qu (N : Nat) (p_0 : Pbl) : Option (Pbl) :=
 grd (p_0.free.length ≤ 4294967296) <|
 grd (p_0.tails.length ≤ 4294967296) <|
 grd (p_0.placed.length ≤ 4294967296) <|
 some (⟨(([] : List Int) ++ p_0.free), (([] : List Int) ++ p_0.tails), (([] : List Int) ++ p_0.placed)⟩ : Pbl)
theorem Aat (N : Nat) (p_0 : Pbl) (r : Pbl) (h : Qu N p_0 = some r) : PCall Try.prog 149 [bD p_0] [(3, .ints r.free), (3, .ints r.tails), (3, .ints r.placed)] (.agg [.row 0 0 r.free.length, .row 1 0 r.tails.length, .row 2 0 r.placed.length]) := by
 unfold Qu at h
 refine Aj (TT := TT) tt Try.func149 rfl rfl Try.ntmps149 (congrArg Array.toList Try.results149) rfl rfl fun w0 => ?_
 refine Ah ?_
 refine Aa ?_
 refine Jc rfl rfl rfl rfl rfl rfl rfl rfl rfl ?_
 refine Cy tt rfl rfl rfl rfl rfl rfl rfl rfl rfl ?_
 refine Af ?_
 change VC _ _ _ _
 refine Ah ?_
 refine Cd 11 [3, 7] [0, 0, 2, 7, 0, 0, 32, 127, 0, 0, 512, 2047, 4095, 8191] (by kernel_rfl) (by kernel_rfl) (by kernel_rfl) (by kernel_rfl) (by kernel_rfl) rfl (by rfl) ?_
 refine nEmpty tt (Ag rfl) rfl rfl rfl rfl rfl ?_
 iterate 2 refine Cz tt rfl (Ag rfl) rfl rfl rfl rfl rfl Tvv ?_
 obtain ⟨hg1, h⟩ := Ab h
 refine nAppNil tt (Ag rfl) rfl rfl rfl rfl rfl rfl rfl rfl (fun _ => rfl) rfl rfl rfl rfl rfl rfl hg1 ?_
 refine nEmpty tt (Ag rfl) rfl rfl rfl rfl rfl ?_
 iterate 2 refine Cz tt rfl (Ag rfl) rfl rfl rfl rfl rfl Tvv ?_
 obtain ⟨hg2, h⟩ := Ab h
 refine nAppNil tt (Ag rfl) rfl rfl rfl rfl rfl rfl rfl rfl (fun _ => rfl) rfl rfl rfl rfl rfl rfl hg2 ?_
 refine nEmpty tt (Ag rfl) rfl rfl rfl rfl rfl ?_
 iterate 2 refine Cz tt rfl (Ag rfl) rfl rfl rfl rfl rfl Tvv ?_
 refine Su ?_
 change VO _ _ _ _ _
 obtain ⟨hg3, h⟩ := Ab h
 refine oAppNil tt (Ag rfl) rfl rfl rfl rfl rfl rfl rfl (fun _ => rfl) rfl rfl rfl rfl rfl hg3 ?_
 refine Sb (Ag rfl) (Pf Dr rfl rfl) rfl rfl ?_
 refine Ax tt rfl rfl rfl rfl rfl rfl rfl rfl rfl rfl rfl ⟨Tvv, Tvv, Tvv, Tvv⟩ ?_
 refine Af ?_
 change VC _ _ _ _
 refine Bh ?_
 change ∃ _, _
 cases h
 exact ⟨[6, 10, 14], _, rfl, ⟨rfl, rfl, rfl, Tvv⟩, rfl, (.eq rfl), rfl⟩
def Gf (N : Nat) (g_0 : Grf) (p_1 : Pbl) (from_2 : List Int) (a_3 : Int) (v1 : Pbl) (k : (List Int) → Option (Pbl)) : Nat → ((List Int) × Int) → Option (Pbl)
 | 0, _ => none
 | n + 1, (l10, at11) =>
  cnd (at11 != a_3) (
   grd (0 ≤ at11 ∧ at11 < (from_2.length : Int)) <|
   grd (0 ≤ (from_2.getD ((at11).toNat) 0) ∧ (from_2.getD ((at11).toNat) 0) < (p_1.placed.length : Int)) <|
   grd (0 ≤ (p_1.placed.getD (((from_2.getD ((at11).toNat) 0)).toNat) 0) ∧ (p_1.placed.getD (((from_2.getD ((at11).toNat) 0)).toNat) 0) < (g_0.bars.length : Int)) <|
   (Hq N (g_0.bars.getD (((p_1.placed.getD (((from_2.getD ((at11).toNat) 0)).toNat) 0)).toNat) (0, 0)) at11).bind fun v13 =>
   grd (0 ≤ (from_2.getD ((at11).toNat) 0) ∧ (from_2.getD ((at11).toNat) 0) < (v1.tails.length : Int)) <|
   grd (0 ≤ (from_2.getD ((at11).toNat) 0) ∧ (from_2.getD ((at11).toNat) 0) < (l10.length : Int)) <|
   Gf N g_0 p_1 from_2 a_3 v1 k n ((l10.set (((from_2.getD ((at11).toNat) 0)).toNat) at11), v13)) (
   k l10)
def Pw (N : Nat) (g_0 : Grf) (p_1 : Pbl) (from_2 : List Int) (a_3 : Int) (u_4 : Int) : Option (Pbl) :=
 (Qu N p_1).bind fun v1 =>
 grd (0 ≤ u_4 ∧ u_4 < (v1.free.length : Int)) <|
 grd (Bk ((v1.free.getD ((u_4).toNat) 0) - (1 : Int))) <|
 grd (0 ≤ a_3 ∧ a_3 < (v1.free.length : Int)) <|
 grd (0 ≤ a_3 ∧ a_3 < ((v1.free.set ((u_4).toNat) ((v1.free.getD ((u_4).toNat) 0) - (1 : Int))).length : Int)) <|
 grd (Bk (((v1.free.set ((u_4).toNat) ((v1.free.getD ((u_4).toNat) 0) - (1 : Int))).getD ((a_3).toNat) 0) + (1 : Int))) <|
 Gf N g_0 p_1 from_2 a_3 v1 (fun (l7 : List Int) =>
    grd (v1.free.length = ((v1.free.set ((u_4).toNat) ((v1.free.getD ((u_4).toNat) 0) - (1 : Int))).set ((a_3).toNat) (((v1.free.set ((u_4).toNat) ((v1.free.getD ((u_4).toNat) 0) - (1 : Int))).getD ((a_3).toNat) 0) + (1 : Int))).length) <|
    grd (v1.tails.length = l7.length) <|
    some (⟨((v1.free.set ((u_4).toNat) ((v1.free.getD ((u_4).toNat) 0) - (1 : Int))).set ((a_3).toNat) (((v1.free.set ((u_4).toNat) ((v1.free.getD ((u_4).toNat) 0) - (1 : Int))).getD ((a_3).toNat) 0) + (1 : Int))), l7, v1.placed⟩ : Pbl)) N (v1.tails, u_4)
theorem Yl (N : Nat) (g_0 : Grf) (p_1 : Pbl) (from_2 : List Int) (a_3 : Int) (u_4 : Int) (r : Pbl) (h : Pw N g_0 p_1 from_2 a_3 u_4 = some r) : PCall Try.prog 160 [gD g_0, bD p_1, .ro false (.ints from_2), .int a_3, .int u_4] [(3, .ints r.free), (3, .ints r.tails), (3, .ints r.placed)] (.agg [.row 0 0 r.free.length, .row 1 0 r.tails.length, .row 2 0 r.placed.length]) := by
 unfold Pw at h
 refine Aj (TT := TT) tt Try.func160 rfl rfl Try.ntmps160 (congrArg Array.toList Try.results160) rfl rfl fun w0 => ?_
 refine Ah ?_
 refine Aa ?_
 iterate 2 refine Jc rfl rfl rfl rfl rfl rfl rfl rfl rfl ?_
 refine Cy tt rfl rfl rfl rfl rfl rfl rfl rfl rfl ?_
 refine Af ?_
 change VC _ _ _ _
 refine Ah ?_
 refine Aa ?_
 refine Ac tt rfl rfl rfl rfl rfl Tvv ?_
 obtain ⟨v1, hc1, h⟩ := Ai h
 refine Bm (Aat N p_1 v1 hc1) rfl rfl rfl rfl rfl rfl rfl rfl ⟨⟨rfl, rfl, rfl, Tvv⟩, Tvv⟩ ?_
 refine Cy tt rfl rfl rfl rfl rfl rfl rfl rfl rfl ?_
 refine Ax tt rfl rfl rfl rfl rfl rfl rfl rfl rfl rfl rfl ⟨Tvv, Tvv, Tvv, Tvv⟩ ?_
 refine Af ?_
 change VC _ _ _ _
 refine Ah ?_
 refine Cd 9 [] [0, 1, 0, 0, 8, 0, 56, 120, 248, 511, 1023] (by kernel_rfl) (by kernel_rfl) (by kernel_rfl) (by kernel_rfl) (by kernel_rfl) rfl (by rfl) ?_
 iterate 6 refine Cz tt rfl (Ag rfl) rfl rfl rfl rfl rfl Tvv ?_
 obtain ⟨hg2, h⟩ := Ab h
 iterate 2 refine Cz tt rfl (Ag rfl) rfl rfl rfl rfl rfl hg2 ?_
 obtain ⟨hg3, h⟩ := Ab h
 refine Cz tt rfl (Ag rfl) rfl rfl rfl rfl rfl hg3 ?_
 refine Su ?_
 change VO _ _ _ _ _
 refine Ac tt rfl rfl rfl rfl rfl hg2 ?_
 refine Ax tt rfl rfl rfl rfl rfl rfl rfl rfl rfl rfl ⟨_, _, rfl, hg2.1, hg2.2⟩ ⟨hg2, Tvv⟩ ?_
 refine Af ?_
 change VC _ _ _ _
 refine Ah ?_
 refine Cd 9 [] [0, 1, 0, 0, 8, 0, 56, 120, 248, 511, 1023] (by kernel_rfl) (by kernel_rfl) (by kernel_rfl) (by kernel_rfl) (by kernel_rfl) rfl (by rfl) ?_
 iterate 6 refine Cz tt rfl (Ag rfl) rfl rfl rfl rfl rfl Tvv ?_
 obtain ⟨hg4, h⟩ := Ab h
 refine Cz tt rfl (Ag rfl) rfl rfl rfl rfl rfl hg4 ?_
 obtain ⟨hg5, h⟩ := Ab h
 refine Cz tt rfl (Ag rfl) rfl rfl rfl rfl rfl hg5 ?_
 obtain ⟨hg6, h⟩ := Ab h
 refine Cz tt rfl (Ag rfl) rfl rfl rfl rfl rfl hg6 ?_
 refine Su ?_
 change VO _ _ _ _ _
 refine Ac tt rfl rfl rfl rfl rfl hg4 ?_
 refine Ax tt rfl rfl rfl rfl rfl rfl rfl rfl rfl rfl ⟨_, _, rfl, hg5.1, hg5.2⟩ ⟨hg5, Tvv⟩ ?_
 refine Af ?_
 change VC _ _ _ _
 refine Ah ?_
 refine Aa ?_
 iterate 2 refine Ac tt rfl rfl rfl rfl rfl Tvv ?_
 refine Af ?_
 change VC _ _ _ _
 refine Ah ?_
 refine Cc (F := fun k => Gf N g_0 p_1 from_2 a_3 v1 k) h (α := List Int) (J := fun (l7 : List Int) => (⟨[(10, .ptr 10 0), (11, .ptr 11 0)], [(1160, some (3, .ints ((v1.free.set ((u_4).toNat) ((v1.free.getD ((u_4).toNat) 0) - (1 : Int))).set ((a_3).toNat) (((v1.free.set ((u_4).toNat) ((v1.free.getD ((u_4).toNat) 0) - (1 : Int))).getD ((a_3).toNat) 0) + (1 : Int))))), (1161, some (3, .ints l7)), (1162, some (3, .ints v1.placed))], [(10, some [.nil, .nil, .nil]), (11, some [.row 1160 0 v1.free.length, .row 1161 0 v1.tails.length, .row 1162 0 v1.placed.length])]⟩ : PS)) ?_ ?_
 ·rintro l7 h
  show VC _ _ _ (⟨[(10, .ptr 10 0), (11, .ptr 11 0)], [(1160, some (3, .ints ((v1.free.set ((u_4).toNat) ((v1.free.getD ((u_4).toNat) 0) - (1 : Int))).set ((a_3).toNat) (((v1.free.set ((u_4).toNat) ((v1.free.getD ((u_4).toNat) 0) - (1 : Int))).getD ((a_3).toNat) 0) + (1 : Int))))), (1161, some (3, .ints l7)), (1162, some (3, .ints v1.placed))], [(10, some [.nil, .nil, .nil]), (11, some [.row 1160 0 v1.free.length, .row 1161 0 v1.tails.length, .row 1162 0 v1.placed.length])]⟩ : PS)
  refine Ah ?_
  refine Aa ?_
  refine Ac tt rfl rfl rfl rfl rfl Tvv ?_
  refine Ax tt rfl rfl rfl rfl rfl rfl rfl rfl rfl rfl rfl ⟨Tvv, Tvv, Tvv, Tvv⟩ ?_
  refine Af ?_
  change VC _ _ _ _
  obtain ⟨hg7, h⟩ := Ab h
  obtain ⟨hg8, h⟩ := Ab h
  refine Bh ?_
  change ∃ _, _
  cases h
  exact ⟨[1160, 1161, 1162], _, rfl, ⟨rfl, rfl, rfl, Tvv⟩, rfl, (.eq (by simp only [hg7, hg8]; rfl)), rfl⟩
 intro k h
 refine Ar ?_
 refine Ba (α := (List Int) × Int) (fun | (l10, at11) => (⟨[(2, .ro false (.ints from_2)), (3, .int a_3), (5, .ptr 5 0), (6, .ptr 6 0), (10, .ptr 10 0), (11, .ptr 11 0), (12, .int at11)], [(1160, some (3, .ints ((v1.free.set ((u_4).toNat) ((v1.free.getD ((u_4).toNat) 0) - (1 : Int))).set ((a_3).toNat) (((v1.free.set ((u_4).toNat) ((v1.free.getD ((u_4).toNat) 0) - (1 : Int))).getD ((a_3).toNat) 0) + (1 : Int))))), (1161, some (3, .ints l10)), (1162, some (3, .ints v1.placed))], [(5, some [.int g_0.n, .ro false (.pairs g_0.bars)]), (6, some [.ro false (.ints p_1.free), .ro false (.ints p_1.tails), .ro false (.ints p_1.placed)]), (10, some [.nil, .nil, .nil]), (11, some [.row 1160 0 v1.free.length, .row 1161 0 v1.tails.length, .row 1162 0 v1.placed.length])]⟩ : PS)) (Gf N g_0 p_1 from_2 a_3 v1 k) h (En.of ⟨rfl, rfl, rfl, rfl, rfl, rfl, rfl, Tvv⟩ ⟨rfl, rfl, rfl, Tvv⟩ ⟨rfl, rfl, rfl, rfl, Tvv⟩) (fun _ => rfl) ?_
 rintro n ⟨l10, at11⟩ h
 rw [Gf] at h
 show VC _ _ _ (⟨[(2, .ro false (.ints from_2)), (3, .int a_3), (5, .ptr 5 0), (6, .ptr 6 0), (10, .ptr 10 0), (11, .ptr 11 0), (12, .int at11)], [(1160, some (3, .ints ((v1.free.set ((u_4).toNat) ((v1.free.getD ((u_4).toNat) 0) - (1 : Int))).set ((a_3).toNat) (((v1.free.set ((u_4).toNat) ((v1.free.getD ((u_4).toNat) 0) - (1 : Int))).getD ((a_3).toNat) 0) + (1 : Int))))), (1161, some (3, .ints l10)), (1162, some (3, .ints v1.placed))], [(5, some [.int g_0.n, .ro false (.pairs g_0.bars)]), (6, some [.ro false (.ints p_1.free), .ro false (.ints p_1.tails), .ro false (.ints p_1.placed)]), (10, some [.nil, .nil, .nil]), (11, some [.row 1160 0 v1.free.length, .row 1161 0 v1.tails.length, .row 1162 0 v1.placed.length])]⟩ : PS)
 iterate 2 refine Ah ?_
 refine Aa ?_
 iterate 3 refine Ac tt rfl rfl rfl rfl rfl Tvv ?_
 refine Af ?_
 change VC _ _ _ _
 refine Av rfl (fun hb9 => ?_) (fun hb9 => ?_)
 ·replace h := Ao hb9 h
  refine Au ?_
  change VC _ _ _ _
  refine Ar ?_
  refine Ah ?_
  refine Aa ?_
  iterate 2 refine Ac tt rfl rfl rfl rfl rfl Tvv ?_
  obtain ⟨hg10, h⟩ := Ab h
  refine Ac tt rfl rfl rfl rfl rfl hg10 ?_
  iterate 2 refine Ac tt rfl rfl rfl rfl rfl Tvv ?_
  refine Af ?_
  change VC _ _ _ _
  refine Ah ?_
  refine Ca (by kernel_rfl) (by kernel_rfl) ?_
  iterate 5 refine Bi tt rfl (Ag rfl) rfl rfl rfl Tvv ?_
  obtain ⟨hg11, h⟩ := Ab h
  refine Bi tt rfl (Ag rfl) rfl rfl rfl hg11 ?_
  refine Bi tt rfl (Ag rfl) rfl rfl rfl Tvv ?_
  obtain ⟨hg12, h⟩ := Ab h
  refine Bi tt rfl (Ag rfl) rfl rfl rfl hg12 ?_
  iterate 2 refine Bi tt rfl (Ag rfl) rfl rfl rfl Tvv ?_
  obtain ⟨v13, hc13, h⟩ := Ai h
  refine Mq (Mt N (g_0.bars.getD (((p_1.placed.getD (((from_2.getD ((at11).toNat) 0)).toNat) 0)).toNat) (0, 0)) at11 v13 hc13) rfl (Ag rfl) rfl rfl rfl rfl rfl rfl ⟨⟨rfl, rfl, Tvv⟩, rfl, Tvv⟩ ?_
  refine Bi tt rfl (Ag rfl) rfl rfl rfl Tvv ?_
  refine Lo ?_
  change VC _ _ _ _
  refine Ah ?_
  refine Aa ?_
  iterate 4 refine Ac tt rfl rfl rfl rfl rfl Tvv ?_
  obtain ⟨hg14, h⟩ := Ab h
  refine Ac tt rfl rfl rfl rfl rfl hg14 ?_
  obtain ⟨hg15, h⟩ := Ab h
  refine Ax tt rfl rfl rfl rfl rfl rfl rfl rfl rfl rfl ⟨_, _, rfl, hg15.1, hg15.2⟩ ⟨hg15, Tvv⟩ ?_
  refine Af ?_
  change VC _ _ _ _
  refine Aa ?_
  iterate 2 refine Ac tt rfl rfl rfl rfl rfl Tvv ?_
  refine Af ?_
  change ∃ _, _
  exact ⟨((l10.set (((from_2.getD ((at11).toNat) 0)).toNat) at11), v13), (En.of ⟨rfl, rfl, rfl, rfl, rfl, rfl, rfl, Tvv⟩ ⟨rfl, rfl, rfl, Tvv⟩ ⟨rfl, rfl, rfl, rfl, Tvv⟩), h⟩
 replace h := Ap hb9 h
 refine Bl ?_
 change ∃ _, _
 exact ⟨l10, (En.of ⟨rfl, rfl, Tvv⟩ ⟨rfl, rfl, rfl, Tvv⟩ ⟨rfl, rfl, Tvv⟩), h⟩
end Go.Proofs.Ytkklfgcelmeccaa
namespace Go.Proofs.Ytkklfgcelmeccaa
open Go.RowKit
def Hv (N : Nat) (p_0 : Pbl) : Option (Pbl) :=
 (Jh N p_0.free).bind fun v1 =>
 (Jh N p_0.tails).bind fun v2 =>
 (Jh N p_0.placed).bind fun v3 =>
 some (⟨v1, v2, v3⟩ : Pbl)
theorem Xj (N : Nat) (p_0 : Pbl) (r : Pbl) (h : Hv N p_0 = some r) : PCall Try.prog 169 [bD p_0] [(3, .ints r.free), (3, .ints r.tails), (3, .ints r.placed)] (.agg [.row 0 0 r.free.length, .row 1 0 r.tails.length, .row 2 0 r.placed.length]) := by
 unfold Hv at h
 refine Aj (TT := TT) tt Try.func169 rfl rfl Try.ntmps169 (congrArg Array.toList Try.results169) rfl rfl fun w0 => ?_
 refine Ah ?_
 refine Aa ?_
 refine Jc rfl rfl rfl rfl rfl rfl rfl rfl rfl ?_
 refine Cy tt rfl rfl rfl rfl rfl rfl rfl rfl rfl ?_
 refine Af ?_
 change VC _ _ _ _
 refine Ah ?_
 refine Cd 8 [2, 5] [0, 1, 3, 0, 8, 31, 0, 64, 255, 511, 1023] (by kernel_rfl) (by kernel_rfl) (by kernel_rfl) (by kernel_rfl) (by kernel_rfl) rfl (by rfl) ?_
 iterate 2 refine Cz tt rfl (Ag rfl) rfl rfl rfl rfl rfl Tvv ?_
 obtain ⟨v1, hc1, h⟩ := Ai h
 refine Pg (Pu N p_0.free v1 hc1) rfl (Ag rfl) rfl rfl rfl rfl rfl rfl (by first | rfl | kernel_rfl | (simp [nrL, nm, Fj, nmT, Gu]; done)) rfl (by first | rfl | kernel_rfl | (simp [Kp, nrL, nm, Fj, nmT, Gu, hid, Fp, Dg, Cj]; done) | (simp [Kp, nrL, nm, Fj, nmT, Gu, hid, Fp, Dg, Cj]; decide)) ⟨rfl, Tvv⟩ ?_
 iterate 2 refine Cz tt rfl (Ag rfl) rfl rfl rfl rfl rfl Tvv ?_
 obtain ⟨v2, hc2, h⟩ := Ai h
 refine Pg (Pu N p_0.tails v2 hc2) rfl (Ag rfl) rfl rfl rfl rfl rfl rfl (by first | rfl | kernel_rfl | (simp [nrL, nm, Fj, nmT, Gu]; done)) rfl (by first | rfl | kernel_rfl | (simp [Kp, nrL, nm, Fj, nmT, Gu, hid, Fp, Dg, Cj]; done) | (simp [Kp, nrL, nm, Fj, nmT, Gu, hid, Fp, Dg, Cj]; decide)) ⟨rfl, Tvv⟩ ?_
 iterate 2 refine Cz tt rfl (Ag rfl) rfl rfl rfl rfl rfl Tvv ?_
 refine Su ?_
 change VO _ _ _ _ _
 obtain ⟨v3, hc3, h⟩ := Ai h
 refine Bm (Pu N p_0.placed v3 hc3) rfl rfl rfl rfl rfl rfl rfl rfl ⟨rfl, Tvv⟩ ?_
 refine Sb (Ag rfl) (Pf Dr rfl rfl) rfl rfl ?_
 refine Ax tt rfl rfl rfl rfl rfl rfl rfl rfl rfl rfl rfl ⟨Tvv, Tvv, Tvv, Tvv⟩ ?_
 refine Af ?_
 change VC _ _ _ _
 refine Bh ?_
 change ∃ _, _
 cases h
 exact ⟨[1050, 1080, 1110], _, rfl, ⟨rfl, rfl, rfl, Tvv⟩, rfl, (.eq rfl), rfl⟩
end Go.Proofs.Ytkklfgcelmeccaa
namespace Go.Proofs.Ytkklfgcelmeccaa
open Go.RowKit
def Hk (N : Nat) (p_1 : Pbl) (a_2 : Int) (from298 : List (Int × Int)) (x299 : Int) (v307 : Int) (k : (List Int) → Option (Bool × (List Int) × (List Int) × (List Int))) : Nat → ((List Int) × Int) → Option (Bool × (List Int) × (List Int) × (List Int))
 | 0, _ => none
 | n + 1, (l312, at313) =>
  cnd (at313 != a_2) (
   grd (0 ≤ (Zb (Ti from298 v307 x299) at313) ∧ (Zb (Ti from298 v307 x299) at313) < (p_1.tails.length : Int)) <|
   grd (0 ≤ (Zb (Ti from298 v307 x299) at313) ∧ (Zb (Ti from298 v307 x299) at313) < (l312.length : Int)) <|
   Hk N p_1 a_2 from298 x299 v307 k n ((l312.set (((Zb (Ti from298 v307 x299) at313)).toNat) at313), (l312.getD (((Zb (Ti from298 v307 x299) at313)).toNat) 0))) (
   k l312)
def Dm (N : Nat) (bars_0 : List (Int × Int)) (p_1 : Pbl) (a_2 : Int) (b_3 : Int) (i211 : Int) (k : ((List Int) × (List (Int × Int))) → Option (Bool × (List Int) × (List Int) × (List Int))) : Nat → ((List Int) × (List (Int × Int)) × Int) → Option (Bool × (List Int) × (List Int) × (List Int))
 | 0, _ => none
 | n + 1, (l297, from298, x299) =>
  cnd (decide (x299 < (p_1.placed.length : Int))) (
   grd (0 ≤ x299 ∧ x299 < (p_1.placed.length : Int)) <|
   grd (0 ≤ x299 ∧ x299 < (p_1.tails.length : Int)) <|
   grd (0 ≤ i211 ∧ i211 < (l297.length : Int)) <|
   cnd ((p_1.tails.getD ((x299).toNat) 0) != (l297.getD ((i211).toNat) 0)) (
    grd (Bk (x299 + (1 : Int))) <|
    Dm N bars_0 p_1 a_2 b_3 i211 k n (l297, from298, (x299 + (1 : Int)))) (
    grd (0 ≤ (p_1.placed.getD ((x299).toNat) 0) ∧ (p_1.placed.getD ((x299).toNat) 0) < (bars_0.length : Int)) <|
    (Fz N (bars_0.getD (((p_1.placed.getD ((x299).toNat) 0)).toNat) (0, 0)) (l297.getD ((i211).toNat) 0)).bind fun v307 =>
    cnd (Zn from298 v307) (
     grd (Bk (x299 + (1 : Int))) <|
     Dm N bars_0 p_1 a_2 b_3 i211 k n (l297, from298, (x299 + (1 : Int)))) (
     cnd (v307 == b_3) (
      grd (l297.length + 1 ≤ 4294967296) <|
      grd (Bk (x299 + (1 : Int))) <|
      Dm N bars_0 p_1 a_2 b_3 i211 k n ((l297 ++ ([v307] : List Int)), (Ti from298 v307 x299), (x299 + (1 : Int)))) (
      grd (0 ≤ v307 ∧ v307 < (p_1.free.length : Int)) <|
      cnd ((p_1.free.getD ((v307).toNat) 0) == (0 : Int)) (
       grd (l297.length + 1 ≤ 4294967296) <|
       grd (Bk (x299 + (1 : Int))) <|
       Dm N bars_0 p_1 a_2 b_3 i211 k n ((l297 ++ ([v307] : List Int)), (Ti from298 v307 x299), (x299 + (1 : Int)))) (
       grd (Bk ((p_1.free.getD ((v307).toNat) 0) - (1 : Int))) <|
       grd (0 ≤ a_2 ∧ a_2 < (p_1.free.length : Int)) <|
       grd (0 ≤ a_2 ∧ a_2 < ((p_1.free.set ((v307).toNat) ((p_1.free.getD ((v307).toNat) 0) - (1 : Int))).length : Int)) <|
       grd (Bk (((p_1.free.set ((v307).toNat) ((p_1.free.getD ((v307).toNat) 0) - (1 : Int))).getD ((a_2).toNat) 0) + (1 : Int))) <|
       Hk N p_1 a_2 from298 x299 v307 (fun (l310 : List Int) =>
          grd (p_1.free.length = ((p_1.free.set ((v307).toNat) ((p_1.free.getD ((v307).toNat) 0) - (1 : Int))).set ((a_2).toNat) (((p_1.free.set ((v307).toNat) ((p_1.free.getD ((v307).toNat) 0) - (1 : Int))).getD ((a_2).toNat) 0) + (1 : Int))).length) <|
          grd (p_1.tails.length = l310.length) <|
          some (true, ((p_1.free.set ((v307).toNat) ((p_1.free.getD ((v307).toNat) 0) - (1 : Int))).set ((a_2).toNat) (((p_1.free.set ((v307).toNat) ((p_1.free.getD ((v307).toNat) 0) - (1 : Int))).getD ((a_2).toNat) 0) + (1 : Int))), l310, p_1.placed)) N (p_1.tails, v307)))))) (
   k (l297, from298))
def Da (N : Nat) (bars_0 : List (Int × Int)) (p_1 : Pbl) (a_2 : Int) (b_3 : Int) (k : Unit → Option (Bool × (List Int) × (List Int) × (List Int))) : Nat → ((List Int) × (List (Int × Int)) × Int) → Option (Bool × (List Int) × (List Int) × (List Int))
 | 0, _ => none
 | n + 1, (l209, from210, i211) =>
  cnd (decide (i211 < (l209.length : Int))) (
   Dm N bars_0 p_1 a_2 b_3 i211 (fun (x : (List Int) × (List (Int × Int))) =>
     match x with
     | (l287, from288) =>
      grd (Bk (i211 + (1 : Int))) <|
      Da N bars_0 p_1 a_2 b_3 k n (l287, from288, (i211 + (1 : Int)))) N (l209, from210, (0 : Int))) (
   k ())
def Ms (N : Nat) (bars_0 : List (Int × Int)) (p_1 : Pbl) (a_2 : Int) (b_3 : Int) : Option (Bool × (List Int) × (List Int) × (List Int)) :=
 Da N bars_0 p_1 a_2 b_3 (fun (_ : Unit) =>
    some (false, p_1.free, p_1.tails, p_1.placed)) N (([a_2] : List Int), (Ti ([] : List (Int × Int)) a_2 (-1 : Int)), (0 : Int))
theorem Zz (N : Nat) (bars_0 : List (Int × Int)) (p_1 : Pbl) (a_2 : Int) (b_3 : Int) (r : Bool × (List Int) × (List Int) × (List Int)) (h : Ms N bars_0 p_1 a_2 b_3 = some r) : MCall Try.prog 177 [.ro false (.pairs bars_0), .ptr 1000001 0, .int a_2, .int b_3] [900010, 900011, 900012] [1000001] [(3, .ints p_1.free), (3, .ints p_1.tails), (3, .ints p_1.placed)] [(3, .ints r.2.1), (3, .ints r.2.2.1), (3, .ints r.2.2.2)] [[.row 900010 0 p_1.free.length, .row 900011 0 p_1.tails.length, .row 900012 0 p_1.placed.length]] [[.row 900010 0 r.2.1.length, .row 900011 0 r.2.2.1.length, .row 900012 0 r.2.2.2.length]] (.bool r.1) := by
 unfold Ms at h
 refine Eb (TT := TT) tt Try.func177 rfl rfl Try.ntmps177 (congrArg Array.toList Try.results177) rfl rfl rfl rfl rfl fun w0 O0 => ?_
 refine Ah ?_
 refine Aa ?_
 refine Ac tt rfl rfl rfl rfl rfl Tvv ?_
 refine Af ?_
 change VC _ _ _ _
 refine Ah ?_
 refine Aa ?_
 refine oMakeMap rfl rfl rfl rfl fun mk2 hmk2 => ?_
 refine Ac tt rfl rfl rfl rfl rfl Tvv ?_
 refine oMapSet tt hmk2 rfl (by first | exact .inl rfl | exact .inr rfl) rfl rfl rfl rfl rfl rfl ?_
 repeat (first | refine mapC_nil ?_ | refine mapC_hit ?_ | refine mapC_same rfl ?_ | refine mapC_dead ?_)
 change VO _ _ _ _ _
 iterate 2 refine Ac tt rfl rfl rfl rfl rfl Tvv ?_
 refine Af ?_
 change VC _ _ _ _
 refine Ah ?_
 refine Aa ?_
 refine Ac tt rfl rfl rfl rfl rfl Tvv ?_
 refine Dt tt rfl rfl rfl rfl rfl rfl rfl rfl rfl rfl rfl ?_
 refine Ac tt rfl rfl rfl rfl rfl Tvv ?_
 refine Af ?_
 change VC _ _ _ _
 iterate 2 refine Ah ?_
 refine Aa ?_
 refine Ac tt rfl rfl rfl rfl rfl Tvv ?_
 refine Af ?_
 change VC _ _ _ _
 refine Cc (F := fun k => Da N bars_0 p_1 a_2 b_3 k) h (α := Unit) (J := fun (_ : Unit) => (⟨[], [(900010, some (3, .ints p_1.free)), (900011, some (3, .ints p_1.tails)), (900012, some (3, .ints p_1.placed))], [(1000001, some [.row 900010 0 p_1.free.length, .row 900011 0 p_1.tails.length, .row 900012 0 p_1.placed.length])]⟩ : PS)) ?_ ?_
 ·rintro ⟨⟩ h
  show VC _ _ _ (⟨[], [(900010, some (3, .ints p_1.free)), (900011, some (3, .ints p_1.tails)), (900012, some (3, .ints p_1.placed))], [(1000001, some [.row 900010 0 p_1.free.length, .row 900011 0 p_1.tails.length, .row 900012 0 p_1.placed.length])]⟩ : PS)
  refine Ah ?_
  refine Aa ?_
  refine Ac tt rfl rfl rfl rfl rfl Tvv ?_
  refine Af ?_
  change VC _ _ _ _
  refine Bh ?_
  change ∃ _, _
  cases h
  exact ⟨[900010, 900011, 900012], rfl, ⟨rfl, rfl, rfl, Tvv⟩, ⟨rfl, Tvv⟩, rfl⟩
 intro k h
 refine Ar ?_
 refine Ba (α := (List Int) × (List (Int × Int)) × Int) (fun | (l209, from210, i211) => (⟨[(0, .ro false (.pairs bars_0)), (1, .ptr 1000001 0), (2, .int a_2), (3, .int b_3), (9, .map mk2 from210), (10, .row 24 0 l209.length), (11, .int i211)], [(24, some (3, .ints l209)), (900010, some (3, .ints p_1.free)), (900011, some (3, .ints p_1.tails)), (900012, some (3, .ints p_1.placed))], [(1000001, some [.row 900010 0 p_1.free.length, .row 900011 0 p_1.tails.length, .row 900012 0 p_1.placed.length])]⟩ : PS)) (Da N bars_0 p_1 a_2 b_3 k) h (En.of ⟨rfl, rfl, rfl, rfl, rfl, rfl, rfl, Tvv⟩ ⟨rfl, rfl, rfl, rfl, Tvv⟩ ⟨rfl, Tvv⟩) (fun _ => rfl) ?_
 rintro n ⟨l209, from210, i211⟩ h
 rw [Da] at h
 show VC _ _ _ (⟨[(0, .ro false (.pairs bars_0)), (1, .ptr 1000001 0), (2, .int a_2), (3, .int b_3), (9, .map mk2 from210), (10, .row 24 0 l209.length), (11, .int i211)], [(24, some (3, .ints l209)), (900010, some (3, .ints p_1.free)), (900011, some (3, .ints p_1.tails)), (900012, some (3, .ints p_1.placed))], [(1000001, some [.row 900010 0 p_1.free.length, .row 900011 0 p_1.tails.length, .row 900012 0 p_1.placed.length])]⟩ : PS)
 iterate 2 refine Ah ?_
 refine Aa ?_
 iterate 4 refine Ac tt rfl rfl rfl rfl rfl Tvv ?_
 refine Af ?_
 change VC _ _ _ _
 refine Av rfl (fun hb2 => ?_) (fun hb2 => ?_)
 ·replace h := Ao hb2 h
  refine Au ?_
  change VC _ _ _ _
  refine Ah ?_
  refine Ar ?_
  refine Ah ?_
  refine Aa ?_
  iterate 6 refine Ac tt rfl rfl rfl rfl rfl Tvv ?_
  refine Af ?_
  change VC _ _ _ _
  refine Cc (F := fun k => Dm N bars_0 p_1 a_2 b_3 i211 k) h (α := (List Int) × (List (Int × Int))) (J := fun | (l287, from288) => (⟨[(0, .ro false (.pairs bars_0)), (1, .ptr 1000001 0), (2, .int a_2), (3, .int b_3), (9, .map mk2 from288), (10, .row 24 0 l287.length), (11, .int i211)], [(24, some (3, .ints l287)), (900010, some (3, .ints p_1.free)), (900011, some (3, .ints p_1.tails)), (900012, some (3, .ints p_1.placed))], [(1000001, some [.row 900010 0 p_1.free.length, .row 900011 0 p_1.tails.length, .row 900012 0 p_1.placed.length])]⟩ : PS)) ?_ ?_
  ·rintro ⟨l287, from288⟩ h
   show VC _ _ _ (⟨[(0, .ro false (.pairs bars_0)), (1, .ptr 1000001 0), (2, .int a_2), (3, .int b_3), (9, .map mk2 from288), (10, .row 24 0 l287.length), (11, .int i211)], [(24, some (3, .ints l287)), (900010, some (3, .ints p_1.free)), (900011, some (3, .ints p_1.tails)), (900012, some (3, .ints p_1.placed))], [(1000001, some [.row 900010 0 p_1.free.length, .row 900011 0 p_1.tails.length, .row 900012 0 p_1.placed.length])]⟩ : PS)
   refine Aa ?_
   refine Ac tt rfl rfl rfl rfl rfl Tvv ?_
   obtain ⟨hg3, h⟩ := Ab h
   refine Ac tt rfl rfl rfl rfl rfl hg3 ?_
   refine Ac tt rfl rfl rfl rfl rfl Tvv ?_
   refine Af ?_
   change ∃ _, _
   exact ⟨(l287, from288, (i211 + (1 : Int))), (En.of ⟨rfl, rfl, rfl, rfl, rfl, rfl, rfl, Tvv⟩ ⟨rfl, rfl, rfl, rfl, Tvv⟩ ⟨rfl, Tvv⟩), h⟩
  intro k h
  refine Ar ?_
  refine Ba (α := (List Int) × (List (Int × Int)) × Int) (fun | (l297, from298, x299) => (⟨[(0, .ro false (.pairs bars_0)), (1, .ptr 1000001 0), (2, .int a_2), (3, .int b_3), (9, .map mk2 from298), (10, .row 24 0 l297.length), (11, .int i211), (34, .row 900012 0 p_1.placed.length), (35, .int (p_1.placed.length : Int)), (36, .int x299)], [(24, some (3, .ints l297)), (900012, some (3, .ints p_1.placed)), (900010, some (3, .ints p_1.free)), (900011, some (3, .ints p_1.tails))], [(1000001, some [.row 900010 0 p_1.free.length, .row 900011 0 p_1.tails.length, .row 900012 0 p_1.placed.length])]⟩ : PS)) (Dm N bars_0 p_1 a_2 b_3 i211 k) h (En.of ⟨rfl, rfl, rfl, rfl, rfl, rfl, rfl, rfl, rfl, rfl, Tvv⟩ ⟨rfl, rfl, rfl, rfl, Tvv⟩ ⟨rfl, Tvv⟩) (fun _ => rfl) ?_
  rintro n ⟨l297, from298, x299⟩ h
  rw [Dm] at h
  show VC _ _ _ (⟨[(0, .ro false (.pairs bars_0)), (1, .ptr 1000001 0), (2, .int a_2), (3, .int b_3), (9, .map mk2 from298), (10, .row 24 0 l297.length), (11, .int i211), (34, .row 900012 0 p_1.placed.length), (35, .int (p_1.placed.length : Int)), (36, .int x299)], [(24, some (3, .ints l297)), (900012, some (3, .ints p_1.placed)), (900010, some (3, .ints p_1.free)), (900011, some (3, .ints p_1.tails))], [(1000001, some [.row 900010 0 p_1.free.length, .row 900011 0 p_1.tails.length, .row 900012 0 p_1.placed.length])]⟩ : PS)
  refine Ah ?_
  refine Aa ?_
  refine Ac tt rfl rfl rfl rfl rfl Tvv ?_
  refine Af ?_
  change VC _ _ _ _
  refine Ah ?_
  refine Av rfl (fun hb4 => ?_) (fun hb4 => ?_)
  ·replace h := Ao hb4 h
   refine Au ?_
   change VC _ _ _ _
   refine Ah ?_
   refine Ar ?_
   refine Ah ?_
   refine Aa ?_
   refine Ac tt rfl rfl rfl rfl rfl Tvv ?_
   obtain ⟨hg5, h⟩ := Ab h
   iterate 2 refine Ac tt rfl rfl rfl rfl rfl hg5 ?_
   iterate 2 refine Ac tt rfl rfl rfl rfl rfl Tvv ?_
   refine Af ?_
   change VC _ _ _ _
   iterate 2 refine Ah ?_
   refine Ca (by kernel_rfl) (by kernel_rfl) ?_
   iterate 5 refine Bi tt rfl (Ag rfl) rfl rfl rfl Tvv ?_
   obtain ⟨hg6, h⟩ := Ab h
   iterate 2 refine Bi tt rfl (Ag rfl) rfl rfl rfl hg6 ?_
   iterate 2 refine Bi tt rfl (Ag rfl) rfl rfl rfl Tvv ?_
   obtain ⟨hg7, h⟩ := Ab h
   iterate 2 refine Bi tt rfl (Ag rfl) rfl rfl rfl hg7 ?_
   refine Bi tt rfl (Ag rfl) rfl rfl rfl Tvv ?_
   refine Lo ?_
   change VC _ _ _ _
   refine Av rfl (fun hb8 => ?_) (fun hb8 => ?_)
   ·replace h := Ao hb8 h
    refine Bl ?_
    change VC _ _ _ _
    refine Aa ?_
    obtain ⟨hg9, h⟩ := Ab h
    refine Ac tt rfl rfl rfl rfl rfl hg9 ?_
    refine Ac tt rfl rfl rfl rfl rfl Tvv ?_
    refine Af ?_
    change ∃ _, _
    exact ⟨(l297, from298, (x299 + (1 : Int))), (En.of ⟨rfl, rfl, rfl, rfl, rfl, rfl, rfl, rfl, rfl, rfl, Tvv⟩ ⟨rfl, rfl, rfl, rfl, Tvv⟩ ⟨rfl, Tvv⟩), h⟩
   replace h := Ap hb8 h
   refine Au ?_
   change VC _ _ _ _
   refine Ah ?_
   refine Ca (by kernel_rfl) (by kernel_rfl) ?_
   iterate 2 refine Bi tt rfl (Ag rfl) rfl rfl rfl Tvv ?_
   obtain ⟨hg10, h⟩ := Ab h
   refine Bi tt rfl (Ag rfl) rfl rfl rfl hg10 ?_
   iterate 3 refine Bi tt rfl (Ag rfl) rfl rfl rfl Tvv ?_
   iterate 2 refine Bi tt rfl (Ag rfl) rfl rfl rfl hg7 ?_
   obtain ⟨v307, hc11, h⟩ := Ai h
   refine Mq (Td N (bars_0.getD (((p_1.placed.getD ((x299).toNat) 0)).toNat) (0, 0)) (l297.getD ((i211).toNat) 0) v307 hc11) rfl (Ag rfl) rfl rfl rfl rfl rfl rfl ⟨⟨rfl, rfl, Tvv⟩, rfl, Tvv⟩ ?_
   refine Bi tt rfl (Ag rfl) rfl rfl rfl Tvv ?_
   refine Lo ?_
   change VC _ _ _ _
   iterate 2 refine Ah ?_
   refine Aa ?_
   iterate 8 refine Ac tt rfl rfl rfl rfl rfl Tvv ?_
   refine Af ?_
   change VC _ _ _ _
   refine Ah ?_
   refine Aa ?_
   refine Ac tt rfl rfl rfl rfl rfl Tvv ?_
   refine Af ?_
   change VC _ _ _ _
   refine Av rfl (fun hb12 => ?_) (fun hb12 => ?_)
   ·replace h := Ao hb12 h
    refine Bl ?_
    change VC _ _ _ _
    refine Aa ?_
    obtain ⟨hg13, h⟩ := Ab h
    refine Ac tt rfl rfl rfl rfl rfl hg13 ?_
    refine Ac tt rfl rfl rfl rfl rfl Tvv ?_
    refine Af ?_
    change ∃ _, _
    exact ⟨(l297, from298, (x299 + (1 : Int))), (En.of ⟨rfl, rfl, rfl, rfl, rfl, rfl, rfl, rfl, rfl, rfl, Tvv⟩ ⟨rfl, rfl, rfl, rfl, Tvv⟩ ⟨rfl, Tvv⟩), h⟩
   replace h := Ap hb12 h
   refine Au ?_
   change VC _ _ _ _
   refine Ah ?_
   refine Aa ?_
   iterate 3 refine Ac tt rfl rfl rfl rfl rfl Tvv ?_
   refine oMapSet tt hmk2 rfl (by first | exact .inl rfl | exact .inr rfl) rfl rfl rfl rfl rfl rfl ?_
   repeat (first | refine mapC_nil ?_ | refine mapC_hit ?_ | refine mapC_same rfl ?_ | refine mapC_dead ?_)
   change VO _ _ _ _ _
   refine Af ?_
   change VC _ _ _ _
   iterate 2 refine Ah ?_
   refine Aa ?_
   iterate 4 refine Ac tt rfl rfl rfl rfl rfl Tvv ?_
   refine Dc rfl rfl rfl (fun hb14 => ?_) (fun hb14 => ?_)
   ·replace h := Ao hb14 h
    iterate 8 refine Tv rfl rfl rfl rfl hb14 rfl rfl ?_
    refine Eo rfl rfl rfl rfl rfl hb14 rfl ?_
    refine Af ?_
    change VC _ _ _ _
    refine Ev rfl rfl ?_
    refine Ah ?_
    refine Aa ?_
    iterate 2 refine Ac tt rfl rfl rfl rfl rfl Tvv ?_
    refine Dt tt rfl rfl rfl rfl rfl rfl rfl rfl rfl rfl rfl ?_
    obtain ⟨hg15, h⟩ := Ab h
    refine Cp tt rfl rfl rfl rfl rfl rfl rfl rfl rfl rfl rfl rfl rfl rfl rfl rfl (Nat.le_of_eq (Nat.zero_add _)) hg15 ?_
    refine Ac tt rfl rfl rfl rfl rfl Tvv ?_
    refine Af ?_
    change VC _ _ _ _
    refine Bl ?_
    change VC _ _ _ _
    refine Aa ?_
    obtain ⟨hg16, h⟩ := Ab h
    refine Ac tt rfl rfl rfl rfl rfl hg16 ?_
    refine Ac tt rfl rfl rfl rfl rfl Tvv ?_
    refine Af ?_
    change ∃ _, _
    exact ⟨((l297 ++ ([v307] : List Int)), (Ti from298 v307 x299), (x299 + (1 : Int))), (En.of ⟨rfl, rfl, rfl, rfl, rfl, rfl, rfl, rfl, rfl, rfl, Tvv⟩ ⟨rfl, rfl, rfl, rfl, Tvv⟩ ⟨rfl, Tvv⟩), h⟩
   replace h := Ap hb14 h
   iterate 5 refine Cl tt rfl rfl rfl rfl rfl hb14 rfl rfl rfl Tvv ?_
   obtain ⟨hg17, h⟩ := Ab h
   iterate 2 refine Cl tt rfl rfl rfl rfl rfl hb14 rfl rfl rfl hg17 ?_
   refine Cl tt rfl rfl rfl rfl rfl hb14 rfl rfl rfl Tvv ?_
   refine Cv rfl rfl rfl rfl rfl hb14 rfl ?_
   refine Af ?_
   change VC _ _ _ _
   refine Av rfl (fun hb18 => ?_) (fun hb18 => ?_)
   ·replace h := Ao hb18 h
    refine Ah ?_
    refine Aa ?_
    iterate 2 refine Ac tt rfl rfl rfl rfl rfl Tvv ?_
    refine Dt tt rfl rfl rfl rfl rfl rfl rfl rfl rfl rfl rfl ?_
    obtain ⟨hg19, h⟩ := Ab h
    refine Cp tt rfl rfl rfl rfl rfl rfl rfl rfl rfl rfl rfl rfl rfl rfl rfl rfl (Nat.le_of_eq (Nat.zero_add _)) hg19 ?_
    refine Ac tt rfl rfl rfl rfl rfl Tvv ?_
    refine Af ?_
    change VC _ _ _ _
    refine Bl ?_
    change VC _ _ _ _
    refine Aa ?_
    obtain ⟨hg20, h⟩ := Ab h
    refine Ac tt rfl rfl rfl rfl rfl hg20 ?_
    refine Ac tt rfl rfl rfl rfl rfl Tvv ?_
    refine Af ?_
    change ∃ _, _
    exact ⟨((l297 ++ ([v307] : List Int)), (Ti from298 v307 x299), (x299 + (1 : Int))), (En.of ⟨rfl, rfl, rfl, rfl, rfl, rfl, rfl, rfl, rfl, rfl, Tvv⟩ ⟨rfl, rfl, rfl, rfl, Tvv⟩ ⟨rfl, Tvv⟩), h⟩
   replace h := Ap hb18 h
   refine Au ?_
   change VC _ _ _ _
   refine Ah ?_
   refine Aa ?_
   iterate 5 refine Ac tt rfl rfl rfl rfl rfl Tvv ?_
   iterate 2 refine Ac tt rfl rfl rfl rfl rfl hg17 ?_
   obtain ⟨hg21, h⟩ := Ab h
   refine Ac tt rfl rfl rfl rfl rfl hg21 ?_
   refine Ac tt rfl rfl rfl rfl rfl hg17 ?_
   refine Ax tt rfl rfl rfl rfl rfl rfl rfl rfl rfl rfl ⟨_, _, rfl, hg17.1, hg17.2⟩ ⟨hg17, Tvv⟩ ?_
   refine Af ?_
   change VC _ _ _ _
   refine Ah ?_
   refine Aa ?_
   iterate 5 refine Ac tt rfl rfl rfl rfl rfl Tvv ?_
   obtain ⟨hg22, h⟩ := Ab h
   refine Ac tt rfl rfl rfl rfl rfl hg22 ?_
   obtain ⟨hg23, h⟩ := Ab h
   refine Ac tt rfl rfl rfl rfl rfl hg23 ?_
   obtain ⟨hg24, h⟩ := Ab h
   refine Ac tt rfl rfl rfl rfl rfl hg24 ?_
   refine Ac tt rfl rfl rfl rfl rfl hg22 ?_
   refine Ax tt rfl rfl rfl rfl rfl rfl rfl rfl rfl rfl ⟨_, _, rfl, hg23.1, hg23.2⟩ ⟨hg23, Tvv⟩ ?_
   refine Af ?_
   change VC _ _ _ _
   iterate 2 refine Ah ?_
   refine Aa ?_
   iterate 2 refine Ac tt rfl rfl rfl rfl rfl Tvv ?_
   refine Af ?_
   change VC _ _ _ _
   refine Cc (F := fun k => Hk N p_1 a_2 from298 x299 v307 k) h (α := List Int) (J := fun (l310 : List Int) => (⟨[], [(900010, some (3, .ints ((p_1.free.set ((v307).toNat) ((p_1.free.getD ((v307).toNat) 0) - (1 : Int))).set ((a_2).toNat) (((p_1.free.set ((v307).toNat) ((p_1.free.getD ((v307).toNat) 0) - (1 : Int))).getD ((a_2).toNat) 0) + (1 : Int))))), (900011, some (3, .ints l310)), (900012, some (3, .ints p_1.placed))], [(1000001, some [.row 900010 0 p_1.free.length, .row 900011 0 p_1.tails.length, .row 900012 0 p_1.placed.length])]⟩ : PS)) ?_ ?_
   ·rintro l310 h
    show VC _ _ _ (⟨[], [(900010, some (3, .ints ((p_1.free.set ((v307).toNat) ((p_1.free.getD ((v307).toNat) 0) - (1 : Int))).set ((a_2).toNat) (((p_1.free.set ((v307).toNat) ((p_1.free.getD ((v307).toNat) 0) - (1 : Int))).getD ((a_2).toNat) 0) + (1 : Int))))), (900011, some (3, .ints l310)), (900012, some (3, .ints p_1.placed))], [(1000001, some [.row 900010 0 p_1.free.length, .row 900011 0 p_1.tails.length, .row 900012 0 p_1.placed.length])]⟩ : PS)
    refine Ah ?_
    refine Aa ?_
    refine Ac tt rfl rfl rfl rfl rfl Tvv ?_
    refine Af ?_
    change VC _ _ _ _
    obtain ⟨hg25, h⟩ := Ab h
    refine vRowB 1000001 0 900010 rfl rfl hg25 rfl ?_
    obtain ⟨hg26, h⟩ := Ab h
    refine vRowB 1000001 1 900011 rfl rfl hg26 rfl ?_
    refine Bh ?_
    change ∃ _, _
    cases h
    exact ⟨[900010, 900011, 900012], rfl, ⟨rfl, rfl, rfl, Tvv⟩, ⟨rfl, Tvv⟩, rfl⟩
   intro k h
   refine Ar ?_
   refine Ba (α := (List Int) × Int) (fun | (l312, at313) => (⟨[(1, .ptr 1000001 0), (2, .int a_2), (9, .map mk2 (Ti from298 v307 x299)), (17, .int at313)], [(900010, some (3, .ints ((p_1.free.set ((v307).toNat) ((p_1.free.getD ((v307).toNat) 0) - (1 : Int))).set ((a_2).toNat) (((p_1.free.set ((v307).toNat) ((p_1.free.getD ((v307).toNat) 0) - (1 : Int))).getD ((a_2).toNat) 0) + (1 : Int))))), (900011, some (3, .ints l312)), (900012, some (3, .ints p_1.placed))], [(1000001, some [.row 900010 0 p_1.free.length, .row 900011 0 p_1.tails.length, .row 900012 0 p_1.placed.length])]⟩ : PS)) (Hk N p_1 a_2 from298 x299 v307 k) h (En.of ⟨rfl, rfl, rfl, rfl, Tvv⟩ ⟨rfl, rfl, rfl, Tvv⟩ ⟨rfl, Tvv⟩) (fun _ => rfl) ?_
   rintro n ⟨l312, at313⟩ h
   rw [Hk] at h
   show VC _ _ _ (⟨[(1, .ptr 1000001 0), (2, .int a_2), (9, .map mk2 (Ti from298 v307 x299)), (17, .int at313)], [(900010, some (3, .ints ((p_1.free.set ((v307).toNat) ((p_1.free.getD ((v307).toNat) 0) - (1 : Int))).set ((a_2).toNat) (((p_1.free.set ((v307).toNat) ((p_1.free.getD ((v307).toNat) 0) - (1 : Int))).getD ((a_2).toNat) 0) + (1 : Int))))), (900011, some (3, .ints l312)), (900012, some (3, .ints p_1.placed))], [(1000001, some [.row 900010 0 p_1.free.length, .row 900011 0 p_1.tails.length, .row 900012 0 p_1.placed.length])]⟩ : PS)
   iterate 2 refine Ah ?_
   refine Aa ?_
   iterate 3 refine Ac tt rfl rfl rfl rfl rfl Tvv ?_
   refine Af ?_
   change VC _ _ _ _
   refine Av rfl (fun hb27 => ?_) (fun hb27 => ?_)
   ·replace h := Ao hb27 h
    refine Au ?_
    change VC _ _ _ _
    refine Ar ?_
    refine Ah ?_
    refine Aa ?_
    iterate 4 refine Ac tt rfl rfl rfl rfl rfl Tvv ?_
    refine Af ?_
    change VC _ _ _ _
    refine Ah ?_
    refine Aa ?_
    iterate 5 refine Ac tt rfl rfl rfl rfl rfl Tvv ?_
    obtain ⟨hg28, h⟩ := Ab h
    refine Ac tt rfl rfl rfl rfl rfl hg28 ?_
    obtain ⟨hg29, h⟩ := Ab h
    refine Ac tt rfl rfl rfl rfl rfl hg29 ?_
    refine Ac tt rfl rfl rfl rfl rfl Tvv ?_
    refine Af ?_
    change VC _ _ _ _
    refine Ah ?_
    refine Aa ?_
    iterate 6 refine Ac tt rfl rfl rfl rfl rfl Tvv ?_
    refine Ac tt rfl rfl rfl rfl rfl hg28 ?_
    refine Ax tt rfl rfl rfl rfl rfl rfl rfl rfl rfl rfl ⟨_, _, rfl, hg29.1, hg29.2⟩ ⟨hg29, Tvv⟩ ?_
    refine Af ?_
    change VC _ _ _ _
    refine Aa ?_
    iterate 2 refine Ac tt rfl rfl rfl rfl rfl Tvv ?_
    refine Af ?_
    change ∃ _, _
    exact ⟨((l312.set (((Zb (Ti from298 v307 x299) at313)).toNat) at313), (l312.getD (((Zb (Ti from298 v307 x299) at313)).toNat) 0)), (En.of ⟨rfl, rfl, rfl, rfl, Tvv⟩ ⟨rfl, rfl, rfl, Tvv⟩ ⟨rfl, Tvv⟩), h⟩
   replace h := Ap hb27 h
   refine Bl ?_
   change ∃ _, _
   exact ⟨l312, (En.of trivial ⟨rfl, rfl, rfl, Tvv⟩ ⟨rfl, Tvv⟩), h⟩
  replace h := Ap hb4 h
  refine Bl ?_
  change ∃ _, _
  exact ⟨(l297, from298), (En.of ⟨rfl, rfl, rfl, rfl, rfl, rfl, rfl, Tvv⟩ ⟨rfl, rfl, rfl, rfl, Tvv⟩ ⟨rfl, Tvv⟩), h⟩
 replace h := Ap hb2 h
 refine Bl ?_
 change ∃ _, _
 exact ⟨(), (En.of trivial ⟨rfl, rfl, rfl, Tvv⟩ ⟨rfl, Tvv⟩), h⟩
def Ex (N : Nat) (bars_0 : List (Int × Int)) (a_2 : Int) (b_3 : Int) (want_4 : Int) (k : ((List Int) × (List Int) × (List Int)) → Option (Bool × (List Int) × (List Int) × (List Int))) : Nat → ((List Int) × (List Int) × (List Int)) → Option (Bool × (List Int) × (List Int) × (List Int))
 | 0, _ => none
 | n + 1, (l16, l17, l18) =>
  grd (0 ≤ a_2 ∧ a_2 < (l16.length : Int)) <|
  grd (0 ≤ b_3 ∧ b_3 < (l16.length : Int)) <|
  grd (Bk ((l16.getD ((a_2).toNat) 0) + (l16.getD ((b_3).toNat) 0))) <|
  cnd (decide (((l16.getD ((a_2).toNat) 0) + (l16.getD ((b_3).toNat) 0)) < want_4)) (
   (Ms N bars_0 (⟨l16, l17, l18⟩ : Pbl) a_2 b_3).bind fun v21 =>
   cnd (!v21.1) (
    (Ms N bars_0 (⟨v21.2.1, v21.2.2.1, v21.2.2.2⟩ : Pbl) b_3 a_2).bind fun v22 =>
    cnd (!v22.1) (
     some (false, v22.2.1, v22.2.2.1, v22.2.2.2)) (
     Ex N bars_0 a_2 b_3 want_4 k n (v22.2.1, v22.2.2.1, v22.2.2.2))) (
    Ex N bars_0 a_2 b_3 want_4 k n (v21.2.1, v21.2.2.1, v21.2.2.2))) (
   k (l16, l17, l18))
def Tc (N : Nat) (bars_0 : List (Int × Int)) (p_1 : Pbl) (a_2 : Int) (b_3 : Int) (want_4 : Int) : Option (Bool × (List Int) × (List Int) × (List Int)) :=
 Ex N bars_0 a_2 b_3 want_4 (fun (x : (List Int) × (List Int) × (List Int)) =>
   match x with
   | (l10, l11, l12) =>
    some (true, l10, l11, l12)) N (p_1.free, p_1.tails, p_1.placed)
theorem I_gather_w (N : Nat) (bars_0 : List (Int × Int)) (p_1 : Pbl) (a_2 : Int) (b_3 : Int) (want_4 : Int) (r : Bool × (List Int) × (List Int) × (List Int)) (h : Tc N bars_0 p_1 a_2 b_3 want_4 = some r) : MCall Try.prog 175 [.ro false (.pairs bars_0), .ptr 1000001 0, .int a_2, .int b_3, .int want_4] [900010, 900011, 900012] [1000001] [(3, .ints p_1.free), (3, .ints p_1.tails), (3, .ints p_1.placed)] [(3, .ints r.2.1), (3, .ints r.2.2.1), (3, .ints r.2.2.2)] [[.row 900010 0 p_1.free.length, .row 900011 0 p_1.tails.length, .row 900012 0 p_1.placed.length]] [[.row 900010 0 r.2.1.length, .row 900011 0 r.2.2.1.length, .row 900012 0 r.2.2.2.length]] (.bool r.1) := by
 unfold Tc at h
 refine Eb (TT := TT) tt Try.func175 rfl rfl Try.ntmps175 (congrArg Array.toList Try.results175) rfl rfl rfl rfl rfl fun w0 O0 => ?_
 refine Ah ?_
 refine Aa ?_
 refine Ac tt rfl rfl rfl rfl rfl Tvv ?_
 refine Af ?_
 change VC _ _ _ _
 refine Ah ?_
 refine Cc (F := fun k => Ex N bars_0 a_2 b_3 want_4 k) h (α := (List Int) × (List Int) × (List Int)) (J := fun | (l10, l11, l12) => (⟨[], [(900010, some (3, .ints l10)), (900011, some (3, .ints l11)), (900012, some (3, .ints l12))], [(1000001, some [.row 900010 0 l10.length, .row 900011 0 l11.length, .row 900012 0 l12.length])]⟩ : PS)) ?_ ?_
 ·rintro ⟨l10, l11, l12⟩ h
  show VC _ _ _ (⟨[], [(900010, some (3, .ints l10)), (900011, some (3, .ints l11)), (900012, some (3, .ints l12))], [(1000001, some [.row 900010 0 l10.length, .row 900011 0 l11.length, .row 900012 0 l12.length])]⟩ : PS)
  refine Ah ?_
  refine Aa ?_
  refine Ac tt rfl rfl rfl rfl rfl Tvv ?_
  refine Af ?_
  change VC _ _ _ _
  refine Bh ?_
  change ∃ _, _
  cases h
  exact ⟨[900010, 900011, 900012], rfl, ⟨rfl, rfl, rfl, Tvv⟩, ⟨rfl, Tvv⟩, rfl⟩
 intro k h
 refine Ar ?_
 refine Ba (α := (List Int) × (List Int) × (List Int)) (fun | (l16, l17, l18) => (⟨[(0, .ro false (.pairs bars_0)), (1, .ptr 1000001 0), (2, .int a_2), (3, .int b_3), (4, .int want_4)], [(900010, some (3, .ints l16)), (900011, some (3, .ints l17)), (900012, some (3, .ints l18))], [(1000001, some [.row 900010 0 l16.length, .row 900011 0 l17.length, .row 900012 0 l18.length])]⟩ : PS)) (Ex N bars_0 a_2 b_3 want_4 k) h (En.of ⟨rfl, rfl, rfl, rfl, rfl, Tvv⟩ ⟨rfl, rfl, rfl, Tvv⟩ ⟨rfl, Tvv⟩) (fun _ => rfl) ?_
 rintro n ⟨l16, l17, l18⟩ h
 rw [Ex] at h
 show VC _ _ _ (⟨[(0, .ro false (.pairs bars_0)), (1, .ptr 1000001 0), (2, .int a_2), (3, .int b_3), (4, .int want_4)], [(900010, some (3, .ints l16)), (900011, some (3, .ints l17)), (900012, some (3, .ints l18))], [(1000001, some [.row 900010 0 l16.length, .row 900011 0 l17.length, .row 900012 0 l18.length])]⟩ : PS)
 iterate 2 refine Ah ?_
 refine Ca (by kernel_rfl) (by kernel_rfl) ?_
 iterate 5 refine Bi tt rfl (Ag rfl) rfl rfl rfl Tvv ?_
 obtain ⟨hg1, h⟩ := Ab h
 iterate 2 refine Bi tt rfl (Ag rfl) rfl rfl rfl hg1 ?_
 iterate 5 refine Bi tt rfl (Ag rfl) rfl rfl rfl Tvv ?_
 obtain ⟨hg2, h⟩ := Ab h
 iterate 2 refine Bi tt rfl (Ag rfl) rfl rfl rfl hg2 ?_
 obtain ⟨hg3, h⟩ := Ab h
 refine Bi tt rfl (Ag rfl) rfl rfl rfl hg3 ?_
 iterate 2 refine Bi tt rfl (Ag rfl) rfl rfl rfl Tvv ?_
 refine Lo ?_
 change VC _ _ _ _
 refine Av rfl (fun hb4 => ?_) (fun hb4 => ?_)
 ·replace h := Ao hb4 h
  refine Au ?_
  change VC _ _ _ _
  refine Ar ?_
  refine Ah ?_
  refine Aa ?_
  iterate 4 refine Ac tt rfl rfl rfl rfl rfl Tvv ?_
  obtain ⟨v21, hc5, h⟩ := Ai h
  refine Tf (Zz N bars_0 (⟨l16, l17, l18⟩ : Pbl) a_2 b_3 v21 hc5) [900010, 900011, 900012] [1000001] [1320, 1321, 1322] rfl rfl rfl rfl rfl rfl ⟨rfl, rfl, rfl, Tvv⟩ ⟨rfl, Tvv⟩ ⟨.inl rfl, ⟨rfl, rfl⟩, ⟨rfl, rfl⟩, ⟨rfl, rfl⟩, Tvv⟩ ?_
  iterate 2 refine Ac tt rfl rfl rfl rfl rfl Tvv ?_
  refine Dc rfl rfl rfl (fun hb6 => ?_) (fun hb6 => ?_)
  ·replace h := Ao hb6 h
   iterate 4 refine Cl tt rfl rfl rfl rfl rfl hb6 rfl rfl rfl Tvv ?_
   obtain ⟨v22, hc7, h⟩ := Ai h
   refine oMCallG (Zz N bars_0 (⟨v21.2.1, v21.2.2.1, v21.2.2.2⟩ : Pbl) b_3 a_2 v22 hc7) [1320, 1321, 1322] [1000001] [1390, 1391, 1392] rfl rfl rfl rfl hb6 rfl rfl rfl rfl rfl ⟨rfl, rfl, rfl, Tvv⟩ ⟨rfl, Tvv⟩ ⟨.inl rfl, ⟨rfl, rfl⟩, ⟨rfl, rfl⟩, ⟨rfl, rfl⟩, Tvv⟩ ?_
   refine Cl tt rfl rfl rfl rfl rfl hb6 rfl rfl rfl Tvv ?_
   refine Eo rfl rfl rfl rfl rfl hb6 rfl ?_
   refine Af ?_
   change VC _ _ _ _
   refine Av rfl (fun hb8 => ?_) (fun hb8 => ?_)
   ·replace h := Ao hb8 h
    refine Ah ?_
    refine Aa ?_
    refine Ac tt rfl rfl rfl rfl rfl Tvv ?_
    refine Af ?_
    change VC _ _ _ _
    refine Bh ?_
    change ∃ _, _
    cases h
    exact ⟨[1390, 1391, 1392], rfl, ⟨rfl, rfl, rfl, Tvv⟩, ⟨rfl, Tvv⟩, rfl⟩
   replace h := Ap hb8 h
   refine Au ?_
   change ∃ _, _
   exact ⟨(v22.2.1, v22.2.2.1, v22.2.2.2), (En.ren [900010, 900011, 900012] [1390, 1391, 1392] rfl ⟨.inr rfl, .inr rfl, .inr rfl, .inr rfl, .inr rfl, Tvv⟩ ⟨.inr rfl, .inr rfl, .inr rfl, Tvv⟩ ⟨.inr ⟨_, _, rfl, rfl, ⟨.inr rfl, .inr rfl, .inr rfl, Tvv⟩⟩, Tvv⟩), h⟩
  replace h := Ap hb6 h
  iterate 6 refine Zf rfl rfl rfl rfl hb6 rfl rfl ?_
  refine Cv rfl rfl rfl rfl rfl hb6 rfl ?_
  refine Af ?_
  change VC _ _ _ _
  refine Gw rfl rfl ?_
  refine Au ?_
  change ∃ _, _
  exact ⟨(v21.2.1, v21.2.2.1, v21.2.2.2), (En.ren [900010, 900011, 900012] [1320, 1321, 1322] rfl ⟨.inr rfl, .inr rfl, .inr rfl, .inr rfl, .inr rfl, Tvv⟩ ⟨.inr rfl, .inr rfl, .inr rfl, Tvv⟩ ⟨.inr ⟨_, _, rfl, rfl, ⟨.inr rfl, .inr rfl, .inr rfl, Tvv⟩⟩, Tvv⟩), h⟩
 replace h := Ap hb4 h
 refine Bl ?_
 change ∃ _, _
 exact ⟨(l16, l17, l18), (En.of trivial ⟨rfl, rfl, rfl, Tvv⟩ ⟨rfl, Tvv⟩), h⟩
def Rw (N : Nat) (bars_0 : List (Int × Int)) (l_1 : Int) (p_2 : Pbl) (e_3 : Int) : Option (Bool × (List Int) × (List Int) × (List Int)) :=
 grd (0 ≤ e_3 ∧ e_3 < (bars_0.length : Int)) <|
 grd (Bk (l_1 + (1 : Int))) <|
 (Tc N bars_0 (⟨p_2.free, p_2.tails, p_2.placed⟩ : Pbl) ((bars_0.getD ((e_3).toNat) (0, 0)).1) ((bars_0.getD ((e_3).toNat) (0, 0)).2) (l_1 + (1 : Int))).bind fun v1 =>
 cnd (!v1.1) (
  some (false, v1.2.1, v1.2.2.1, v1.2.2.2)) (
  grd (0 ≤ ((bars_0.getD ((e_3).toNat) (0, 0)).1) ∧ ((bars_0.getD ((e_3).toNat) (0, 0)).1) < (v1.2.1.length : Int)) <|
  jn (fun (tail2 : Int) =>
     grd (0 ≤ tail2 ∧ tail2 < (v1.2.1.length : Int)) <|
     grd (Bk ((v1.2.1.getD ((tail2).toNat) 0) - (1 : Int))) <|
     grd (v1.2.2.1.length + 1 ≤ 4294967296) <|
     grd (v1.2.2.2.length + 1 ≤ 4294967296) <|
     grd (v1.2.1.length = (v1.2.1.set ((tail2).toNat) ((v1.2.1.getD ((tail2).toNat) 0) - (1 : Int))).length) <|
     some (true, (v1.2.1.set ((tail2).toNat) ((v1.2.1.getD ((tail2).toNat) 0) - (1 : Int))), (v1.2.2.1 ++ ([tail2] : List Int)), (v1.2.2.2 ++ ([e_3] : List Int)))) fun k3 =>
   cnd ((v1.2.1.getD (((bars_0.getD ((e_3).toNat) (0, 0)).1).toNat) 0) == (0 : Int)) (
    k3 ((bars_0.getD ((e_3).toNat) (0, 0)).2)) (
    k3 ((bars_0.getD ((e_3).toNat) (0, 0)).1)))
theorem I_place_w (N : Nat) (bars_0 : List (Int × Int)) (l_1 : Int) (p_2 : Pbl) (e_3 : Int) (r : Bool × (List Int) × (List Int) × (List Int)) (h : Rw N bars_0 l_1 p_2 e_3 = some r) : MCall Try.prog 170 [.ro false (.pairs bars_0), .int l_1, .ptr 1000002 0, .int e_3] [900020, 900021, 900022] [1000002] [(3, .ints p_2.free), (3, .ints p_2.tails), (3, .ints p_2.placed)] [(3, .ints r.2.1), (3, .ints r.2.2.1), (3, .ints r.2.2.2)] [[.row 900020 0 p_2.free.length, .row 900021 0 p_2.tails.length, .row 900022 0 p_2.placed.length]] [[.row 900020 0 r.2.1.length, .row 900021 0 r.2.2.1.length, .row 900022 0 r.2.2.2.length]] (.bool r.1) := by
 unfold Rw at h
 refine Eb (TT := TT) tt Try.func170 rfl rfl Try.ntmps170 (congrArg Array.toList Try.results170) rfl rfl rfl rfl rfl fun w0 O0 => ?_
 refine Ah ?_
 refine Aa ?_
 refine Ac tt rfl rfl rfl rfl rfl Tvv ?_
 refine Af ?_
 change VC _ _ _ _
 refine Ah ?_
 refine Aa ?_
 iterate 2 refine Ac tt rfl rfl rfl rfl rfl Tvv ?_
 obtain ⟨hg1, h⟩ := Ab h
 refine Ac tt rfl rfl rfl rfl rfl hg1 ?_
 refine Ac tt rfl rfl rfl rfl rfl Tvv ?_
 refine Cy tt rfl rfl rfl rfl rfl rfl rfl rfl rfl ?_
 refine Ax tt rfl rfl rfl rfl rfl rfl rfl rfl rfl rfl rfl ⟨Tvv, Tvv, Tvv⟩ ?_
 refine Af ?_
 change VC _ _ _ _
 iterate 2 refine Ah ?_
 refine Aa ?_
 iterate 7 refine Ac tt rfl rfl rfl rfl rfl Tvv ?_
 obtain ⟨hg2, h⟩ := Ab h
 refine Ac tt rfl rfl rfl rfl rfl hg2 ?_
 obtain ⟨v1, hc3, h⟩ := Ai h
 refine Tf (I_gather_w N bars_0 (⟨p_2.free, p_2.tails, p_2.placed⟩ : Pbl) ((bars_0.getD ((e_3).toNat) (0, 0)).1) ((bars_0.getD ((e_3).toNat) (0, 0)).2) (l_1 + (1 : Int)) v1 hc3) [900020, 900021, 900022] [1000002] [1230, 1231, 1232] rfl rfl rfl rfl rfl rfl ⟨rfl, rfl, rfl, Tvv⟩ ⟨rfl, Tvv⟩ ⟨.inl rfl, ⟨rfl, rfl⟩, ⟨rfl, rfl⟩, ⟨rfl, rfl⟩, ⟨rfl, rfl⟩, Tvv⟩ ?_
 refine Ac tt rfl rfl rfl rfl rfl Tvv ?_
 refine Af ?_
 change VC _ _ _ _
 refine Av rfl (fun hb4 => ?_) (fun hb4 => ?_)
 ·replace h := Ao hb4 h
  refine Ah ?_
  refine Aa ?_
  refine Ac tt rfl rfl rfl rfl rfl Tvv ?_
  refine Af ?_
  change VC _ _ _ _
  refine Bh ?_
  change ∃ _, _
  cases h
  exact ⟨[1230, 1231, 1232], rfl, ⟨rfl, rfl, rfl, Tvv⟩, ⟨rfl, Tvv⟩, rfl⟩
 replace h := Ap hb4 h
 refine Au ?_
 change VC _ _ _ _
 refine Ah ?_
 refine Aa ?_
 iterate 3 refine Ac tt rfl rfl rfl rfl rfl Tvv ?_
 refine Af ?_
 change VC _ _ _ _
 iterate 2 refine Ah ?_
 refine Ca (by kernel_rfl) (by kernel_rfl) ?_
 iterate 6 refine Bi tt rfl (Ag rfl) rfl rfl rfl Tvv ?_
 obtain ⟨hg5, h⟩ := Ab h
 iterate 2 refine Bi tt rfl (Ag rfl) rfl rfl rfl hg5 ?_
 refine Bi tt rfl (Ag rfl) rfl rfl rfl Tvv ?_
 refine Lo ?_
 change VC _ _ _ _
 refine vJoinN h (α := Int) (J := fun (tail2 : Int) => (⟨[(2, .ptr 1000002 0), (3, .int e_3), (10, .int tail2)], [(1230, some (3, .ints v1.2.1)), (1231, some (3, .ints v1.2.2.1)), (1232, some (3, .ints v1.2.2.2))], [(1000002, some [.row 1230 0 v1.2.1.length, .row 1231 0 v1.2.2.1.length, .row 1232 0 v1.2.2.2.length])]⟩ : PS)) ?_ ?_
 ·rintro tail2 h
  show VC _ _ _ (⟨[(2, .ptr 1000002 0), (3, .int e_3), (10, .int tail2)], [(1230, some (3, .ints v1.2.1)), (1231, some (3, .ints v1.2.2.1)), (1232, some (3, .ints v1.2.2.2))], [(1000002, some [.row 1230 0 v1.2.1.length, .row 1231 0 v1.2.2.1.length, .row 1232 0 v1.2.2.2.length])]⟩ : PS)
  refine Ah ?_
  refine Aa ?_
  iterate 5 refine Ac tt rfl rfl rfl rfl rfl Tvv ?_
  obtain ⟨hg6, h⟩ := Ab h
  iterate 2 refine Ac tt rfl rfl rfl rfl rfl hg6 ?_
  obtain ⟨hg7, h⟩ := Ab h
  refine Ac tt rfl rfl rfl rfl rfl hg7 ?_
  refine Ac tt rfl rfl rfl rfl rfl hg6 ?_
  refine Ax tt rfl rfl rfl rfl rfl rfl rfl rfl rfl rfl ⟨_, _, rfl, hg6.1, hg6.2⟩ ⟨hg6, Tvv⟩ ?_
  refine Af ?_
  change VC _ _ _ _
  refine Ah ?_
  refine Aa ?_
  iterate 6 refine Ac tt rfl rfl rfl rfl rfl Tvv ?_
  refine Dt tt rfl rfl rfl rfl rfl rfl rfl rfl rfl rfl rfl ?_
  obtain ⟨hg8, h⟩ := Ab h
  refine Cp tt rfl rfl rfl rfl rfl rfl rfl rfl rfl rfl rfl rfl rfl rfl rfl rfl (Nat.le_of_eq (Nat.zero_add _)) hg8 ?_
  iterate 2 refine Ac tt rfl rfl rfl rfl rfl Tvv ?_
  refine Ax tt rfl rfl rfl rfl rfl rfl rfl rfl rfl rfl rfl ⟨Tvv, Tvv⟩ ?_
  refine Af ?_
  change VC _ _ _ _
  refine Ah ?_
  refine Aa ?_
  iterate 6 refine Ac tt rfl rfl rfl rfl rfl Tvv ?_
  refine Dt tt rfl rfl rfl rfl rfl rfl rfl rfl rfl rfl rfl ?_
  obtain ⟨hg9, h⟩ := Ab h
  refine Cp tt rfl rfl rfl rfl rfl rfl rfl rfl rfl rfl rfl rfl rfl rfl rfl rfl (Nat.le_of_eq (Nat.zero_add _)) hg9 ?_
  iterate 2 refine Ac tt rfl rfl rfl rfl rfl Tvv ?_
  refine Ax tt rfl rfl rfl rfl rfl rfl rfl rfl rfl rfl rfl ⟨Tvv, Tvv⟩ ?_
  refine Af ?_
  change VC _ _ _ _
  refine Ah ?_
  refine Aa ?_
  refine Ac tt rfl rfl rfl rfl rfl Tvv ?_
  refine Af ?_
  change VC _ _ _ _
  obtain ⟨hg10, h⟩ := Ab h
  refine vRowB 1000002 0 1230 rfl rfl hg10 rfl ?_
  refine Bh ?_
  change ∃ _, _
  cases h
  exact ⟨[1230, 1231, 1232], rfl, ⟨rfl, rfl, rfl, Tvv⟩, ⟨rfl, Tvv⟩, rfl⟩
 intro k3 h
 refine Av rfl (fun hb11 => ?_) (fun hb11 => ?_)
 ·replace h := Ao hb11 h
  refine Aa ?_
  iterate 3 refine Ac tt rfl rfl rfl rfl rfl Tvv ?_
  refine Af ?_
  change ∃ _, _
  exact ⟨(bars_0.getD ((e_3).toNat) (0, 0)).2, (En.of ⟨rfl, rfl, rfl, Tvv⟩ ⟨rfl, rfl, rfl, Tvv⟩ ⟨rfl, Tvv⟩), h⟩
 replace h := Ap hb11 h
 refine Au ?_
 change ∃ _, _
 exact ⟨(bars_0.getD ((e_3).toNat) (0, 0)).1, (En.of ⟨rfl, rfl, rfl, Tvv⟩ ⟨rfl, rfl, rfl, Tvv⟩ ⟨rfl, Tvv⟩), h⟩
def Jx (N : Nat) (bars_1 : List (Int × Int)) (l_3 : Int) (k : ((List Int) × (List Int) × (List Int)) → Option (Pbl)) : Nat → ((List Int) × (List Int) × (List Int) × Int) → Option (Pbl)
 | 0, _ => none
 | n + 1, (l39, l40, l41, x42) =>
  cnd (decide (x42 < (bars_1.length : Int))) (
   (Hv N (⟨l39, l40, l41⟩ : Pbl)).bind fun v45 =>
   (Rw N bars_1 l_3 (⟨v45.free, v45.tails, v45.placed⟩ : Pbl) x42).bind fun v46 =>
   cnd v46.1 (
    grd (Bk (x42 + (1 : Int))) <|
    Jx N bars_1 l_3 k n (v46.2.1, v46.2.2.1, v46.2.2.2, (x42 + (1 : Int)))) (
    grd (Bk (x42 + (1 : Int))) <|
    Jx N bars_1 l_3 k n (l39, l40, l41, (x42 + (1 : Int))))) (
   k (l39, l40, l41))
def Lg (N : Nat) (points_0 : Int) (k_2 : Int) (k : (List Int) → Option (Pbl)) : Nat → ((List Int) × Int) → Option (Pbl)
 | 0, _ => none
 | n + 1, (l49, x50) =>
  cnd (decide (x50 < points_0)) (
   grd (l49.length + 1 ≤ 4294967296) <|
   grd (Bk (x50 + (1 : Int))) <|
   Lg N points_0 k_2 k n ((l49 ++ ([k_2] : List Int)), (x50 + (1 : Int)))) (
   k l49)
def I_play (N : Nat) (points_0 : Int) (bars_1 : List (Int × Int)) (k_2 : Int) (l_3 : Int) : Option (Pbl) :=
 Lg N points_0 k_2 (fun (l4 : List Int) =>
    Jx N bars_1 l_3 (fun (x : (List Int) × (List Int) × (List Int)) =>
      match x with
      | (l24, l25, l26) =>
       some (⟨l24, l25, l26⟩ : Pbl)) N (l4, ([] : List Int), ([] : List Int), (0 : Int))) N (([] : List Int), (0 : Int))
theorem I_play_w (N : Nat) (points_0 : Int) (bars_1 : List (Int × Int)) (k_2 : Int) (l_3 : Int) (r : Pbl) (h : I_play N points_0 bars_1 k_2 l_3 = some r) : PCall Try.prog 161 [.int points_0, .ro false (.pairs bars_1), .int k_2, .int l_3] [(3, .ints r.free), (3, .ints r.tails), (3, .ints r.placed)] (.agg [.row 0 0 r.free.length, .row 1 0 r.tails.length, .row 2 0 r.placed.length]) := by
 unfold I_play at h
 refine Aj (TT := TT) tt Try.func161 rfl rfl Try.ntmps161 (congrArg Array.toList Try.results161) rfl rfl fun w0 => ?_
 refine Ah ?_
 refine Aa ?_
 refine Cy tt rfl rfl rfl rfl rfl rfl rfl rfl rfl ?_
 refine Af ?_
 change VC _ _ _ _
 refine Ah ?_
 refine Aa ?_
 refine Sb (Ag rfl) (Pf Dr rfl rfl) rfl rfl ?_
 refine Cy tt rfl rfl rfl rfl rfl rfl rfl rfl rfl ?_
 refine Ax tt rfl rfl rfl rfl rfl rfl rfl rfl rfl rfl rfl ⟨Tvv, Tvv, Tvv, Tvv⟩ ?_
 refine Af ?_
 change VC _ _ _ _
 iterate 2 refine Ah ?_
 refine Aa ?_
 iterate 2 refine Ac tt rfl rfl rfl rfl rfl Tvv ?_
 refine Af ?_
 change VC _ _ _ _
 refine Cc (F := fun k => Lg N points_0 k_2 k) h (α := List Int) (J := fun (l4 : List Int) => (⟨[(1, .ro false (.pairs bars_1)), (3, .int l_3), (8, .ptr 8 0), (9, .ptr 9 0)], [(20, some (3, .ints l4))], [(8, some [.nil, .nil, .nil]), (9, some [.row 20 0 l4.length, .nil, .nil])]⟩ : PS)) ?_ ?_
 ·rintro l4 h
  show VC _ _ _ (⟨[(1, .ro false (.pairs bars_1)), (3, .int l_3), (8, .ptr 8 0), (9, .ptr 9 0)], [(20, some (3, .ints l4))], [(8, some [.nil, .nil, .nil]), (9, some [.row 20 0 l4.length, .nil, .nil])]⟩ : PS)
  iterate 2 refine Ah ?_
  refine Aa ?_
  iterate 3 refine Ac tt rfl rfl rfl rfl rfl Tvv ?_
  refine Af ?_
  change VC _ _ _ _
  refine Cc (F := fun k => Jx N bars_1 l_3 k) h (α := (List Int) × (List Int) × (List Int)) (J := fun | (l24, l25, l26) => (⟨[(8, .ptr 8 0), (9, .ptr 9 0)], [(20, some (3, .ints l24)), (9505, some (3, .ints l25)), (9506, some (3, .ints l26))], [(8, some [.nil, .nil, .nil]), (9, some [.row 20 0 l24.length, .row 9505 0 l25.length, .row 9506 0 l26.length])]⟩ : PS)) ?_ ?_
  ·rintro ⟨l24, l25, l26⟩ h
   show VC _ _ _ (⟨[(8, .ptr 8 0), (9, .ptr 9 0)], [(20, some (3, .ints l24)), (9505, some (3, .ints l25)), (9506, some (3, .ints l26))], [(8, some [.nil, .nil, .nil]), (9, some [.row 20 0 l24.length, .row 9505 0 l25.length, .row 9506 0 l26.length])]⟩ : PS)
   refine Ah ?_
   refine Aa ?_
   refine Ac tt rfl rfl rfl rfl rfl Tvv ?_
   refine Ax tt rfl rfl rfl rfl rfl rfl rfl rfl rfl rfl rfl ⟨Tvv, Tvv, Tvv, Tvv⟩ ?_
   refine Af ?_
   change VC _ _ _ _
   refine Bh ?_
   change ∃ _, _
   cases h
   exact ⟨[20, 9505, 9506], _, rfl, ⟨rfl, rfl, rfl, Tvv⟩, rfl, (.eq rfl), rfl⟩
  intro k h
  refine Ar ?_
  refine Zo 9 1 9507 3 (.ints []) rfl rfl rfl rfl rfl ?_
  refine Zo 9 2 9508 3 (.ints []) rfl rfl rfl rfl rfl ?_
  refine Ba (α := (List Int) × (List Int) × (List Int) × Int) (fun | (l39, l40, l41, x42) => (⟨[(1, .ro false (.pairs bars_1)), (3, .int l_3), (8, .ptr 8 0), (9, .ptr 9 0), (24, .int (bars_1.length : Int)), (25, .int x42)], [(20, some (3, .ints l39)), (9507, some (3, .ints l40)), (9508, some (3, .ints l41))], [(8, some [.nil, .nil, .nil]), (9, some [.row 20 0 l39.length, .row 9507 0 l40.length, .row 9508 0 l41.length])]⟩ : PS)) (Jx N bars_1 l_3 k) h (En.of ⟨rfl, rfl, rfl, rfl, rfl, rfl, Tvv⟩ ⟨rfl, rfl, rfl, Tvv⟩ ⟨rfl, rfl, Tvv⟩) (fun _ => rfl) ?_
  rintro n ⟨l39, l40, l41, x42⟩ h
  rw [Jx] at h
  show VC _ _ _ (⟨[(1, .ro false (.pairs bars_1)), (3, .int l_3), (8, .ptr 8 0), (9, .ptr 9 0), (24, .int (bars_1.length : Int)), (25, .int x42)], [(20, some (3, .ints l39)), (9507, some (3, .ints l40)), (9508, some (3, .ints l41))], [(8, some [.nil, .nil, .nil]), (9, some [.row 20 0 l39.length, .row 9507 0 l40.length, .row 9508 0 l41.length])]⟩ : PS)
  refine Ah ?_
  refine Aa ?_
  refine Ac tt rfl rfl rfl rfl rfl Tvv ?_
  refine Af ?_
  change VC _ _ _ _
  refine Ah ?_
  refine Av rfl (fun hb1 => ?_) (fun hb1 => ?_)
  ·replace h := Ao hb1 h
   refine Au ?_
   change VC _ _ _ _
   refine Ah ?_
   refine Ar ?_
   refine Ah ?_
   refine Aa ?_
   iterate 2 refine Ac tt rfl rfl rfl rfl rfl Tvv ?_
   refine Af ?_
   change VC _ _ _ _
   refine Ah ?_
   refine Aa ?_
   refine Ac tt rfl rfl rfl rfl rfl Tvv ?_
   obtain ⟨v45, hc2, h⟩ := Ai h
   refine Bm (Xj N (⟨l39, l40, l41⟩ : Pbl) v45 hc2) rfl rfl rfl rfl rfl rfl rfl rfl ⟨⟨(.inl ⟨rfl, rfl⟩), (.inl ⟨rfl, rfl⟩), (.inl ⟨rfl, rfl⟩), Tvv⟩, Tvv⟩ ?_
   refine Cy tt rfl rfl rfl rfl rfl rfl rfl rfl rfl ?_
   refine Ax tt rfl rfl rfl rfl rfl rfl rfl rfl rfl rfl rfl ⟨Tvv, Tvv, Tvv, Tvv⟩ ?_
   refine Af ?_
   change VC _ _ _ _
   refine Ah ?_
   refine Aa ?_
   iterate 3 refine Ac tt rfl rfl rfl rfl rfl Tvv ?_
   obtain ⟨v46, hc3, h⟩ := Ai h
   refine Tf (I_place_w N bars_1 l_3 (⟨v45.free, v45.tails, v45.placed⟩ : Pbl) x42 v46 hc3) [1290, 1291, 1292] [11] [1330, 1331, 1332] rfl rfl rfl rfl rfl rfl ⟨rfl, rfl, rfl, Tvv⟩ ⟨rfl, Tvv⟩ ⟨.inl rfl, ⟨rfl, rfl⟩, ⟨rfl, rfl⟩, ⟨rfl, rfl⟩, Tvv⟩ ?_
   refine Af ?_
   change VC _ _ _ _
   refine Av rfl (fun hb4 => ?_) (fun hb4 => ?_)
   ·replace h := Ao hb4 h
    refine Aa ?_
    refine Ac tt rfl rfl rfl rfl rfl Tvv ?_
    refine Ax tt rfl rfl rfl rfl rfl rfl rfl rfl rfl rfl rfl ⟨Tvv, Tvv, Tvv, Tvv⟩ ?_
    refine Af ?_
    change VC _ _ _ _
    refine Aa ?_
    obtain ⟨hg5, h⟩ := Ab h
    refine Ac tt rfl rfl rfl rfl rfl hg5 ?_
    refine Ac tt rfl rfl rfl rfl rfl Tvv ?_
    refine Af ?_
    change ∃ _, _
    exact ⟨(v46.2.1, v46.2.2.1, v46.2.2.2, (x42 + (1 : Int))), (En.ren [20, 9507, 9508] [1330, 1331, 1332] rfl ⟨.inr rfl, .inr rfl, .inr rfl, .inr rfl, .inr rfl, .inr rfl, Tvv⟩ ⟨.inr rfl, .inr rfl, .inr rfl, Tvv⟩ ⟨.inr ⟨_, _, rfl, rfl, ⟨.inr rfl, .inr rfl, .inr rfl, Tvv⟩⟩, .inr ⟨_, _, rfl, rfl, ⟨.inr rfl, .inr rfl, .inr rfl, Tvv⟩⟩, Tvv⟩), h⟩
   replace h := Ap hb4 h
   refine Au ?_
   change VC _ _ _ _
   refine Aa ?_
   obtain ⟨hg6, h⟩ := Ab h
   refine Ac tt rfl rfl rfl rfl rfl hg6 ?_
   refine Ac tt rfl rfl rfl rfl rfl Tvv ?_
   refine Af ?_
   change ∃ _, _
   exact ⟨(l39, l40, l41, (x42 + (1 : Int))), (En.of ⟨rfl, rfl, rfl, rfl, rfl, rfl, Tvv⟩ ⟨rfl, rfl, rfl, Tvv⟩ ⟨rfl, rfl, Tvv⟩), h⟩
  replace h := Ap hb1 h
  refine Bl ?_
  change ∃ _, _
  exact ⟨(l39, l40, l41), (En.ren [9505, 9506] [9507, 9508] rfl ⟨.inr rfl, .inr rfl, Tvv⟩ ⟨.inr rfl, .inr rfl, .inr rfl, Tvv⟩ ⟨.inr ⟨_, _, rfl, rfl, ⟨.inr rfl, .inr rfl, .inr rfl, Tvv⟩⟩, .inr ⟨_, _, rfl, rfl, ⟨.inr rfl, .inr rfl, .inr rfl, Tvv⟩⟩, Tvv⟩), h⟩
 intro k h
 refine Ar ?_
 refine Zo 9 0 20 3 (.ints []) rfl rfl rfl rfl rfl ?_
 refine Ba (α := (List Int) × Int) (fun | (l49, x50) => (⟨[(1, .ro false (.pairs bars_1)), (2, .int k_2), (3, .int l_3), (8, .ptr 8 0), (9, .ptr 9 0), (13, .int points_0), (14, .int x50)], [(20, some (3, .ints l49))], [(8, some [.nil, .nil, .nil]), (9, some [.row 20 0 l49.length, .nil, .nil])]⟩ : PS)) (Lg N points_0 k_2 k) h (En.of ⟨rfl, rfl, rfl, rfl, rfl, rfl, rfl, Tvv⟩ ⟨rfl, Tvv⟩ ⟨rfl, rfl, Tvv⟩) (fun _ => rfl) ?_
 rintro n ⟨l49, x50⟩ h
 rw [Lg] at h
 show VC _ _ _ (⟨[(1, .ro false (.pairs bars_1)), (2, .int k_2), (3, .int l_3), (8, .ptr 8 0), (9, .ptr 9 0), (13, .int points_0), (14, .int x50)], [(20, some (3, .ints l49))], [(8, some [.nil, .nil, .nil]), (9, some [.row 20 0 l49.length, .nil, .nil])]⟩ : PS)
 refine Ah ?_
 refine Aa ?_
 refine Ac tt rfl rfl rfl rfl rfl Tvv ?_
 refine Af ?_
 change VC _ _ _ _
 refine Ah ?_
 refine Av rfl (fun hb7 => ?_) (fun hb7 => ?_)
 ·replace h := Ao hb7 h
  refine Au ?_
  change VC _ _ _ _
  refine Ah ?_
  refine Ar ?_
  refine Aa ?_
  iterate 3 refine Ac tt rfl rfl rfl rfl rfl Tvv ?_
  refine Dt tt rfl rfl rfl rfl rfl rfl rfl rfl rfl rfl rfl ?_
  obtain ⟨hg8, h⟩ := Ab h
  refine Cp tt rfl rfl rfl rfl rfl rfl rfl rfl rfl rfl rfl rfl rfl rfl rfl rfl (Nat.le_of_eq (Nat.zero_add _)) hg8 ?_
  refine Ac tt rfl rfl rfl rfl rfl Tvv ?_
  refine Ax tt rfl rfl rfl rfl rfl rfl rfl rfl rfl rfl rfl ⟨Tvv, Tvv⟩ ?_
  refine Af ?_
  change VC _ _ _ _
  refine Aa ?_
  obtain ⟨hg9, h⟩ := Ab h
  refine Ac tt rfl rfl rfl rfl rfl hg9 ?_
  refine Ac tt rfl rfl rfl rfl rfl Tvv ?_
  refine Af ?_
  change ∃ _, _
  exact ⟨((l49 ++ ([k_2] : List Int)), (x50 + (1 : Int))), (En.of ⟨rfl, rfl, rfl, rfl, rfl, rfl, rfl, Tvv⟩ ⟨rfl, Tvv⟩ ⟨rfl, rfl, Tvv⟩), h⟩
 replace h := Ap hb7 h
 refine Bl ?_
 change ∃ _, _
 exact ⟨l49, (En.of ⟨rfl, rfl, rfl, rfl, Tvv⟩ ⟨rfl, Tvv⟩ ⟨rfl, rfl, Tvv⟩), h⟩
end Go.Proofs.Ytkklfgcelmeccaa
