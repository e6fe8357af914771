/- Texts that the proof needs, put together: G115 Rd G69 Pbr G64 G65 G66 G67 G68 G80 Pmd Pme G116. -/
import Derived.Test.YtkklfgcelmeccaaBGd3
import Derived.Test.YtkklfgcelmeccaaBGd4
import Derived.Test.YtkklfgcelmeccaaBGd6
import Derived.Test.YtkklfgcelmeccaaBGd7
set_option maxRecDepth 20000
set_option maxHeartbeats 1600000
set_option linter.unusedVariables false
set_option linter.unusedSimpArgs false
namespace Go.Proofs.Ytkklfgcelmeccaa
open Go.RowKit Go.Deep
def Bw (N : Nat) (l970 : List (List Int)) (l971 : List Int) (x1173 : Int) (v1193 : List Int) (k : Bool → Option ((List (List Int)) × Bool)) : Nat → (Bool × Int) → Option ((List (List Int)) × Bool)
 | 0, _ => none
 | n + 1, (ready1206, x1207) =>
  cnd (decide (x1207 < (v1193.length : Int))) (
   grd (0 ≤ x1207 ∧ x1207 < (v1193.length : Int)) <|
   cnd ready1206 (
    (Co N l971 (v1193.getD ((x1207).toNat) 0)).bind fun v1210 =>
    cnd v1210 (
     grd (Bk (x1207 + (1 : Int))) <|
     Bw N l970 l971 x1173 v1193 k n (true, (x1207 + (1 : Int)))) (
     (Co N (l970.getD ((x1173).toNat) []) (v1193.getD ((x1207).toNat) 0)).bind fun v1211 =>
     grd (Bk (x1207 + (1 : Int))) <|
     Bw N l970 l971 x1173 v1193 k n (v1211, (x1207 + (1 : Int))))) (
    grd (Bk (x1207 + (1 : Int))) <|
    Bw N l970 l971 x1173 v1193 k n (false, (x1207 + (1 : Int))))) (
   k ready1206)
def Cq (N : Nat) (p_0 : Pin) (l969 : List (List Int)) (l970 : List (List Int)) (l971 : List Int) (k : ((List (List Int)) × (List (List Int)) × (List Int)) → Option ((List (List Int)) × Bool)) : Nat → Int → Option ((List (List Int)) × Bool)
 | 0, _ => none
 | n + 1, x1173 =>
  cnd (decide (x1173 < (l970.length : Int))) (
   grd (0 ≤ x1173 ∧ x1173 < (l970.length : Int)) <|
   grd (0 ≤ (0 : Int) ∧ (0 : Int) < ((l970.getD ((x1173).toNat) []).length : Int)) <|
   (Lj N p_0 ((l970.getD ((x1173).toNat) []).getD ((0 : Int).toNat) 0)).bind fun v1193 =>
   Bw N l970 l971 x1173 v1193 (fun (ready1202 : Bool) =>
      cnd ready1202 (
       grd (0 < (l970.getD ((x1173).toNat) []).length) <|
       grd (l969.length + 1 ≤ 4294967296) <|
       grd (l971.length ≤ l971.length) <|
       grd (l971.length + (l970.getD ((x1173).toNat) []).length ≤ 4294967296) <|
       grd (0 ≤ x1173 ∧ x1173 ≤ (l970.length : Int)) <|
       grd (((x1173).toNat) ≤ l970.length) <|
       grd (l970.length ≤ 4294967296) <|
       grd (Bk (x1173 + (1 : Int))) <|
       grd (0 ≤ (x1173 + (1 : Int)) ∧ (x1173 + (1 : Int)) ≤ (l970.length : Int)) <|
       grd (((x1173).toNat) = ((x1173).toNat) ∧ (0 + (((x1173 + (1 : Int))).toNat)) = ((x1173).toNat) + 1 ∧ (l970.length - (((x1173 + (1 : Int))).toNat)) = l970.length - (((x1173).toNat) + 1) ∧ ((x1173).toNat) < l970.length) <|
       k ((l969 ++ [(l970.getD ((x1173).toNat) [])]), (l970.take ((x1173).toNat) ++ l970.drop (((x1173).toNat) + 1)), ((l971.take l971.length) ++ ((l969 ++ [(l970.getD ((x1173).toNat) [])]).getD l969.length [])))) (
       grd (Bk (x1173 + (1 : Int))) <|
       Cq N p_0 l969 l970 l971 k n (x1173 + (1 : Int)))) N (true, (0 : Int))) (
   k (l969, l970, l971))
def Cf (N : Nat) (p_0 : Pin) (k : (List (List Int)) → Option ((List (List Int)) × Bool)) : Nat → ((List (List Int)) × (List (List Int)) × (List Int)) → Option ((List (List Int)) × Bool)
 | 0, _ => none
 | n + 1, (l969, l970, l971) =>
  cnd (decide ((l970.length : Int) > (0 : Int))) (
   Cq N p_0 l969 l970 l971 (fun (x : (List (List Int)) × (List (List Int)) × (List Int)) =>
     match x with
     | (l1150, l1151, l1152) =>
      Cf N p_0 k n (l1150, l1151, l1152)) N (0 : Int)) (
   k l969)
def Er (N : Nat) (p_0 : Pin) : Option ((List (List Int)) × Bool) :=
 (Hz N p_0).bind fun v1 =>
 cnd (!v1.2) (
  some (([] : List (List Int)), false)) (
  Cf N p_0 (fun (l606 : List (List Int)) =>
     some (l606, true)) N (([] : List (List Int)), v1.1, ([] : List Int)))
theorem Mn (N : Nat) (p_0 : Pin) (r : (List (List Int)) × Bool) (h : Er N p_0 = some r) : PCallD Try.prog 20 [pD p_0] 35 3 (.intss r.1) (.tup [.row 0 0 r.1.length, .bool r.2]) := by
 unfold Er at h
 refine Qa (TT := TT) tt Try.func20 rfl rfl Try.ntmps20 (congrArg Array.toList Try.results20) rfl rfl rfl fun w0 => ?_
 refine Ah ?_
 refine Aa ?_
 refine Jc rfl rfl rfl rfl rfl rfl rfl rfl rfl ?_
 iterate 2 refine Ac tt rfl rfl rfl rfl rfl Tvv ?_
 refine Af ?_
 change VC _ _ _ _
 refine Ah ?_
 refine Aa ?_
 refine Gx tt (Ag rfl) rfl rfl rfl rfl ?_
 refine Ac tt rfl rfl rfl rfl rfl Tvv ?_
 refine Af ?_
 change VC _ _ _ _
 refine Ah ?_
 refine Aa ?_
 refine Ac tt rfl rfl rfl rfl rfl Tvv ?_
 obtain ⟨v1, hc1, h⟩ := Ai h
 refine oCallD 10 (Zd N p_0 v1 hc1) rfl rfl rfl rfl rfl rfl rfl rfl rfl rfl rfl (fun _ h => by cases h) ⟨⟨rfl, rfl, rfl, Tvv⟩, Tvv⟩ ?_
 iterate 5 refine Ac tt rfl rfl rfl rfl rfl Tvv ?_
 refine Af ?_
 change VC _ _ _ _
 iterate 2 refine Ah ?_
 refine Aa ?_
 iterate 2 refine Ac tt rfl rfl rfl rfl rfl Tvv ?_
 refine Af ?_
 change VC _ _ _ _
 refine Av rfl (fun hb2 => ?_) (fun hb2 => ?_)
 ·replace h := Ao hb2 h
  refine Ah ?_
  refine Aa ?_
  iterate 3 refine Ac tt rfl rfl rfl rfl rfl Tvv ?_
  refine Af ?_
  change VC _ _ _ _
  refine Lp 2 9001 35 (.intss []) rfl rfl rfl rfl ?_
  refine vEn (En.newFam 12 3 (.ints []) rfl rfl rfl rfl (fun _ h => by cases h) rfl) ?_
  refine vEn (En.asRefs 9001 12 (q := .intss []) (qR := dR 12 (.intss [])) rfl rfl rfl rfl) ?_
  refine Bh ?_
  change ∃ _, _
  cases h
  exact ⟨9001, 12, _, rfl, rfl, rfl, rfl, rfl, (.eq rfl), rfl⟩
 replace h := Ap hb2 h
 refine Au ?_
 change VC _ _ _ _
 refine Ah ?_
 refine Aa ?_
 refine Gx tt (Ag rfl) rfl rfl rfl rfl ?_
 refine Ac tt rfl rfl rfl rfl rfl Tvv ?_
 refine Af ?_
 change VC _ _ _ _
 refine Ah ?_
 refine Cc (F := fun k => Cf N p_0 k) h (α := List (List Int)) (J := fun (l606 : List (List Int)) => (⟨[(4, .row 9627 0 l606.length)], [(9627, some (35, dR 11 (.intss l606))), (8589934603, some (3, dF (.intss l606)))], []⟩ : PS)) ?_ ?_
 ·rintro l606 h
  show VC _ _ _ (⟨[(4, .row 9627 0 l606.length)], [(9627, some (35, dR 11 (.intss l606))), (8589934603, some (3, dF (.intss l606)))], []⟩ : PS)
  refine Ah ?_
  refine Aa ?_
  iterate 3 refine Ac tt rfl rfl rfl rfl rfl Tvv ?_
  refine Af ?_
  change VC _ _ _ _
  refine Bh ?_
  change ∃ _, _
  cases h
  exact ⟨9627, 11, _, rfl, rfl, rfl, rfl, rfl, (.eq rfl), rfl⟩
 intro k h
 refine Ar ?_
 refine Lp 4 9680 35 (.intss []) rfl rfl rfl rfl ?_
 refine vEn (En.newFam 11 3 (.ints []) rfl rfl rfl rfl (fun _ h => by cases h) rfl) ?_
 refine vEn (En.asRefs 9680 11 (q := .intss []) (qR := dR 11 (.intss [])) rfl rfl rfl rfl) ?_
 refine Lp 7 9694 3 (.ints []) rfl rfl rfl rfl ?_
 refine Ba (α := (List (List Int)) × (List (List Int)) × (List Int)) (fun | (l969, l970, l971) => (⟨[(1, .ptr 1 0), (4, .row 9680 0 l969.length), (5, .row 1160 0 l970.length), (7, .row 9694 0 l971.length)], [(9680, some (35, dR 11 (.intss l969))), (8589934603, some (3, dF (.intss l969))), (1160, some (35, dR 10 (.intss l970))), (8589934602, some (3, dF (.intss l970))), (9694, some (3, .ints l971))], [(1, some [.int p_0.g.n, .ro false (.pairs p_0.g.bars), .ro false (.ints p_0.ground)])]⟩ : PS)) (Cf N p_0 k) h (En.of ⟨rfl, rfl, rfl, rfl, Tvv⟩ ⟨rfl, rfl, rfl, rfl, rfl, Tvv⟩ ⟨rfl, Tvv⟩) (fun _ => rfl) ?_
 rintro n ⟨l969, l970, l971⟩ h
 rw [Cf] at h
 show VC _ _ _ (⟨[(1, .ptr 1 0), (4, .row 9680 0 l969.length), (5, .row 1160 0 l970.length), (7, .row 9694 0 l971.length)], [(9680, some (35, dR 11 (.intss l969))), (8589934603, some (3, dF (.intss l969))), (1160, some (35, dR 10 (.intss l970))), (8589934602, some (3, dF (.intss l970))), (9694, some (3, .ints l971))], [(1, some [.int p_0.g.n, .ro false (.pairs p_0.g.bars), .ro false (.ints p_0.ground)])]⟩ : PS)
 iterate 2 refine Ah ?_
 refine Aa ?_
 iterate 3 refine Ac tt rfl rfl rfl rfl rfl Tvv ?_
 refine Af ?_
 change VC _ _ _ _
 refine Av rfl (fun hb3 => ?_) (fun hb3 => ?_)
 ·replace h := Ao hb3 h
  refine Au ?_
  change VC _ _ _ _
  refine Ar ?_
  refine Ah ?_
  refine Aa ?_
  iterate 3 refine Ac tt rfl rfl rfl rfl rfl Tvv ?_
  refine Af ?_
  change VC _ _ _ _
  refine Cc (F := fun k => Cq N p_0 l969 l970 l971 k) h (α := (List (List Int)) × (List (List Int)) × (List Int)) (J := fun | (l1150, l1151, l1152) => (⟨[(1, .ptr 1 0), (4, .row 9680 0 l1150.length), (5, .row 67 0 l1151.length), (7, .row 9694 0 l1152.length)], [(9680, some (35, dR 11 (.intss l1150))), (8589934603, some (3, dF (.intss l1150))), (67, some (35, dR 10 (.intss l1151))), (8589934602, some (3, dF (.intss l1151))), (9694, some (3, .ints l1152))], [(1, some [.int p_0.g.n, .ro false (.pairs p_0.g.bars), .ro false (.ints p_0.ground)])]⟩ : PS)) ?_ ?_
  ·rintro ⟨l1150, l1151, l1152⟩ h
   change ∃ _, _
   exact ⟨(l1150, l1151, l1152), (En.ren [1160] [67] rfl ⟨.inr rfl, .inr rfl, .inr rfl, .inr rfl, Tvv⟩ ⟨.inr rfl, .inr rfl, .inr rfl, .inr rfl, .inr rfl, Tvv⟩ ⟨.inr ⟨_, _, rfl, rfl, ⟨.inr rfl, .inr rfl, .inr rfl, Tvv⟩⟩, Tvv⟩), h⟩
  intro k h
  refine Ar ?_
  refine Ba (α := Int) (fun (x1173 : Int) => (⟨[(1, .ptr 1 0), (4, .row 9680 0 l969.length), (5, .row 1160 0 l970.length), (7, .row 9694 0 l971.length), (26, .row 1160 0 l970.length), (27, .int (l970.length : Int)), (28, .int x1173)], [(9680, some (35, dR 11 (.intss l969))), (8589934603, some (3, dF (.intss l969))), (1160, some (35, dR 10 (.intss l970))), (8589934602, some (3, dF (.intss l970))), (9694, some (3, .ints l971))], [(1, some [.int p_0.g.n, .ro false (.pairs p_0.g.bars), .ro false (.ints p_0.ground)])]⟩ : PS)) (Cq N p_0 l969 l970 l971 k) h (En.of ⟨rfl, rfl, rfl, rfl, rfl, rfl, rfl, Tvv⟩ ⟨rfl, rfl, rfl, rfl, rfl, Tvv⟩ ⟨rfl, Tvv⟩) (fun _ => rfl) ?_
  rintro n x1173 h
  rw [Cq] at h
  show VC _ _ _ (⟨[(1, .ptr 1 0), (4, .row 9680 0 l969.length), (5, .row 1160 0 l970.length), (7, .row 9694 0 l971.length), (26, .row 1160 0 l970.length), (27, .int (l970.length : Int)), (28, .int x1173)], [(9680, some (35, dR 11 (.intss l969))), (8589934603, some (3, dF (.intss l969))), (1160, some (35, dR 10 (.intss l970))), (8589934602, some (3, dF (.intss l970))), (9694, some (3, .ints l971))], [(1, some [.int p_0.g.n, .ro false (.pairs p_0.g.bars), .ro false (.ints p_0.ground)])]⟩ : PS)
  refine Ah ?_
  refine Aa ?_
  refine Ac tt rfl rfl rfl rfl rfl Tvv ?_
  refine Af ?_
  change VC _ _ _ _
  refine Ah ?_
  refine Av rfl (fun hb4 => ?_) (fun hb4 => ?_)
  ·replace h := Ao hb4 h
   refine Au ?_
   change VC _ _ _ _
   refine Ah ?_
   refine Ar ?_
   refine Ah ?_
   refine Aa ?_
   refine Ac tt rfl rfl rfl rfl rfl Tvv ?_
   obtain ⟨hg5, h⟩ := Ab h
   refine Ac tt rfl rfl rfl rfl rfl hg5 ?_
   refine oLoadD tt (Ag rfl) (.intss l970) rfl rfl rfl rfl rfl rfl rfl rfl rfl hg5 ?_
   iterate 2 refine Ac tt rfl rfl rfl rfl rfl Tvv ?_
   refine Af ?_
   change VC _ _ _ _
   refine Ah ?_
   refine Aa ?_
   refine Ac tt rfl rfl rfl rfl rfl Tvv ?_
   refine Af ?_
   change VC _ _ _ _
   iterate 2 refine Ah ?_
   refine Cd 7 [4] [0, 0, 2, 6, 15, 31, 0] (by kernel_rfl) (by kernel_rfl) (by kernel_rfl) (by kernel_rfl) (by kernel_rfl) rfl (by rfl) ?_
   iterate 2 refine Cz tt rfl (Ag rfl) rfl rfl rfl rfl rfl Tvv ?_
   obtain ⟨hg6, h⟩ := Ab h
   refine Wi (Ag rfl) (Sr tt (q := (.intss l970)) rfl rfl rfl rfl rfl rfl (by simp only [Sq.len, List.length_set, List.length_append, List.length_replicate] at *; omega) rfl hg6) rfl rfl rfl ?_
   refine Wi (Ag rfl) (Ta tt (q := (.intss l970)) rfl rfl rfl rfl rfl (by simp only [Sq.len, List.length_set, List.length_append, List.length_replicate] at *; omega) hg6 rfl) rfl rfl rfl ?_
   obtain ⟨v1193, hc7, h⟩ := Ai h
   refine Pg (I_DependsOn_w N p_0 ((l970.getD ((x1173).toNat) []).getD ((0 : Int).toNat) 0) v1193 hc7) rfl (Ag rfl) rfl rfl rfl rfl rfl rfl (by first | rfl | kernel_rfl | (simp [nrL, nm, Fj, nmT, Gu]; done)) rfl (by first | rfl | kernel_rfl | (simp [Kp, nrL, nm, Fj, nmT, Gu, hid, Fp, Dg, Cj]; done) | (simp [Kp, nrL, nm, Fj, nmT, Gu, hid, Fp, Dg, Cj]; decide)) ⟨⟨rfl, rfl, rfl, Tvv⟩, rfl, Tvv⟩ ?_
   iterate 2 refine Cz tt rfl (Ag rfl) rfl rfl rfl rfl rfl Tvv ?_
   refine Su ?_
   change VO _ _ _ _ _
   refine Af ?_
   change VC _ _ _ _
   refine Cc (F := fun k => Bw N l970 l971 x1173 v1193 k) h (α := Bool) (J := fun (ready1202 : Bool) => (⟨[(1, .ptr 1 0), (4, .row 9680 0 l969.length), (5, .row 1160 0 l970.length), (7, .row 9694 0 l971.length), (8, .int x1173), (9, .irow 10 ((x1173).toNat) ((l970.getD ((x1173).toNat) []).length)), (10, .bool ready1202), (26, .row 1160 0 l970.length), (27, .int (l970.length : Int)), (28, .int x1173)], [(9680, some (35, dR 11 (.intss l969))), (8589934603, some (3, dF (.intss l969))), (1160, some (35, dR 10 (.intss l970))), (8589934602, some (3, dF (.intss l970))), (9694, some (3, .ints l971))], [(1, some [.int p_0.g.n, .ro false (.pairs p_0.g.bars), .ro false (.ints p_0.ground)])]⟩ : PS)) ?_ ?_
   ·rintro ready1202 h
    show VC _ _ _ (⟨[(1, .ptr 1 0), (4, .row 9680 0 l969.length), (5, .row 1160 0 l970.length), (7, .row 9694 0 l971.length), (8, .int x1173), (9, .irow 10 ((x1173).toNat) ((l970.getD ((x1173).toNat) []).length)), (10, .bool ready1202), (26, .row 1160 0 l970.length), (27, .int (l970.length : Int)), (28, .int x1173)], [(9680, some (35, dR 11 (.intss l969))), (8589934603, some (3, dF (.intss l969))), (1160, some (35, dR 10 (.intss l970))), (8589934602, some (3, dF (.intss l970))), (9694, some (3, .ints l971))], [(1, some [.int p_0.g.n, .ro false (.pairs p_0.g.bars), .ro false (.ints p_0.ground)])]⟩ : PS)
    refine Ah ?_
    refine Aa ?_
    refine Ac tt rfl rfl rfl rfl rfl Tvv ?_
    refine Af ?_
    change VC _ _ _ _
    refine Av rfl (fun hb8 => ?_) (fun hb8 => ?_)
    ·replace h := Ao hb8 h
     refine Ah ?_
     refine Aa ?_
     iterate 2 refine Ac tt rfl rfl rfl rfl rfl Tvv ?_
     obtain ⟨hg9, h⟩ := Ab h
     refine vEnO (En.also 9 57 (En.trans (En.pull 57 9712 10 ((x1173).toNat) rfl rfl (fam_get (q := (.intss l970)) rfl (by simp only [Sq.len, List.length_set, List.length_append, List.length_replicate] at *; omega)) rfl rfl rfl rfl) (En.adopt 57 9712 9680 11 (q := (.intss l969)) rfl rfl rfl rfl rfl rfl (by simp [Sq.len, Fq.len, Mw, Fq.hole]) (pushI _ _) rfl (d' := .irow 11 l969.length (l970.getD ((x1173).toNat) []).length) (by simp [Fq.len]) rfl)) rfl rfl (q := (.intss l970)) rfl rfl (by simp only [Sq.len, List.length_set, List.length_append, List.length_replicate] at *; omega) hg9 rfl) ?_
     refine oBuildI tt rfl rfl rfl rfl rfl rfl rfl rfl rfl rfl ?_
     obtain ⟨hg10, h⟩ := Ab h
     refine oAppendD (.intss (l969 ++ [(l970.getD ((x1173).toNat) [])])) tt (q := (.intss l969)) rfl rfl rfl rfl rfl rfl rfl rfl (Nat.le_of_eq (Nat.zero_add _)) rfl rfl rfl rfl rfl rfl rfl (appI 11 l969 (l970.getD ((x1173).toNat) [])) hg10 ?_
     refine Ac tt rfl rfl rfl rfl rfl Tvv ?_
     refine Af ?_
     change VC _ _ _ _
     refine Ah ?_
     refine Aa ?_
     iterate 2 refine Ac tt rfl rfl rfl rfl rfl Tvv ?_
     obtain ⟨hg11, h⟩ := Ab h
     obtain ⟨hg12, h⟩ := Ab h
     refine oAppendI tt rfl (qF := (.intss (l969 ++ [(l970.getD ((x1173).toNat) [])]))) rfl rfl rfl rfl rfl rfl rfl rfl rfl rfl rfl rfl rfl rfl rfl (by first | (simp [Sq.len]; done) | simp only [Sq.len, List.length_set, List.length_append, List.length_replicate] at *; omega) (by simp [Sq.nn, Sq.len]) (Nat.le_refl _) hg12 ?_
     refine Ac tt rfl rfl rfl rfl rfl Tvv ?_
     refine Af ?_
     change VC _ _ _ _
     refine Ah ?_
     refine Cd 9 [4] [0, 0, 0, 6, 15, 0, 0, 64, 224, 511, 1023] (by kernel_rfl) (by kernel_rfl) (by kernel_rfl) (by kernel_rfl) (by kernel_rfl) rfl (by rfl) ?_
     refine nEmpty tt (Ag rfl) rfl rfl rfl rfl rfl ?_
     iterate 2 refine Cz tt rfl (Ag rfl) rfl rfl rfl rfl rfl Tvv ?_
     obtain ⟨hg13, h⟩ := Ab h
     refine Cz tt rfl (Ag rfl) rfl rfl rfl rfl rfl hg13 ?_
     obtain ⟨hg14, h⟩ := Ab h
     obtain ⟨hg15, h⟩ := Ab h
     refine nAppNilR tt (Ag rfl) (.irefs 10 []) rfl rfl rfl rfl rfl rfl rfl rfl rfl rfl rfl rfl rfl rfl rfl rfl rfl rfl rfl rfl (by simp [Sq.len, dR, Eh]; omega) (by simp [Sq.len, Sq.take, Sq.drop, dR, Eh]; omega) ?_
     iterate 2 refine Cz tt rfl (Ag rfl) rfl rfl rfl rfl rfl Tvv ?_
     obtain ⟨hg16, h⟩ := Ab h
     refine Cz tt rfl (Ag rfl) rfl rfl rfl rfl rfl hg16 ?_
     obtain ⟨hg17, h⟩ := Ab h
     refine Cz tt rfl (Ag rfl) rfl rfl rfl rfl rfl hg17 ?_
     refine Su ?_
     change VO _ _ _ _ _
     obtain ⟨hg18, h⟩ := Ab h
     refine Cp tt rfl rfl rfl rfl rfl rfl rfl rfl rfl rfl rfl rfl rfl rfl rfl rfl (by simp [Sq.len, dR, Eh]; omega) (by simp [Sq.len, Sq.take, Sq.drop, dR, Eh]; omega) ?_
     refine vEnO (En.dropR 1160 rfl) ?_
     refine vEnO (En.re 67 10 rfl rfl (rmI 10 l970 hg18.1 hg18.2.1 hg18.2.2.1 hg18.2.2.2) rfl rfl rfl) ?_
     refine oRowT 72 67 (rmLen l970 hg18.1 hg18.2.1 hg18.2.2.1 hg18.2.2.2) rfl ?_
     refine Ac tt rfl rfl rfl rfl rfl Tvv ?_
     refine Af ?_
     change VC _ _ _ _
     refine Bl ?_
     change ∃ _, _
     exact ⟨((l969 ++ [(l970.getD ((x1173).toNat) [])]), (l970.take ((x1173).toNat) ++ l970.drop (((x1173).toNat) + 1)), ((l971.take l971.length) ++ ((l969 ++ [(l970.getD ((x1173).toNat) [])]).getD l969.length []))), (En.of ⟨rfl, rfl, rfl, rfl, Tvv⟩ ⟨rfl, rfl, rfl, rfl, rfl, Tvv⟩ ⟨rfl, Tvv⟩), h⟩
    replace h := Ap hb8 h
    refine Au ?_
    change VC _ _ _ _
    refine Aa ?_
    obtain ⟨hg19, h⟩ := Ab h
    refine Ac tt rfl rfl rfl rfl rfl hg19 ?_
    refine Ac tt rfl rfl rfl rfl rfl Tvv ?_
    refine Af ?_
    change ∃ _, _
    exact ⟨(x1173 + (1 : Int)), (En.of ⟨rfl, rfl, rfl, rfl, rfl, rfl, rfl, Tvv⟩ ⟨rfl, rfl, rfl, rfl, rfl, Tvv⟩ ⟨rfl, Tvv⟩), h⟩
   intro k h
   refine Ar ?_
   refine Ba (α := Bool × Int) (fun | (ready1206, x1207) => (⟨[(1, .ptr 1 0), (4, .row 9680 0 l969.length), (5, .row 1160 0 l970.length), (7, .row 9694 0 l971.length), (8, .int x1173), (9, .irow 10 ((x1173).toNat) ((l970.getD ((x1173).toNat) []).length)), (10, .bool ready1206), (26, .row 1160 0 l970.length), (27, .int (l970.length : Int)), (28, .int x1173), (37, .row 1370 0 v1193.length), (38, .int (v1193.length : Int)), (39, .int x1207)], [(9680, some (35, dR 11 (.intss l969))), (8589934603, some (3, dF (.intss l969))), (1160, some (35, dR 10 (.intss l970))), (8589934602, some (3, dF (.intss l970))), (9694, some (3, .ints l971)), (1370, some (3, .ints v1193))], [(1, some [.int p_0.g.n, .ro false (.pairs p_0.g.bars), .ro false (.ints p_0.ground)])]⟩ : PS)) (Bw N l970 l971 x1173 v1193 k) h (En.of ⟨rfl, rfl, rfl, rfl, rfl, rfl, rfl, rfl, rfl, rfl, rfl, rfl, rfl, Tvv⟩ ⟨rfl, rfl, rfl, rfl, rfl, rfl, Tvv⟩ ⟨rfl, Tvv⟩) (fun _ => rfl) ?_
   rintro n ⟨ready1206, x1207⟩ h
   rw [Bw] at h
   show VC _ _ _ (⟨[(1, .ptr 1 0), (4, .row 9680 0 l969.length), (5, .row 1160 0 l970.length), (7, .row 9694 0 l971.length), (8, .int x1173), (9, .irow 10 ((x1173).toNat) ((l970.getD ((x1173).toNat) []).length)), (10, .bool ready1206), (26, .row 1160 0 l970.length), (27, .int (l970.length : Int)), (28, .int x1173), (37, .row 1370 0 v1193.length), (38, .int (v1193.length : Int)), (39, .int x1207)], [(9680, some (35, dR 11 (.intss l969))), (8589934603, some (3, dF (.intss l969))), (1160, some (35, dR 10 (.intss l970))), (8589934602, some (3, dF (.intss l970))), (9694, some (3, .ints l971)), (1370, some (3, .ints v1193))], [(1, some [.int p_0.g.n, .ro false (.pairs p_0.g.bars), .ro false (.ints p_0.ground)])]⟩ : PS)
   refine Ah ?_
   refine Aa ?_
   refine Ac tt rfl rfl rfl rfl rfl Tvv ?_
   refine Af ?_
   change VC _ _ _ _
   refine Ah ?_
   refine Av rfl (fun hb20 => ?_) (fun hb20 => ?_)
   ·replace h := Ao hb20 h
    refine Au ?_
    change VC _ _ _ _
    refine Ah ?_
    refine Ar ?_
    refine Ah ?_
    refine Aa ?_
    obtain ⟨hg21, h⟩ := Ab h
    iterate 2 refine Ac tt rfl rfl rfl rfl rfl hg21 ?_
    refine Ac tt rfl rfl rfl rfl rfl Tvv ?_
    refine Af ?_
    change VC _ _ _ _
    refine Aa ?_
    iterate 2 refine Ac tt rfl rfl rfl rfl rfl Tvv ?_
    refine Dc rfl rfl rfl (fun hb22 => ?_) (fun hb22 => ?_)
    ·replace h := Ao hb22 h
     iterate 2 refine Cl tt rfl rfl rfl rfl rfl hb22 rfl rfl rfl Tvv ?_
     obtain ⟨v1210, hc23, h⟩ := Ai h
     refine Qm (Ds N l971 (v1193.getD ((x1207).toNat) 0) v1210 hc23) rfl rfl rfl rfl hb22 rfl rfl rfl rfl rfl rfl rfl ⟨(.inl ⟨rfl, rfl⟩), rfl, Tvv⟩ ?_
     refine Cl tt rfl rfl rfl rfl rfl hb22 rfl rfl rfl Tvv ?_
     refine Dc rfl rfl rfl (fun hb24 => ?_) (fun hb24 => ?_)
     ·replace h := Ao hb24 h
      iterate 3 refine Tv rfl rfl rfl rfl hb24 rfl rfl ?_
      refine oPickGT rfl rfl rfl rfl hb22 rfl rfl rfl rfl hb24 rfl ?_
      refine Eo rfl rfl rfl rfl rfl hb22 rfl ?_
      refine Ac tt rfl rfl rfl rfl rfl Tvv ?_
      refine Af ?_
      change VC _ _ _ _
      refine Aa ?_
      obtain ⟨hg25, h⟩ := Ab h
      refine Ac tt rfl rfl rfl rfl rfl hg25 ?_
      refine Ac tt rfl rfl rfl rfl rfl Tvv ?_
      refine Af ?_
      change ∃ _, _
      exact ⟨(true, (x1207 + (1 : Int))), (En.of ⟨rfl, rfl, rfl, rfl, rfl, rfl, rfl, rfl, rfl, rfl, rfl, rfl, rfl, Tvv⟩ ⟨rfl, rfl, rfl, rfl, rfl, rfl, Tvv⟩ ⟨rfl, Tvv⟩), h⟩
     replace h := Ap hb24 h
     iterate 2 refine Cl tt rfl rfl rfl rfl rfl hb24 rfl rfl rfl Tvv ?_
     obtain ⟨v1211, hc26, h⟩ := Ai h
     refine Qm (Ds N (l970.getD ((x1173).toNat) []) (v1193.getD ((x1207).toNat) 0) v1211 hc26) rfl rfl rfl rfl hb24 rfl rfl rfl rfl rfl rfl rfl ⟨⟨_, deep_at (q := (.intss l970)) rfl rfl rfl (by simp only [Sq.len, List.length_set, List.length_append, List.length_replicate] at *; omega), rfl, rfl⟩, rfl, Tvv⟩ ?_
     refine oPickGF rfl rfl rfl rfl hb22 rfl rfl rfl rfl hb24 rfl ?_
     refine Eo rfl rfl rfl rfl rfl hb22 rfl ?_
     refine Ac tt rfl rfl rfl rfl rfl Tvv ?_
     refine Af ?_
     change VC _ _ _ _
     refine Aa ?_
     obtain ⟨hg27, h⟩ := Ab h
     refine Ac tt rfl rfl rfl rfl rfl hg27 ?_
     refine Ac tt rfl rfl rfl rfl rfl Tvv ?_
     refine Af ?_
     change ∃ _, _
     exact ⟨(v1211, (x1207 + (1 : Int))), (En.of ⟨rfl, rfl, rfl, rfl, rfl, rfl, rfl, rfl, rfl, rfl, rfl, rfl, rfl, Tvv⟩ ⟨rfl, rfl, rfl, rfl, rfl, rfl, Tvv⟩ ⟨rfl, Tvv⟩), h⟩
    replace h := Ap hb22 h
    iterate 4 refine Zf rfl rfl rfl rfl hb22 rfl rfl ?_
    iterate 3 refine oNoU rfl rfl rfl rfl rfl ?_
    refine Zf rfl rfl rfl rfl hb22 rfl rfl ?_
    refine Cv rfl rfl rfl rfl rfl hb22 rfl ?_
    refine Ac tt rfl rfl rfl rfl rfl Tvv ?_
    refine Af ?_
    change VC _ _ _ _
    refine Aa ?_
    obtain ⟨hg28, h⟩ := Ab h
    refine Ac tt rfl rfl rfl rfl rfl hg28 ?_
    refine Ac tt rfl rfl rfl rfl rfl Tvv ?_
    refine Af ?_
    change ∃ _, _
    exact ⟨(false, (x1207 + (1 : Int))), (En.of ⟨rfl, rfl, rfl, rfl, rfl, rfl, rfl, rfl, rfl, rfl, rfl, rfl, rfl, Tvv⟩ ⟨rfl, rfl, rfl, rfl, rfl, rfl, Tvv⟩ ⟨rfl, Tvv⟩), h⟩
   replace h := Ap hb20 h
   refine Bl ?_
   change ∃ _, _
   exact ⟨ready1206, (En.of ⟨rfl, rfl, rfl, rfl, rfl, rfl, rfl, rfl, rfl, rfl, Tvv⟩ ⟨rfl, rfl, rfl, rfl, rfl, Tvv⟩ ⟨rfl, Tvv⟩), h⟩
  replace h := Ap hb4 h
  refine Bl ?_
  change ∃ _, _
  exact ⟨(l969, l970, l971), (En.ren [67] [1160] rfl ⟨.inr rfl, .inr rfl, .inr rfl, .inr rfl, Tvv⟩ ⟨.inr rfl, .inr rfl, .inr rfl, .inr rfl, .inr rfl, Tvv⟩ ⟨.inr ⟨_, _, rfl, rfl, ⟨.inr rfl, .inr rfl, .inr rfl, Tvv⟩⟩, Tvv⟩), h⟩
 replace h := Ap hb3 h
 refine Bl ?_
 change ∃ _, _
 exact ⟨l969, (En.ren [9627] [9680] rfl ⟨.inr rfl, Tvv⟩ ⟨.inr rfl, .inr rfl, Tvv⟩ trivial), h⟩
end Go.Proofs.Ytkklfgcelmeccaa
namespace Go.Proofs.Ytkklfgcelmeccaa
variable {N : Nat}
theorem dependsI_s (hN : 4000000 ≤ N) {p : Pin} {ow : List Int} (hI : Fh N p = some (ow, true)) (hp : Ay p = true) (hl : ow.length = p.g.bars.length) (ho : Own p 0 ow) {v : Int} (hv : Pi p v = true) : Lj N p v = some (Fx p ow v) := by
 unfold Lj
 rw [Vy hN hI (fun _ => ⟨hp, hl, ho⟩), Option.bind_some]
 have hbd := Bn hp
 show cnd (!true) _ _ = _
 rw [Bool.not_true, cnd_false, Sy N hN hp, Option.bind_some, hv]
 have hr := Lw hv
 obtain ⟨n, hn⟩ : ∃ n : Nat, p.g.n = n := ⟨p.g.n.toNat, by omega⟩
 have en : (p.g.n).toNat = n := by omega
 show cnd (!true) _ _ = _
 rw [Bool.not_true, cnd_false, cnd_true]
 show grd (0 ≤ v ∧ v < ((mat p.g.n.toNat (dp p ow)).length : Int)) _ = _
 rw [Yc, Ad (by omega), en]
 refine fold (N := N) (len := n) (st := fun j => sel (fun u => (u : Int)) (fun u => dp p ow v.toNat u) j) (F := fun m s => By N v (mat n (dp p ow), true) (fun (l5 : List Int) => some l5) m s) (by omega) (fun m i hi => ?_) fun m => ?_
 ·show By N v (mat n (dp p ow), true) _ (m + 1) (sel _ _ i, (i : Int)) = By N v (mat n (dp p ow), true) _ m (sel _ _ (i + 1), ((i + 1 : Nat) : Int))
  rw [By]
  have ei : ((i : Int)).toNat = i := by omega
  have hsl := sel_len (fun u => (u : Int)) (fun u => dp p ow v.toNat u) i
  show cnd (decide ((i : Int) < (((mat n (dp p ow)).getD v.toNat []).length : Int))) (grd (0 ≤ (i : Int) ∧ (i : Int) < (((mat n (dp p ow)).getD v.toNat []).length : Int)) (cnd (((mat n (dp p ow)).getD v.toNat []).getD (i : Int).toNat false) _ _)) _ = _
  rw [Jg _ (by omega), ei, Vl _ (by omega) hi, Ak (by omega), Ad (by omega), Ad (by omega), As (by omega) (by omega), As (by omega) (by omega), Am, sel_succ]
  cases dp p ow v.toNat i <;> rfl
 show By N v (mat n (dp p ow), true) _ (m + 1) (sel _ _ n, (n : Int)) = _
 rw [By]
 show cnd (decide ((n : Int) < (((mat n (dp p ow)).getD v.toNat []).length : Int))) _ _ = _
 rw [Jg _ (by omega), Al (by omega)]
 show some _ = _
 rw [Fx, en]
theorem dp_inner {p : Pin} (ow : List Int) {a b : Nat} (ha : a < p.g.n.toNat) (hb : b < p.g.n.toNat) (h : dp p ow a b = true) : Pi p (b : Int) = true := by
 have key : ∀ {x y : Nat}, Ze p ow p.g.bars.length x y = true → Pi p (y : Int) = true := fun {x y} h => by
  simp only [Ze, arc, Bool.or_eq_true, Bool.and_eq_true, decide_eq_true_eq, List.any_eq_true] at h
  rcases h with ⟨rfl, h⟩ | ⟨i, _, _, h⟩
  ·exact h
  exact h
 have hw := Th _ (Nat.le_refl _) a b ha hb h
 clear h
 induction hw with
 | one _ _ h => exact key h
 | step h1 h2 h3 hw ih => exact ih h2 hb
theorem Me {p : Pin} (ow : List Int) (v x : Int) : x ∈ Fx p ow v ↔ 0 ≤ x ∧ x < ((p.g.n.toNat : Nat) : Int) ∧ dp p ow v.toNat x.toNat = true := by
 unfold Fx sel
 simp only [List.mem_map, List.mem_filter, List.mem_range]
 constructor
 ·rintro ⟨k, ⟨h1, h2⟩, rfl⟩
  have e : ((k : Int)).toNat = k := by omega
  rw [e]
  exact ⟨by omega, by omega, h2⟩
 rintro ⟨h1, h2, h3⟩
 exact ⟨x.toNat, ⟨by omega, h3⟩, by omega⟩
theorem reachL_nd {p : Pin} (ow : List Int) (v : Int) : (Fx p ow v).Nodup := by
 unfold Fx sel
 rw [List.nodup_iff_pairwise_ne]
 refine List.Pairwise.map _ (fun a b h => ?_) (List.nodup_iff_pairwise_ne.1 (List.nodup_range.filter _))
 omega
theorem nd_lt : ∀ {A B : List Int} {x : Int}, A.Nodup → (∀ a ∈ A, a ∈ B) → x ∈ B → x ∉ A → A.length < B.length
 | [], B, x, _, _, hx, _ => by
  cases B with
  | nil => cases hx
  | cons b B => simp
 | a :: A, B, x, h1, h2, hx, hn => by
  have h3 := List.nodup_cons.1 h1
  have ha : a ∈ B := h2 a (by simp)
  have hxa : x ≠ a := fun e => hn (by simp [e])
  have := nd_lt (A := A) (B := B.erase a) (x := x) h3.2 (fun c hc => by
   have hca : c ≠ a := fun e => h3.1 (e ▸ hc)
   exact (List.mem_erase_of_ne hca).2 (h2 c (by simp [hc]))) ((List.mem_erase_of_ne hxa).2 hx) (fun h => hn (by simp [h]))
  rw [List.length_erase_of_mem ha] at this
  have hp : 0 < B.length := List.length_pos_of_mem ha
  rw [List.length_cons]; omega
def rdy (p : Pin) (ow : List Int) (I : List Int) (D : List Int) (u : Int) : Bool := (Fx p ow u).all fun x => D.contains x || (I.filter (mt p ow u)).contains x
section
variable {p : Pin} {ow : List Int}
theorem rep_of (E : Eqv (mt p ow) (Ae p)) {x : Int} (hx : x ∈ Ae p) : ∃ w ∈ Ky (mt p ow) (Ae p), mt p ow w x = true := by
 have hne := Jt hx (E.rf x hx)
 have hm := Kw hne
 refine ⟨((Ae p).filter (mt p ow x)).getD 0 0, ?_, E.sy _ _ hm.2⟩
 refine List.mem_filter.2 ⟨hm.1, ?_⟩
 rw [Wy E hm.1 hx (E.sy _ _ hm.2)]; simp
theorem inner_mem (hp : Ay p = true) {x : Int} (h : Pi p x = true) : x ∈ Ae p := by
 have := Wb hp x
 rw [h] at this; simpa using this
theorem rdy_ex (hp : Ay p = true) (E : Eqv (mt p ow) (Ae p)) {D : List Int} (hD : ∀ u ∈ Ky (mt p ow) (Ae p), D.contains u = true → ∀ x ∈ Ae p, mt p ow u x = true → D.contains x = true) : ∀ (n : Nat) (u : Int), u ∈ Ky (mt p ow) (Ae p) → D.contains u = false → (Fx p ow u).length ≤ n →
  ∃ w ∈ Ky (mt p ow) (Ae p), D.contains w = false ∧ rdy p ow (Ae p) D w = true := by
 have hbd := Bn hp
 intro n
 induction n with
 | zero =>
  intro u hu hd hn
  refine ⟨u, hu, hd, ?_⟩
  have : Fx p ow u = [] := List.eq_nil_of_length_eq_zero (by omega)
  unfold rdy; rw [this]; rfl
 | succ n ih =>
  intro u hu hd hn
  cases hr : rdy p ow (Ae p) D u with
  | true => exact ⟨u, hu, hd, hr⟩
  | false =>
   unfold rdy at hr
   rw [List.all_eq_false] at hr
   obtain ⟨x, hx, h1⟩ := hr
   have h1 : D.contains x = false ∧ ((Ae p).filter (mt p ow u)).contains x = false := by
    cases a : D.contains x <;> cases b : ((Ae p).filter (mt p ow u)).contains x <;> simp_all
   have hu1 := (Gq hu).1
   have hui := Gy hp hu1
   have hur := Lw hui
   obtain ⟨x1, x2, x3⟩ := (Me ow u x).1 hx
   have ex : ((x.toNat : Nat) : Int) = x := by omega
   have hxi : Pi p x = true := by have := dp_inner ow (by omega) (by omega) x3; rwa [ex] at this
   have hxm := inner_mem hp hxi
   obtain ⟨w, hw, hwx⟩ := rep_of E hxm
   have hw1 := (Gq hw).1
   have hwi := Gy hp hw1
   have hwr := Lw hwi
   have hwd : D.contains w = false := by
    cases h : D.contains w with
    | false => rfl
    | true => have := hD w hw h x hxm hwx; rw [h1.1] at this; cases this
   have hnx : mt p ow u x = false := by
    cases h : mt p ow u x with
    | false => rfl
    | true =>
     have : x ∈ (Ae p).filter (mt p ow u) := List.mem_filter.2 ⟨hxm, h⟩
     have h2 : ((Ae p).filter (mt p ow u)).contains x = true := by simpa using this
     rw [h1.2] at h2; cases h2
   have hwx2 : dp p ow w.toNat x.toNat = true ∧ dp p ow x.toNat w.toNat = true := by
    simp only [mt, Bool.and_eq_true] at hwx; exact hwx
   have hlt : (Fx p ow w).length < (Fx p ow u).length := by
    refine nd_lt (x := u) (reachL_nd ow w) (fun a ha => ?_) ((Me ow u u).2 ⟨by omega, by omega, dp_self ow hui⟩) (fun h => ?_)
    ·obtain ⟨a1, a2, a3⟩ := (Me ow w a).1 ha
     exact (Me ow u a).2 ⟨a1, a2, Tg ow (by omega) (Tg ow (by omega) x3 hwx2.2) a3⟩
    obtain ⟨a1, a2, a3⟩ := (Me ow w u).1 h
    have h5 : dp p ow x.toNat u.toNat = true := Tg ow (by omega) hwx2.2 a3
    have h6 : mt p ow u x = true := by simp only [mt, Bool.and_eq_true]; exact ⟨x3, h5⟩
    rw [hnx] at h6; cases h6
   exact ih w hw hwd (by omega)
end
theorem dropG {α : Type} {l : List α} {i : Nat} (d : α) (hi : i < l.length) : l.drop i = l.getD i d :: l.drop (i + 1) := by
 rw [List.drop_eq_getElem_cons hi, List.getD_eq_getElem?_getD, List.getElem?_eq_getElem hi]; rfl
theorem ogI3 (hN : 4000000 ≤ N) {L : List (List Int)} {D V : List Int} {i : Nat} (hL : (L.getD i []).length ≤ 1000) (hD : D.length ≤ 1000) (hV : V.length ≤ 1000) (kk : Bool → Option (List (List Int) × Bool)) : ∀ (fuel j : Nat) (f : Bool), j ≤ V.length → V.length < fuel + j →
  Bw N L D (i : Int) V kk fuel (f, (j : Int)) = kk (f && (V.drop j).all fun x => D.contains x || (L.getD i []).contains x) := by
 intro fuel
 induction fuel with
 | zero => intro j f h1 h2; omega
 | succ fuel ih =>
  intro j f h1 h2
  rw [Bw]
  by_cases hj : j < V.length
  ·rw [Ak (by omega), Ad (by omega), show ((j : Int)).toNat = j from by omega, show ((i : Int)).toNat = i from by omega, dropG 0 hj, List.all_cons]
   cases f with
   | false =>
    rw [cnd_false, As (by omega) (by omega), Am]
    refine (ih (j + 1) _ (by omega) (by omega)).trans ?_
    simp
   | true =>
    rw [cnd_true, Mj N hN (by omega), Option.bind_some]
    cases hc : D.contains (V.getD j 0) with
    | true =>
     rw [cnd_true, As (by omega) (by omega), Am]
     refine (ih (j + 1) _ (by omega) (by omega)).trans ?_
     simp
    | false =>
     rw [cnd_false, Mj N hN (by omega), Option.bind_some, As (by omega) (by omega), Am]
     refine (ih (j + 1) _ (by omega) (by omega)).trans ?_
     rw [Bool.false_or, Bool.true_and]
  rw [Al (by omega), show j = V.length from by omega, List.drop_length]; simp
theorem ogS3 (hN : 4000000 ≤ N) {v1 : List (List Int) × Bool} {D V : List Int} {i : Nat} (hL : (v1.1.getD i []).length ≤ 1000) (hD : D.length ≤ 1000) (hV : V.length ≤ 1000) (kk : Bool → Option (List (List Int) × Bool)) : ∀ (fuel j : Nat) (f : Bool), j ≤ V.length → V.length < fuel + j →
  Bv N v1 D (i : Int) V kk fuel (f, (j : Int)) = kk (f && (V.drop j).all fun x => D.contains x || (v1.1.getD i []).contains x) := by
 intro fuel
 induction fuel with
 | zero => intro j f h1 h2; omega
 | succ fuel ih =>
  intro j f h1 h2
  rw [Bv]
  by_cases hj : j < V.length
  ·rw [Ak (by omega), show ((j : Int)).toNat = j from by omega, show ((i : Int)).toNat = i from by omega, dropG 0 hj, List.all_cons]
   cases f with
   | false =>
    rw [cnd_false, As (by omega) (by omega), Am]
    refine (ih (j + 1) _ (by omega) (by omega)).trans ?_
    simp
   | true =>
    rw [cnd_true, Ad (by omega), Ka N hN (by omega), Option.bind_some]
    cases hc : D.contains (V.getD j 0) with
    | true =>
     rw [cnd_true, As (by omega) (by omega), Am]
     refine (ih (j + 1) _ (by omega) (by omega)).trans ?_
     simp
    | false =>
     rw [cnd_false, Ka N hN (by omega), Option.bind_some, As (by omega) (by omega), Am]
     refine (ih (j + 1) _ (by omega) (by omega)).trans ?_
     rw [Bool.false_or, Bool.true_and]
  rw [Al (by omega), show j = V.length from by omega, List.drop_length]; simp
section
variable {p : Pin} {ow : List Int}
def grp (p : Pin) (ow : List Int) (u : Int) : List Int := (Ae p).filter (mt p ow u)
theorem grp_len (hp : Ay p = true) (u : Int) : (grp p ow u).length ≤ 8 := Nat.le_trans (List.length_filter_le _ _) (La hp)
theorem Mm {Q : List Int} {i : Nat} (hi : i < Q.length) : (Q.map (grp p ow)).getD i [] = grp p ow (Q.getD i 0) := by
 rw [List.getD_eq_getElem?_getD, List.getElem?_map, List.getElem?_eq_getElem hi, List.getD_eq_getElem?_getD, List.getElem?_eq_getElem hi]; rfl
theorem Aag : ∀ {Q : List Int} {i : Nat}, Q.Nodup → i < Q.length → Q.take i ++ Q.drop (i + 1) = Q.filter (· != Q.getD i 0)
 | [], i, _, h => by simp at h
 | q :: Q, 0, hn, _ => by
  have h1 := List.nodup_cons.1 hn
  have : Q.filter (· != q) = Q := List.filter_eq_self.2 fun a ha => by
   rw [bne_iff_ne]; exact fun e => h1.1 (e ▸ ha)
  simp [this]
 | q :: Q, i + 1, hn, h => by
  have h1 := List.nodup_cons.1 hn
  have hi : i < Q.length := by simpa using h
  have ih := Aag h1.2 hi
  have hm : Q.getD i 0 ∈ Q := Hy hi
  have hq : (q != Q.getD i 0) = true := by rw [bne_iff_ne]; exact fun e => h1.1 (e ▸ hm)
  have e : (q :: Q).getD (i + 1) 0 = Q.getD i 0 := rfl
  rw [e, List.filter_cons, if_pos hq, ← ih]
  rfl
theorem ogI2 (hN : 4000000 ≤ N) (hp : Ay p = true) (hl : ow.length = p.g.bars.length) (ho : Own p 0 ow) (hI : Fh N p = some (ow, true)) {Q : List Int} (hQ : ∀ u ∈ Q, u ∈ Ky (mt p ow) (Ae p)) (hnd : Q.Nodup) (hQ8 : Q.length ≤ 8) {O : List (List Int)} (hO : O.length ≤ 100) {D : List Int} (hD : D.length ≤ 500)
  (k : List (List Int) × List (List Int) × List Int → Option (List (List Int) × Bool)) : ∀ (fuel i : Nat), i ≤ Q.length → Q.length < fuel + i →
  Cq N p O (Q.map (grp p ow)) D k fuel (i : Int) = match (Q.drop i).find? (rdy p ow (Ae p) D) with
   | some u => k (O ++ [grp p ow u], (Q.filter (· != u)).map (grp p ow), D ++ grp p ow u)
   | none => k (O, Q.map (grp p ow), D) := by
 have E := mt_eqv hp ow fun v h => Gy hp h
 intro fuel
 induction fuel with
 | zero => intro i h1 h2; omega
 | succ fuel ih =>
  intro i h1 h2
  have hml : (Q.map (grp p ow)).length = Q.length := List.length_map ..
  rw [Cq]
  by_cases hi : i < Q.length
  ·have ei : ((i : Int)).toNat = i := by omega
   have hu := hQ _ (Hy hi)
   have hur := Gq hu
   have hui := Gy hp hur.1
   have hg8 := grp_len (ow := ow) hp (Q.getD i 0)
   have hne := Jt (m := mt p ow (Q.getD i 0)) hur.1 (E.rf _ hur.1)
   have hpos : 0 < (grp p ow (Q.getD i 0)).length := List.length_pos_iff.2 hne
   have hh : (grp p ow (Q.getD i 0)).getD 0 0 = Q.getD i 0 := hur.2
   have hrl := Qz hp ow (Q.getD i 0)
   have e1 : (((i : Int) + 1)).toNat = i + 1 := by omega
   rw [Ak (by omega), ei, Mm hi, Ad (by omega), Ad (by omega), show ((0 : Int)).toNat = 0 from rfl, hh, dependsI_s hN hI hp hl ho hui, Option.bind_some]
   refine (ogI3 hN (L := Q.map (grp p ow)) (D := D) (V := Fx p ow (Q.getD i 0)) (i := i) (by rw [Mm hi]; omega) (by omega) (by omega) _ N 0 true (by omega) (by omega)).trans ?_
   rw [List.drop_zero, Bool.true_and, Mm hi, dropG 0 hi, List.find?_cons]
   have er : ((Fx p ow (Q.getD i 0)).all fun x => D.contains x || (grp p ow (Q.getD i 0)).contains x) = rdy p ow (Ae p) D (Q.getD i 0) := rfl
   rw [er]
   cases hr : rdy p ow (Ae p) D (Q.getD i 0) with
   | false =>
    rw [cnd_false, As (by omega) (by omega), Am]
    exact ih (i + 1) (by omega) (by omega)
   | true =>
    have e2 : (O ++ [grp p ow (Q.getD i 0)]).getD O.length [] = grp p ow (Q.getD i 0) := by simp
    have e3 : (Q.map (grp p ow)).take i ++ (Q.map (grp p ow)).drop (i + 1) = (Q.filter (· != Q.getD i 0)).map (grp p ow) := by
     rw [← Aag hnd hi, List.map_append, List.map_take, List.map_drop]
    rw [cnd_true, Ad (by omega), Ad (by omega), Ad (by omega), Ad (by omega), Ad (by omega), Ad (by omega), Ad (by omega), As (by omega) (by omega), Ad (by omega), e1, Ad (by omega), e2, e3, List.take_length]
  have : i = Q.length := by omega
  rw [Al (by omega), this, List.drop_length]; rfl
theorem ogS2 (hN : 4000000 ≤ N) (hp : Ay p = true) (hl : ow.length = p.g.bars.length) (ho : Own p 0 ow) {R : List Int} (hQ : ∀ u ∈ R, u ∈ Ky (mt p ow) (Ae p)) (hQ8 : R.length ≤ 8) {b1 b2 : Bool} {O : List (List Int)} (hO : O.length ≤ 100) {D : List Int} (hD : D.length ≤ 500)
  (k : List (List Int) × List Int → Option (List (List Int) × Bool)) : ∀ (fuel i : Nat), i ≤ R.length → R.length < fuel + i →
  Ce N p (R.map (grp p ow), b1) (ow, b2) O D k fuel (i : Int) = match (R.drop i).find? (fun u => !D.contains u && rdy p ow (Ae p) D u) with
   | some u => k (O ++ [grp p ow u], D ++ grp p ow u)
   | none => k (O, D) := by
 have E := mt_eqv hp ow fun v h => Gy hp h
 intro fuel
 induction fuel with
 | zero => intro i h1 h2; omega
 | succ fuel ih =>
  intro i h1 h2
  have hml : (R.map (grp p ow)).length = R.length := List.length_map ..
  rw [Ce]
  by_cases hi : i < R.length
  ·have ei : ((i : Int)).toNat = i := by omega
   have hu := hQ _ (Hy hi)
   have hur := Gq hu
   have hui := Gy hp hur.1
   have hg8 := grp_len (ow := ow) hp (R.getD i 0)
   have hne := Jt (m := mt p ow (R.getD i 0)) hur.1 (E.rf _ hur.1)
   have hpos : 0 < (grp p ow (R.getD i 0)).length := List.length_pos_iff.2 hne
   have hh : (grp p ow (R.getD i 0)).getD 0 0 = R.getD i 0 := hur.2
   have hrl := Qz hp ow (R.getD i 0)
   rw [Ak (by show (i : Int) < ((R.map (grp p ow)).length : Int); omega)]
   show grd (0 ≤ (i : Int) ∧ (i : Int) < ((R.map (grp p ow)).length : Int)) (grd (0 ≤ (0 : Int) ∧ (0 : Int) < (((R.map (grp p ow)).getD ((i : Int)).toNat []).length : Int)) ((Fc N D (((R.map (grp p ow)).getD ((i : Int)).toNat []).getD ((0 : Int)).toNat 0)).bind _)) = _
   rw [ei, Mm hi, Ad (by omega), Ad (by omega), show ((0 : Int)).toNat = 0 from rfl, hh, Ka N hN (by omega), Option.bind_some, dropG 0 hi, List.find?_cons]
   cases hd : D.contains (R.getD i 0) with
   | true =>
    rw [cnd_true, As (by omega) (by omega), Am]
    rw [Bool.not_true, Bool.false_and]
    exact ih (i + 1) (by omega) (by omega)
   | false =>
    rw [cnd_false, Bool.not_false, Bool.true_and]
    show (Hl N p ow (R.getD i 0)).bind _ = _
    rw [reach_s hN hp hl ho hui, Option.bind_some]
    refine (ogS3 hN (v1 := (R.map (grp p ow), b1)) (D := D) (V := Fx p ow (R.getD i 0)) (i := i) (by show ((R.map (grp p ow)).getD i []).length ≤ 1000; rw [Mm hi]; omega) (by omega) (by omega) _ N 0 true (by omega) (by omega)).trans ?_
    have er : ((Fx p ow (R.getD i 0)).drop 0).all (fun x => D.contains x || ((R.map (grp p ow)).getD i []).contains x) = rdy p ow (Ae p) D (R.getD i 0) := by rw [Mm hi]; rfl
    show cnd (true && ((Fx p ow (R.getD i 0)).drop 0).all (fun x => D.contains x || ((R.map (grp p ow)).getD i []).contains x)) (grd ((grp p ow (R.getD i 0)).length ≤ 4294967296) (grd _ (grd (D.length + (grp p ow (R.getD i 0)).length ≤ 4294967296) (k (O ++ [[] ++ grp p ow (R.getD i 0)], D ++ grp p ow (R.getD i 0)))))) _ = _
    rw [er, Bool.true_and]
    cases hr : rdy p ow (Ae p) D (R.getD i 0) with
    | false =>
     rw [cnd_false, As (by omega) (by omega), Am]
     exact ih (i + 1) (by omega) (by omega)
    | true =>
     rw [cnd_true, Ad (by omega), Ad (by omega), Ad (by omega), List.nil_append]
  have : i = R.length := by omega
  rw [Al (by show ¬ (i : Int) < ((R.map (grp p ow)).length : Int); omega), this, List.drop_length]; rfl
theorem og_main (hN : 4000000 ≤ N) (hp : Ay p = true) (hl : ow.length = p.g.bars.length) (ho : Own p 0 ow) (hI : Fh N p = some (ow, true)) {b2 : Bool} (kI : List (List Int) → Option (List (List Int) × Bool)) :
  ∀ (c : Nat) (D : List Int) (O : List (List Int)) (fS fI : Nat), ((Ky (mt p ow) (Ae p)).filter fun u => !D.contains u).length = c → c < fS → c < fI → D.length + 8 * c ≤ 400 → O.length + c = (Ky (mt p ow) (Ae p)).length →
  (∀ g ∈ O, g.length ≤ 8) → (∀ u ∈ Ky (mt p ow) (Ae p), D.contains u = true → ∀ x ∈ Ae p, mt p ow u x = true → D.contains x = true) →
  ∃ r : List (List Int), r.length ≤ 8 ∧ (∀ g ∈ r, g.length ≤ 8) ∧ Bt N p ((Ky (mt p ow) (Ae p)).map (grp p ow), true) (ow, b2) kI fS (O, D, (O.length : Int)) = kI r ∧
   Cf N p kI fI (O, ((Ky (mt p ow) (Ae p)).filter fun u => !D.contains u).map (grp p ow), D) = kI r := by
 have E := mt_eqv hp ow fun v h => Gy hp h
 have hil := La hp
 have hRl : (Ky (mt p ow) (Ae p)).length ≤ 8 := Nat.le_trans (List.length_filter_le _ _) hil
 have hRn : (Ky (mt p ow) (Ae p)).Nodup := (inner_nd p).filter _
 have hRa := Aav E (inner_nd p)
 intro c
 induction c with
 | zero =>
  intro D O fS fI hc h1 h2 h3 h4 h5 h6
  obtain ⟨fS, rfl⟩ : ∃ f, fS = f + 1 := ⟨fS - 1, by omega⟩
  obtain ⟨fI, rfl⟩ : ∃ f, fI = f + 1 := ⟨fI - 1, by omega⟩
  have hml : ((Ky (mt p ow) (Ae p)).map (grp p ow)).length = (Ky (mt p ow) (Ae p)).length := List.length_map ..
  refine ⟨O, by omega, h5, ?_, ?_⟩
  ·rw [Bt, Al (by show ¬ (O.length : Int) < (((Ky (mt p ow) (Ae p)).map (grp p ow)).length : Int); omega)]
  rw [Cf, List.eq_nil_of_length_eq_zero hc]; rfl
 | succ c ih =>
  intro D O fS fI hc h1 h2 h3 h4 h5 h6
  obtain ⟨fS, rfl⟩ : ∃ f, fS = f + 1 := ⟨fS - 1, by omega⟩
  obtain ⟨fI, rfl⟩ : ∃ f, fI = f + 1 := ⟨fI - 1, by omega⟩
  have hml : ((Ky (mt p ow) (Ae p)).map (grp p ow)).length = (Ky (mt p ow) (Ae p)).length := List.length_map ..
  have hml2 : (((Ky (mt p ow) (Ae p)).filter fun u => !D.contains u).map (grp p ow)).length = c + 1 := by rw [List.length_map]; exact hc
  have hQn : ((Ky (mt p ow) (Ae p)).filter fun u => !D.contains u).Nodup := hRn.filter _
  obtain ⟨u0, hu0⟩ : ∃ u, u ∈ (Ky (mt p ow) (Ae p)).filter fun u => !D.contains u := by
   cases hq : (Ky (mt p ow) (Ae p)).filter fun u => !D.contains u with
   | nil => rw [hq] at hc; simp at hc
   | cons a l => exact ⟨a, by simp⟩
  have hu1 := List.mem_filter.1 hu0
  have hu2 : D.contains u0 = false := by have := hu1.2; simpa using this
  obtain ⟨w, hw, hwd, hwr⟩ := rdy_ex hp E h6 (Fx p ow u0).length u0 hu1.1 hu2 (Nat.le_refl _)
  obtain ⟨u, hu⟩ : ∃ u, (Ky (mt p ow) (Ae p)).find? (fun u => !D.contains u && rdy p ow (Ae p) D u) = some u := by
   cases hf : (Ky (mt p ow) (Ae p)).find? (fun u => !D.contains u && rdy p ow (Ae p) D u) with
   | some u => exact ⟨u, rfl⟩
   | none =>
    have := List.find?_eq_none.1 hf w hw
    rw [hwd, hwr] at this; simp at this
  have humem := List.mem_of_find?_eq_some hu
  have hup : D.contains u = false ∧ rdy p ow (Ae p) D u = true := by
   have := List.find?_some hu
   simp only [Bool.and_eq_true, Bool.not_eq_true'] at this
   exact this
  have huQ : ((Ky (mt p ow) (Ae p)).filter fun u => !D.contains u).find? (rdy p ow (Ae p) D) = some u := by
   rw [List.find?_filter, ← hu]
   congr 1
   funext a
   rw [Bool.eq_iff_iff, decide_eq_true_iff, Bool.and_eq_true]
  have hur := Gq humem
  have hg8 := grp_len (ow := ow) hp u
  have hself : ∀ x ∈ Ky (mt p ow) (Ae p), (grp p ow u).contains x = (x == u) := fun x hx => by
   rw [Bool.eq_iff_iff, List.contains_iff_mem, beq_iff_eq]
   constructor
   ·intro h
    have h7 := (List.mem_filter.1 h).2
    apply Classical.byContradiction
    intro hne
    have h8 := Wy E hur.1 (Gq hx).1 h7
    have h9 := (Gq hx).2
    rw [← h8, hur.2] at h9
    exact hne h9.symm
   rintro rfl
   exact List.mem_filter.2 ⟨hur.1, E.rf _ hur.1⟩
  have hnext : ((Ky (mt p ow) (Ae p)).filter fun x => !(D ++ grp p ow u).contains x) = ((Ky (mt p ow) (Ae p)).filter fun u => !D.contains u).filter (· != u) := by
   rw [List.filter_filter]
   refine List.filter_congr fun x hx => ?_
   have : (D ++ grp p ow u).contains x = (D.contains x || (x == u)) := by
    rw [← hself x hx, Bool.eq_iff_iff, Bool.or_eq_true, List.contains_iff_mem, List.contains_iff_mem, List.contains_iff_mem, List.mem_append]
   rw [this, Bool.not_or, Bool.and_comm]
   rfl
  have hlen : (((Ky (mt p ow) (Ae p)).filter fun u => !D.contains u).filter (· != u)).length = c := by
   have hm : u ∈ (Ky (mt p ow) (Ae p)).filter fun u => !D.contains u := List.mem_filter.2 ⟨humem, by rw [hup.1]; rfl⟩
   have := List.length_erase_of_mem hm
   rw [hQn.erase_eq_filter] at this
   omega
  have hinv : ∀ v ∈ Ky (mt p ow) (Ae p), (D ++ grp p ow u).contains v = true → ∀ x ∈ Ae p, mt p ow v x = true → (D ++ grp p ow u).contains x = true := fun v hv hc2 x hx hm => by
   rw [List.contains_iff_mem, List.mem_append] at hc2 ⊢
   rcases hc2 with h | h
   ·left
    have := h6 v hv (List.contains_iff_mem.2 h) x hx hm
    exact List.contains_iff_mem.1 this
   right
   have h7 : (grp p ow u).contains v = true := List.contains_iff_mem.2 h
   rw [hself v hv, beq_iff_eq] at h7
   subst h7
   exact List.mem_filter.2 ⟨hx, hm⟩
  obtain ⟨r, r1, r2, r3, r4⟩ := ih (D ++ grp p ow u) (O ++ [grp p ow u]) fS fI (by rw [hnext]; exact hlen) (by omega) (by omega) (by rw [List.length_append]; omega) (by rw [List.length_append, List.length_singleton]; omega) (fun g hg => by
   rw [List.mem_append, List.mem_singleton] at hg
   rcases hg with hg | rfl
   ·exact h5 g hg
   exact hg8) hinv
  refine ⟨r, r1, r2, ?_, ?_⟩
  ·rw [Bt, Ak (by show (O.length : Int) < (((Ky (mt p ow) (Ae p)).map (grp p ow)).length : Int); omega)]
   show cnd true _ _ = _
   rw [cnd_true]
   refine (ogS2 hN hp hl ho (R := Ky (mt p ow) (Ae p)) (fun _ h => h) hRl (by omega) (by omega) _ N 0 (by omega) (by omega)).trans ?_
   rw [List.drop_zero, hu]
   show grd _ _ = _
   rw [As (by omega) (by omega)]
   rw [List.length_append, List.length_singleton] at r3
   exact r3
  rw [Cf, Ak (by omega)]
  refine (ogI2 hN hp hl ho hI (Q := (Ky (mt p ow) (Ae p)).filter fun u => !D.contains u) (fun x h => (List.mem_filter.1 h).1) hQn (by omega) (by omega) (by omega) _ N 0 (by omega) (by omega)).trans ?_
  rw [List.drop_zero, huQ]
  rw [hnext] at r4
  exact r4
end
theorem order_x (hN : 4000000 ≤ N) {p : Pin} (hb : p.g.bars.length ≤ 3000000) (hg : p.ground.length ≤ 3000000) : ∃ (r : List (List Int)) (b : Bool), r.length ≤ 8 ∧ (∀ g ∈ r, g.length ≤ 8) ∧ Fu N p = some (r, b) ∧ Er N p = some (r, b) := by
 obtain ⟨ow, b, hS, hI, hf, h1, h2⟩ := groups_y (N := N) hN hb hg
 unfold Fu Er
 rw [h1, h2, hS, Option.bind_some, Option.bind_some, Option.bind_some]
 cases b with
 | false =>
  refine ⟨[], false, by simp, by simp, ?_, rfl⟩
  obtain ⟨M, rfl⟩ : ∃ M, N = M + 1 := ⟨N - 1, by omega⟩
  rw [Bt]; rfl
 | true =>
  obtain ⟨hp, hl, ho⟩ := hf rfl
  have hil := La hp
  have hRl : (Ky (mt p ow) (Ae p)).length ≤ 8 := Nat.le_trans (List.length_filter_le _ _) hil
  have e0 : (Ky (mt p ow) (Ae p)).filter (fun u => !([] : List Int).contains u) = Ky (mt p ow) (Ae p) := List.filter_eq_self.2 fun a _ => rfl
  obtain ⟨r, r1, r2, r3, r4⟩ := og_main hN hp hl ho hI (b2 := true) (fun (l : List (List Int)) => some (l, true)) (Ky (mt p ow) (Ae p)).length [] [] N N (by rw [e0]) (by omega) (by omega) (by simp; omega) (by simp) (by simp) (by simp)
  rw [e0] at r4
  refine ⟨r, true, r1, r2, r3, ?_⟩
  show cnd (!true) _ _ = _
  rw [Bool.not_true, cnd_false]
  exact r4
end Go.Proofs.Ytkklfgcelmeccaa
namespace Go.Proofs.Ytkklfgcelmeccaa
open Go.RowKit Go.Deep
end Go.Proofs.Ytkklfgcelmeccaa
namespace Go.Proofs.Ytkklfgcelmeccaa
open Go.ChangeShapes Go.WideShapes Go.ChangeAt Go.RowKit Go.Deep
section
variable {H : Type} {enc : TypeId × Value → H} {P : Program} {w : World} {spare : Nat → Bool} {held : Bool} {fuel : Nat} {cs : List Value} {x : DataW H × List MemPlace}
end
variable (N : Nat)
end Go.Proofs.Ytkklfgcelmeccaa
namespace Go.Proofs.Ytkklfgcelmeccaa
open Go.RowKit
end Go.Proofs.Ytkklfgcelmeccaa
namespace Go.Proofs.Ytkklfgcelmeccaa
open Go.RowKit Go.Deep
end Go.Proofs.Ytkklfgcelmeccaa
namespace Go.Proofs.Ytkklfgcelmeccaa
open Go.RowKit
end Go.Proofs.Ytkklfgcelmeccaa
namespace Go.Proofs.Ytkklfgcelmeccaa
open Go.RowKit
def Ft (N : Nat) (a_0 : List (List Int)) (b_1 : List (List Int)) (k : Unit → Option (Bool)) : Nat → Int → Option (Bool)
 | 0, _ => none
 | n + 1, i7 =>
  cnd (decide (i7 < (a_0.length : Int))) (
   grd (0 ≤ i7 ∧ i7 < (a_0.length : Int)) <|
   grd (0 ≤ i7 ∧ i7 < (b_1.length : Int)) <|
   (Qs N (a_0.getD ((i7).toNat) []) (b_1.getD ((i7).toNat) [])).bind fun v9 =>
   cnd (!v9) (
    some false) (
    grd (Bk (i7 + (1 : Int))) <|
    Ft N a_0 b_1 k n (i7 + (1 : Int)))) (
   k ())
def Jw (N : Nat) (a_0 : List (List Int)) (b_1 : List (List Int)) : Option (Bool) :=
 cnd ((a_0.length : Int) != (b_1.length : Int)) (
  some false) (
  Ft N a_0 b_1 (fun (_ : Unit) =>
     some true) N (0 : Int))
theorem Rt (N : Nat) (a_0 : List (List Int)) (b_1 : List (List Int)) (r : Bool) (h : Jw N a_0 b_1 = some r) : PCall Try.prog 21 [.ro false (.intss a_0), .ro false (.intss b_1)] [] (.bool r) := by
 unfold Jw at h
 refine Aj (TT := TT) tt Try.func21 rfl rfl Try.ntmps21 (congrArg Array.toList Try.results21) rfl rfl fun w0 => ?_
 refine Ah ?_
 refine Aa ?_
 refine Ac tt rfl rfl rfl rfl rfl Tvv ?_
 refine Af ?_
 change VC _ _ _ _
 iterate 2 refine Ah ?_
 refine Aa ?_
 iterate 5 refine Ac tt rfl rfl rfl rfl rfl Tvv ?_
 refine Af ?_
 change VC _ _ _ _
 refine Av rfl (fun hb1 => ?_) (fun hb1 => ?_)
 ·replace h := Ao hb1 h
  refine Ah ?_
  refine Aa ?_
  refine Ac tt rfl rfl rfl rfl rfl Tvv ?_
  refine Af ?_
  change VC _ _ _ _
  refine Bh ?_
  change ∃ _, _
  cases h
  exact ⟨[], _, rfl, Tvv, rfl, (.eq rfl), rfl⟩
 replace h := Ap hb1 h
 refine Au ?_
 change VC _ _ _ _
 iterate 2 refine Ah ?_
 refine Aa ?_
 refine Ac tt rfl rfl rfl rfl rfl Tvv ?_
 refine Af ?_
 change VC _ _ _ _
 refine Cc (F := fun k => Ft N a_0 b_1 k) h (α := Unit) (J := fun (_ : Unit) => (⟨[], [], []⟩ : PS)) ?_ ?_
 ·rintro ⟨⟩ h
  show VC _ _ _ (⟨[], [], []⟩ : PS)
  refine Ah ?_
  refine Aa ?_
  refine Ac tt rfl rfl rfl rfl rfl Tvv ?_
  refine Af ?_
  change VC _ _ _ _
  refine Bh ?_
  change ∃ _, _
  cases h
  exact ⟨[], _, rfl, Tvv, rfl, (.eq rfl), rfl⟩
 intro k h
 refine Ar ?_
 refine Ba (α := Int) (fun (i7 : Int) => (⟨[(0, .ro false (.intss a_0)), (1, .ro false (.intss b_1)), (5, .int i7)], [], []⟩ : PS)) (Ft N a_0 b_1 k) h (En.of ⟨rfl, rfl, rfl, Tvv⟩ trivial trivial) (fun _ => rfl) ?_
 rintro n i7 h
 rw [Ft] at h
 show VC _ _ _ (⟨[(0, .ro false (.intss a_0)), (1, .ro false (.intss b_1)), (5, .int i7)], [], []⟩ : PS)
 iterate 2 refine Ah ?_
 refine Aa ?_
 iterate 4 refine Ac tt rfl rfl rfl rfl rfl Tvv ?_
 refine Af ?_
 change VC _ _ _ _
 refine Av rfl (fun hb2 => ?_) (fun hb2 => ?_)
 ·replace h := Ao hb2 h
  refine Au ?_
  change VC _ _ _ _
  refine Ah ?_
  refine Ar ?_
  refine Ah ?_
  refine Ca (by kernel_rfl) (by kernel_rfl) ?_
  iterate 2 refine Bi tt rfl (Ag rfl) rfl rfl rfl Tvv ?_
  obtain ⟨hg3, h⟩ := Ab h
  refine Bi tt rfl (Ag rfl) rfl rfl rfl hg3 ?_
  iterate 3 refine Bi tt rfl (Ag rfl) rfl rfl rfl Tvv ?_
  obtain ⟨hg4, h⟩ := Ab h
  refine Bi tt rfl (Ag rfl) rfl rfl rfl hg4 ?_
  refine Bi tt rfl (Ag rfl) rfl rfl rfl Tvv ?_
  obtain ⟨v9, hc5, h⟩ := Ai h
  refine Mq (Aaf N (a_0.getD ((i7).toNat) []) (b_1.getD ((i7).toNat) []) v9 hc5) rfl (Ag rfl) rfl rfl rfl rfl rfl rfl ⟨rfl, rfl, Tvv⟩ ?_
  refine Bi tt rfl (Ag rfl) rfl rfl rfl Tvv ?_
  refine Lo ?_
  change VC _ _ _ _
  refine Av rfl (fun hb6 => ?_) (fun hb6 => ?_)
  ·replace h := Ao hb6 h
   refine Ah ?_
   refine Aa ?_
   refine Ac tt rfl rfl rfl rfl rfl Tvv ?_
   refine Af ?_
   change VC _ _ _ _
   refine Bh ?_
   change ∃ _, _
   cases h
   exact ⟨[], _, rfl, Tvv, rfl, (.eq rfl), rfl⟩
  replace h := Ap hb6 h
  refine Au ?_
  change VC _ _ _ _
  refine Aa ?_
  refine Ac tt rfl rfl rfl rfl rfl Tvv ?_
  obtain ⟨hg7, h⟩ := Ab h
  refine Ac tt rfl rfl rfl rfl rfl hg7 ?_
  refine Ac tt rfl rfl rfl rfl rfl Tvv ?_
  refine Af ?_
  change ∃ _, _
  exact ⟨(i7 + (1 : Int)), (En.of ⟨rfl, rfl, rfl, Tvv⟩ trivial trivial), h⟩
 replace h := Ap hb2 h
 refine Bl ?_
 change ∃ _, _
 exact ⟨(), (En.of trivial trivial trivial), h⟩
end Go.Proofs.Ytkklfgcelmeccaa
namespace Go.Proofs.Ytkklfgcelmeccaa
open Go.RowKit
def Di (N : Nat) (a_0 : List (List Int)) (k : Int → Option (Int)) : Nat → (Int × Int) → Option (Int)
 | 0, _ => none
 | n + 1, (k9, i10) =>
  cnd (decide (i10 < (a_0.length : Int))) (
   grd (0 ≤ i10 ∧ i10 < (a_0.length : Int)) <|
   (Mf N (a_0.getD ((i10).toNat) []) k9).bind fun v12 =>
   cnd (decide (v12 < (0 : Int))) (
    some (-1 : Int)) (
    grd (Bk (i10 + (1 : Int))) <|
    Di N a_0 k n (v12, (i10 + (1 : Int))))) (
   k k9)
def Ji (N : Nat) (a_0 : List (List Int)) (k_1 : Int) : Option (Int) :=
 Di N a_0 (fun (k6 : Int) =>
    some k6) N (k_1, (0 : Int))
theorem Te (N : Nat) (a_0 : List (List Int)) (k_1 : Int) (r : Int) (h : Ji N a_0 k_1 = some r) : PCall Try.prog 25 [.ro false (.intss a_0), .int k_1] [] (.int r) := by
 unfold Ji at h
 refine Aj (TT := TT) tt Try.func25 rfl rfl Try.ntmps25 (congrArg Array.toList Try.results25) rfl rfl fun w0 => ?_
 refine Ah ?_
 refine Aa ?_
 refine Ac tt rfl rfl rfl rfl rfl Tvv ?_
 refine Af ?_
 change VC _ _ _ _
 iterate 2 refine Ah ?_
 refine Aa ?_
 refine Ac tt rfl rfl rfl rfl rfl Tvv ?_
 refine Af ?_
 change VC _ _ _ _
 refine Cc (F := fun k => Di N a_0 k) h (α := Int) (J := fun (k6 : Int) => (⟨[(1, .int k6)], [], []⟩ : PS)) ?_ ?_
 ·rintro k6 h
  show VC _ _ _ (⟨[(1, .int k6)], [], []⟩ : PS)
  refine Ah ?_
  refine Aa ?_
  iterate 2 refine Ac tt rfl rfl rfl rfl rfl Tvv ?_
  refine Af ?_
  change VC _ _ _ _
  refine Bh ?_
  change ∃ _, _
  cases h
  exact ⟨[], _, rfl, Tvv, rfl, (.eq rfl), rfl⟩
 intro k h
 refine Ar ?_
 refine Ba (α := Int × Int) (fun | (k9, i10) => (⟨[(0, .ro false (.intss a_0)), (1, .int k9), (5, .int i10)], [], []⟩ : PS)) (Di N a_0 k) h (En.of ⟨rfl, rfl, rfl, Tvv⟩ trivial trivial) (fun _ => rfl) ?_
 rintro n ⟨k9, i10⟩ h
 rw [Di] at h
 show VC _ _ _ (⟨[(0, .ro false (.intss a_0)), (1, .int k9), (5, .int i10)], [], []⟩ : PS)
 iterate 2 refine Ah ?_
 refine Aa ?_
 iterate 4 refine Ac tt rfl rfl rfl rfl rfl Tvv ?_
 refine Af ?_
 change VC _ _ _ _
 refine Av rfl (fun hb1 => ?_) (fun hb1 => ?_)
 ·replace h := Ao hb1 h
  refine Au ?_
  change VC _ _ _ _
  refine Ah ?_
  refine Ar ?_
  refine Ah ?_
  refine Aa ?_
  iterate 2 refine Ac tt rfl rfl rfl rfl rfl Tvv ?_
  obtain ⟨hg2, h⟩ := Ab h
  refine Ac tt rfl rfl rfl rfl rfl hg2 ?_
  iterate 2 refine Ac tt rfl rfl rfl rfl rfl Tvv ?_
  obtain ⟨v12, hc3, h⟩ := Ai h
  refine Bm (L_heldIntS_w N (a_0.getD ((i10).toNat) []) k9 v12 hc3) rfl rfl rfl rfl rfl rfl rfl rfl ⟨rfl, rfl, Tvv⟩ ?_
  refine Ac tt rfl rfl rfl rfl rfl Tvv ?_
  refine Af ?_
  change VC _ _ _ _
  refine Ah ?_
  refine Aa ?_
  iterate 2 refine Ac tt rfl rfl rfl rfl rfl Tvv ?_
  refine Af ?_
  change VC _ _ _ _
  refine Av rfl (fun hb4 => ?_) (fun hb4 => ?_)
  ·replace h := Ao hb4 h
   refine Ah ?_
   refine Aa ?_
   refine Ac tt rfl rfl rfl rfl rfl Tvv ?_
   refine Af ?_
   change VC _ _ _ _
   refine Bh ?_
   change ∃ _, _
   cases h
   exact ⟨[], _, rfl, Tvv, rfl, (.eq rfl), rfl⟩
  replace h := Ap hb4 h
  refine Au ?_
  change VC _ _ _ _
  refine Aa ?_
  refine Ac tt rfl rfl rfl rfl rfl Tvv ?_
  obtain ⟨hg5, h⟩ := Ab h
  refine Ac tt rfl rfl rfl rfl rfl hg5 ?_
  refine Ac tt rfl rfl rfl rfl rfl Tvv ?_
  refine Af ?_
  change ∃ _, _
  exact ⟨(v12, (i10 + (1 : Int))), (En.of ⟨rfl, rfl, rfl, Tvv⟩ trivial trivial), h⟩
 replace h := Ap hb1 h
 refine Bl ?_
 change ∃ _, _
 exact ⟨k9, (En.of ⟨rfl, Tvv⟩ trivial trivial), h⟩
end Go.Proofs.Ytkklfgcelmeccaa
namespace Go.Proofs.Ytkklfgcelmeccaa
open Go.RowKit Go.Deep
def Dj (N : Nat) (a_0 : List (List Int)) (k : ((List (List Int)) × Int) → Option (Int × (List (List Int)))) : Nat → ((List (List Int)) × Int × Int) → Option (Int × (List (List Int)))
 | 0, _ => none
 | n + 1, (l11, k12, i13) =>
  cnd (decide (i13 < (a_0.length : Int))) (
   grd (0 ≤ i13 ∧ i13 < (a_0.length : Int)) <|
   grd (0 ≤ i13 ∧ i13 < (l11.length : Int)) <|
   (Ko N (l11.getD ((i13).toNat) []) k12).bind fun v15 =>
   grd (v15.2.length = (l11.getD ((i13).toNat) []).length) <|
   grd (Bk (i13 + (1 : Int))) <|
   Dj N a_0 k n ((l11.set ((i13).toNat) v15.2), v15.1, (i13 + (1 : Int)))) (
   k (l11, k12))
def Ld (N : Nat) (a_0 : List (List Int)) (k_1 : Int) : Option (Int × (List (List Int))) :=
 Dj N a_0 (fun (x : (List (List Int)) × Int) =>
   match x with
   | (l7, k8) =>
    some (k8, l7)) N (a_0, k_1, (0 : Int))
theorem L_markIntSS_w (N : Nat) (a_0 : List (List Int)) (k_1 : Int) (r : Int × (List (List Int))) (h : Ld N a_0 k_1 = some r) : MCall Try.prog 24 [.row 1000000 0 a_0.length, .int k_1] [1000000, 8589934602] [] [(35, dR 10 (.intss a_0)), (3, dF (.intss a_0))] [(35, dR 10 (.intss r.2)), (3, dF (.intss r.2))] [] [] (.int r.1) := by
 unfold Ld at h
 refine Eb (TT := TT) tt Try.func24 rfl rfl Try.ntmps24 (congrArg Array.toList Try.results24) rfl rfl rfl rfl rfl fun w0 O0 => ?_
 refine Ah ?_
 refine Aa ?_
 refine Ac tt rfl rfl rfl rfl rfl Tvv ?_
 refine Af ?_
 change VC _ _ _ _
 iterate 2 refine Ah ?_
 refine Aa ?_
 refine Ac tt rfl rfl rfl rfl rfl Tvv ?_
 refine Af ?_
 change VC _ _ _ _
 refine Cc (F := fun k => Dj N a_0 k) h (α := (List (List Int)) × Int) (J := fun | (l7, k8) => (⟨[(1, .int k8)], [(1000000, some (35, dR 10 (.intss l7))), (8589934602, some (3, dF (.intss l7)))], []⟩ : PS)) ?_ ?_
 ·rintro ⟨l7, k8⟩ h
  show VC _ _ _ (⟨[(1, .int k8)], [(1000000, some (35, dR 10 (.intss l7))), (8589934602, some (3, dF (.intss l7)))], []⟩ : PS)
  refine Ah ?_
  refine Aa ?_
  iterate 2 refine Ac tt rfl rfl rfl rfl rfl Tvv ?_
  refine Af ?_
  change VC _ _ _ _
  refine Bh ?_
  change ∃ _, _
  cases h
  exact ⟨[1000000, 8589934602], rfl, ⟨rfl, rfl, Tvv⟩, Tvv, rfl⟩
 intro k h
 refine Ar ?_
 refine Ba (α := (List (List Int)) × Int × Int) (fun | (l11, k12, i13) => (⟨[(0, .row 1000000 0 a_0.length), (1, .int k12), (5, .int i13)], [(1000000, some (35, dR 10 (.intss l11))), (8589934602, some (3, dF (.intss l11)))], []⟩ : PS)) (Dj N a_0 k) h (En.of ⟨rfl, rfl, rfl, Tvv⟩ ⟨rfl, rfl, Tvv⟩ trivial) (fun _ => rfl) ?_
 rintro n ⟨l11, k12, i13⟩ h
 rw [Dj] at h
 show VC _ _ _ (⟨[(0, .row 1000000 0 a_0.length), (1, .int k12), (5, .int i13)], [(1000000, some (35, dR 10 (.intss l11))), (8589934602, some (3, dF (.intss l11)))], []⟩ : PS)
 iterate 2 refine Ah ?_
 refine Aa ?_
 iterate 4 refine Ac tt rfl rfl rfl rfl rfl Tvv ?_
 refine Af ?_
 change VC _ _ _ _
 refine Av rfl (fun hb1 => ?_) (fun hb1 => ?_)
 ·replace h := Ao hb1 h
  refine Au ?_
  change VC _ _ _ _
  refine Ah ?_
  refine Ar ?_
  refine Aa ?_
  iterate 2 refine Ac tt rfl rfl rfl rfl rfl Tvv ?_
  obtain ⟨hg2, h⟩ := Ab h
  refine Ac tt rfl rfl rfl rfl rfl hg2 ?_
  obtain ⟨hg3, h⟩ := Ab h
  refine oLoadD tt (Ag rfl) (.intss l11) rfl rfl rfl rfl rfl rfl rfl rfl rfl hg3 ?_
  refine Ac tt rfl rfl rfl rfl rfl Tvv ?_
  obtain ⟨v15, hc4, h⟩ := Ai h
  obtain ⟨hg5, h⟩ := Ab h
  refine oMCallI 1000000 (.intss (l11.set ((i13).toNat) v15.2)) (Wa N (l11.getD ((i13).toNat) []) k12 v15 hc4) rfl rfl rfl rfl rfl rfl rfl rfl rfl (by simp only [Sq.len, List.length_set, List.length_append, List.length_replicate] at *; omega) (inI _ _ _ _ (by first | omega | (simp only [List.length_set, List.length_append, List.length_replicate] at *; omega)) hg5) hg5 rfl rfl ?_
  refine Ac tt rfl rfl rfl rfl rfl Tvv ?_
  refine Af ?_
  change VC _ _ _ _
  refine Aa ?_
  refine Ac tt rfl rfl rfl rfl rfl Tvv ?_
  obtain ⟨hg6, h⟩ := Ab h
  refine Ac tt rfl rfl rfl rfl rfl hg6 ?_
  refine Ac tt rfl rfl rfl rfl rfl Tvv ?_
  refine Af ?_
  change ∃ _, _
  exact ⟨((l11.set ((i13).toNat) v15.2), v15.1, (i13 + (1 : Int))), (En.of ⟨rfl, rfl, rfl, Tvv⟩ ⟨rfl, rfl, Tvv⟩ trivial), h⟩
 replace h := Ap hb1 h
 refine Bl ?_
 change ∃ _, _
 exact ⟨(l11, k12), (En.of ⟨rfl, Tvv⟩ ⟨rfl, rfl, Tvv⟩ trivial), h⟩
end Go.Proofs.Ytkklfgcelmeccaa
namespace Go.Proofs.Ytkklfgcelmeccaa
variable {N : Nat}
def mkR (k : Int) : List Nat → List (Int × List Int)
 | [] => []
 | m :: l => (k, mkI (k + 1) m) :: mkR (k + 1 + (m : Int)) l
def mkII (k : Int) : List Nat → List (List Int)
 | [] => []
 | m :: l => mkI k m :: mkII (k + (m : Int)) l
theorem mkII_len (k : Int) (l : List Nat) : (mkII k l).length = l.length := by
 induction l generalizing k with
 | nil => rfl
 | cons m l ih => simp [mkII, ih]
theorem getD_at {α : Type} {a : List α} {x d : α} {b : List α} {i : Nat} (h : a.length = i) : (a ++ x :: b).getD i d = x := by subst h; simp
theorem set_at {α : Type} {a : List α} {x y : α} {b : List α} {i : Nat} (h : a.length = i) : (a ++ x :: b).set i y = a ++ y :: b := by subst h; simp
theorem Xv {α : Type} (a b : List α) (x : α) : a ++ x :: b = (a ++ [x]) ++ b := by simp
end Go.Proofs.Ytkklfgcelmeccaa
namespace Go.Proofs.Ytkklfgcelmeccaa
variable {N : Nat}
def lnSS {α : Type} (a : List (List α)) : Nat := (a.map List.length).sum
theorem lnSS_bd {α : Type} {m : Nat} : ∀ {a : List (List α)}, (∀ x ∈ a, x.length ≤ m) → lnSS a ≤ a.length * m
 | [], _ => by simp [lnSS]
 | x :: a, h => by
  have h1 := h x (by simp)
  have h2 := lnSS_bd (a := a) fun y hy => h y (by simp [hy])
  have e : lnSS (x :: a) = x.length + lnSS a := by simp [lnSS]
  rw [e, List.length_cons, Nat.succ_mul]; omega
theorem markIntSS_l (hN : 4000000 ≤ N) {a : List (List Int)} (ha : a.length ≤ 1048576) (kk : List (List Int) × Int → Option (Int × List (List Int))) : ∀ (rest : List (List Int)) (pre : List (List Int)) (k : Int) (n : Nat), pre.length + rest.length = a.length → rest.length < n → 0 ≤ k → k + (lnSS rest : Int) ≤ 100000000 → lnSS rest ≤ 1048576 →
  Dj N a kk n (pre ++ rest, k, (pre.length : Int)) = kk (pre ++ mkII k (rest.map List.length), k + (lnSS rest : Int)) := by
 intro rest
 induction rest with
 | nil =>
  intro pre k n h1 h2 h3 h4 h5
  cases n with
  | zero => simp at h2
  | succ n =>
   simp at h1
   rw [Dj, Al (by omega)]
   simp [lnSS, mkII]
 | cons r rest ih =>
  intro pre k n h1 h2 h3 h4 h5
  cases n with
  | zero => simp at h2
  | succ n =>
   simp at h1 h2
   have e0 : lnSS (r :: rest) = r.length + lnSS rest := by simp [lnSS]
   have e : ((pre.length : Int)).toNat = pre.length := by omega
   have g1 : 0 ≤ (pre.length : Int) ∧ (pre.length : Int) < (a.length : Int) := by omega
   have g2 : 0 ≤ (pre.length : Int) ∧ (pre.length : Int) < ((pre ++ r :: rest).length : Int) := by simp; omega
   have hr : r.length ≤ 1048576 := by omega
   rw [Dj, Ak (by omega), Ad g1, Ad g2, e, getD_at rfl, Aai hN (by omega) hr, Option.bind_some]
   simp only
   rw [Ad (Xn _ _), As (by omega) (by omega), set_at rfl, Am, Xv]
   have h6 : ((pre.length + 1 : Nat) : Int) = ((pre ++ [mkI k r.length]).length : Int) := by simp
   rw [h6, ih _ _ _ (by simp; omega) (by omega) (by omega) (by omega) (by omega)]
   rw [List.map_cons, mkII, e0, ← Xv]
   congr 2
   omega
theorem markIntSS_s (hN : 4000000 ≤ N) {a : List (List Int)} {k0 : Int} (hk : 0 ≤ k0 ∧ k0 ≤ 50000000) (hl : a.length ≤ 1048576) (ha : lnSS a ≤ 1048576) : Ld N a k0 = some (k0 + (lnSS a : Int), mkII k0 (a.map List.length)) := by
 unfold Ld
 exact markIntSS_l hN hl _ a [] k0 N (by simp) (by omega) (by omega) (by omega) ha
theorem heldIntSS_l (hN : 4000000 ≤ N) (kk : Int → Option Int) (a : List (List Int)) : ∀ (ls : List Nat) (pre : List (List Int)) (k : Int) (n : Nat), a = pre ++ mkII k ls → a.length ≤ 1048576 → ls.length < n → 0 ≤ k → k + ((ls.sum : Nat) : Int) ≤ 100000000 → ls.sum ≤ 1048576 →
  Di N a kk n (k, (pre.length : Int)) = kk (k + ((ls.sum : Nat) : Int)) := by
 intro ls
 induction ls with
 | nil =>
  intro pre k n h1 h2 h3 h4 h5 h6
  cases n with
  | zero => simp at h3
  | succ n =>
   have : a.length = pre.length := by rw [h1]; simp [mkII]
   rw [Di, Al (by omega)]
   simp
 | cons m ls ih =>
  intro pre k n h1 h2 h3 h4 h5 h6
  cases n with
  | zero => simp at h3
  | succ n =>
   simp at h3 h5 h6
   have hl : a.length = pre.length + (1 + ls.length) := by rw [h1]; simp [mkII, mkII_len]; omega
   have e : ((pre.length : Int)).toNat = pre.length := by omega
   have g1 : 0 ≤ (pre.length : Int) ∧ (pre.length : Int) < (a.length : Int) := by omega
   have hg : a.getD pre.length [] = mkI k m := by rw [h1, mkII, getD_at rfl]
   rw [Di, Ak (by omega), Ad g1, e, hg, heldIntS_s hN (by omega) (by omega), Option.bind_some, Al (by omega), As (by omega) (by omega), Am]
   have h7 : ((pre.length + 1 : Nat) : Int) = ((pre ++ [mkI k m]).length : Int) := by simp
   rw [h7, ih _ _ n (by rw [h1, mkII, Xv]) h2 (by omega) (by omega) (by omega) (by omega)]
   congr 1
   simp
   omega
theorem heldIntSS_s (hN : 4000000 ≤ N) {ls : List Nat} {k0 : Int} (hk : 0 ≤ k0 ∧ k0 ≤ 50000000) (h1 : ls.length ≤ 1048576) (h2 : ls.sum ≤ 1048576) : Ji N (mkII k0 ls) k0 = some (k0 + ((ls.sum : Nat) : Int)) := by
 unfold Ji
 exact heldIntSS_l hN _ (mkII k0 ls) ls [] k0 N rfl (by rw [mkII_len]; exact h1) (by omega) (by omega) (by omega) h2
theorem eqIntSS_l (hN : 4000000 ≤ N) {a : List (List Int)} (ha : a.length ≤ 1048576) (hi : ∀ x ∈ a, x.length ≤ 1048576) (k : Unit → Option Bool) : ∀ n i : Nat, i ≤ a.length → a.length < n + i → Ft N a a k n (i : Int) = k () := by
 intro n
 induction n with
 | zero => intro i h1 h2; omega
 | succ n ih =>
  intro i h1 h2
  rw [Ft]
  by_cases hl : i < a.length
  ·have hg : a.getD i [] = a[i] := by simp [hl]
   have e : ((i : Int)).toNat = i := by omega
   rw [Ak (by omega), Ad (by omega), Ad (by omega), e, hg, eqIntS_s N hN (hi _ (List.getElem_mem hl)), Option.bind_some, Bool.not_true, cnd_false, As (by omega) (by omega), Am]
   exact ih (i + 1) (by omega) (by omega)
  rw [Al (by omega)]
theorem eqIntSS_s (hN : 4000000 ≤ N) {a : List (List Int)} (ha : a.length ≤ 1048576) (hi : ∀ x ∈ a, x.length ≤ 1048576) : Jw N a a = some true := by
 unfold Jw
 rw [bne_self_eq_false, cnd_false]
 exact eqIntSS_l hN ha hi _ N 0 (by omega) (by omega)
end Go.Proofs.Ytkklfgcelmeccaa
namespace Go.Proofs.Ytkklfgcelmeccaa
open Go.RowKit
def Dp (N : Nat) (aP_0 : Pin) : Option (Bool) :=
 (Mk N aP_0 (1048576 : Int)).bind fun v1 =>
 cnd (decide (v1 < (0 : Int))) (
  some true) (
  (Ho N aP_0).bind fun v2 =>
  (Fu N v2).bind fun v3 =>
  (Ho N aP_0).bind fun v4 =>
  (Er N v4).bind fun v5 =>
  (Jw N v5.1 v3.1).bind fun v6 =>
  cnd (!v6) (
   some false) (
   cnd (v5.2 != v3.2) (
    some false) (
    (Ho N aP_0).bind fun v7 =>
    (Ml N v4 v7).bind fun v8 =>
    cnd (!v8) (
     some false) (
     (Jv N (⟨⟨v4.g.n, v4.g.bars⟩, v4.ground⟩ : Pin) (1 : Int)).bind fun v9 =>
     cnd (decide (v9.1 < (0 : Int))) (
      some false) (
      (Jw N v5.1 v3.1).bind fun v10 =>
      cnd (!v10) (
       some false) (
       (Ld N v5.1 (1 : Int)).bind fun v11 =>
       grd (v5.1.length = v11.2.length) <|
       (Ji N v11.2 (1 : Int)).bind fun v12 =>
       cnd (decide (v12 < (0 : Int))) (
        some false) (
        cnd (v12 != v11.1) (
         some false) (
         (Ho N aP_0).bind fun v13 =>
         (Er N v13).bind fun v14 =>
         (Jw N v14.1 v3.1).bind fun v15 =>
         cnd (!v15) (
          some false) (
          cnd (v14.2 != v3.2) (
           some false) (
           (Ji N v11.2 (1 : Int)).bind fun v16 =>
           cnd (decide (v16 < (0 : Int))) (
            some false) (
            cnd (v16 != v11.1) (
             some false) (
             some true))))))))))))
theorem Md (N : Nat) (aP_0 : Pin) (r : Bool) (h : Dp N aP_0 = some r) : PCall Try.prog 5 [pD aP_0] [] (.bool r) := by
 unfold Dp at h
 refine Aj (TT := TT) tt Try.func5 rfl rfl Try.ntmps5 (congrArg Array.toList Try.results5) rfl rfl fun w0 => ?_
 refine Ah ?_
 refine Aa ?_
 refine Jc rfl rfl rfl rfl rfl rfl rfl rfl rfl ?_
 refine Ac tt rfl rfl rfl rfl rfl Tvv ?_
 refine Af ?_
 change VC _ _ _ _
 refine Ah ?_
 refine Aa ?_
 refine Ac tt rfl rfl rfl rfl rfl Tvv ?_
 refine Af ?_
 change VC _ _ _ _
 refine Ah ?_
 refine Aa ?_
 iterate 2 refine Ac tt rfl rfl rfl rfl rfl Tvv ?_
 obtain ⟨v1, hc1, h⟩ := Ai h
 refine Bm (L_szPinned_w N aP_0 (1048576 : Int) v1 hc1) rfl rfl rfl rfl rfl rfl rfl rfl ⟨⟨rfl, rfl, rfl, Tvv⟩, rfl, Tvv⟩ ?_
 refine Ac tt rfl rfl rfl rfl rfl Tvv ?_
 refine Af ?_
 change VC _ _ _ _
 iterate 2 refine Ah ?_
 refine Aa ?_
 iterate 2 refine Ac tt rfl rfl rfl rfl rfl Tvv ?_
 refine Af ?_
 change VC _ _ _ _
 refine Av rfl (fun hb2 => ?_) (fun hb2 => ?_)
 ·replace h := Ao hb2 h
  refine Ah ?_
  refine Aa ?_
  refine Ac tt rfl rfl rfl rfl rfl Tvv ?_
  refine Af ?_
  change VC _ _ _ _
  refine Bh ?_
  change ∃ _, _
  cases h
  exact ⟨[], _, rfl, Tvv, rfl, (.eq rfl), rfl⟩
 replace h := Ap hb2 h
 refine Au ?_
 change VC _ _ _ _
 refine Ah ?_
 refine Aa ?_
 refine Ac tt rfl rfl rfl rfl rfl Tvv ?_
 obtain ⟨v2, hc3, h⟩ := Ai h
 refine Bm (Ls N aP_0 v2 hc3) rfl rfl rfl rfl rfl rfl rfl rfl ⟨⟨rfl, rfl, rfl, Tvv⟩, Tvv⟩ ?_
 obtain ⟨v3, hc4, h⟩ := Ai h
 refine Bm (Ts N v2 v3 hc4) rfl rfl rfl rfl rfl rfl rfl rfl ⟨⟨rfl, (.inl ⟨rfl, rfl⟩), (.inl ⟨rfl, rfl⟩), Tvv⟩, Tvv⟩ ?_
 iterate 5 refine Ac tt rfl rfl rfl rfl rfl Tvv ?_
 refine Af ?_
 change VC _ _ _ _
 refine Ah ?_
 refine Aa ?_
 refine Ac tt rfl rfl rfl rfl rfl Tvv ?_
 obtain ⟨v4, hc5, h⟩ := Ai h
 refine Bm (Ls N aP_0 v4 hc5) rfl rfl rfl rfl rfl rfl rfl rfl ⟨⟨rfl, rfl, rfl, Tvv⟩, Tvv⟩ ?_
 refine Cy tt rfl rfl rfl rfl rfl rfl rfl rfl rfl ?_
 refine Ax tt rfl rfl rfl rfl rfl rfl rfl rfl rfl rfl rfl ⟨Tvv, Tvv, Tvv, Tvv⟩ ?_
 refine Af ?_
 change VC _ _ _ _
 refine Ah ?_
 refine Aa ?_
 refine Ac tt rfl rfl rfl rfl rfl Tvv ?_
 obtain ⟨v5, hc6, h⟩ := Ai h
 refine oCallD 10 (Mn N v4 v5 hc6) rfl rfl rfl rfl rfl rfl rfl rfl rfl rfl rfl (fun _ h => by cases h) ⟨⟨rfl, (.inl ⟨rfl, rfl⟩), (.inl ⟨rfl, rfl⟩), Tvv⟩, Tvv⟩ ?_
 iterate 5 refine Ac tt rfl rfl rfl rfl rfl Tvv ?_
 refine Af ?_
 change VC _ _ _ _
 iterate 2 refine Ah ?_
 refine Aa ?_
 iterate 2 refine Ac tt rfl rfl rfl rfl rfl Tvv ?_
 obtain ⟨v6, hc7, h⟩ := Ai h
 refine Bm (Rt N v5.1 v3.1 v6 hc7) rfl rfl rfl rfl rfl rfl rfl rfl ⟨(.inr (.inr ⟨10, _, by decide, rfl, rfl, rfl, rfl⟩)), (.inl ⟨rfl, rfl⟩), Tvv⟩ ?_
 iterate 2 refine Ac tt rfl rfl rfl rfl rfl Tvv ?_
 refine Dc rfl rfl rfl (fun hb8 => ?_) (fun hb8 => ?_)
 ·replace h := Ao hb8 h
  iterate 3 refine Tv rfl rfl rfl rfl hb8 rfl rfl ?_
  refine Eo rfl rfl rfl rfl rfl hb8 rfl ?_
  refine Af ?_
  change VC _ _ _ _
  refine Ev rfl rfl ?_
  refine Ah ?_
  refine Aa ?_
  refine Ac tt rfl rfl rfl rfl rfl Tvv ?_
  refine Af ?_
  change VC _ _ _ _
  refine Bh ?_
  change ∃ _, _
  cases h
  exact ⟨[], _, rfl, Tvv, rfl, (.eq rfl), rfl⟩
 replace h := Ap hb8 h
 iterate 2 refine Cl tt rfl rfl rfl rfl rfl hb8 rfl rfl rfl Tvv ?_
 refine Sb (Be rfl rfl rfl rfl hb8) (pNeB Try.underlying4 rfl rfl rfl) rfl rfl ?_
 refine Cv rfl rfl rfl rfl rfl hb8 rfl ?_
 refine Af ?_
 change VC _ _ _ _
 refine Av rfl (fun hb9 => ?_) (fun hb9 => ?_)
 ·replace h := Ao hb9 h
  refine Ah ?_
  refine Aa ?_
  refine Ac tt rfl rfl rfl rfl rfl Tvv ?_
  refine Af ?_
  change VC _ _ _ _
  refine Bh ?_
  change ∃ _, _
  cases h
  exact ⟨[], _, rfl, Tvv, rfl, (.eq rfl), rfl⟩
 replace h := Ap hb9 h
 refine Au ?_
 change VC _ _ _ _
 iterate 2 refine Ah ?_
 refine Cd 3 [2] [0, 0, 2, 7, 15] (by kernel_rfl) (by kernel_rfl) (by kernel_rfl) (by kernel_rfl) (by kernel_rfl) rfl (by rfl) ?_
 iterate 2 refine Cz tt rfl (Ag rfl) rfl rfl rfl rfl rfl Tvv ?_
 obtain ⟨v7, hc10, h⟩ := Ai h
 refine Pg (Ls N aP_0 v7 hc10) rfl (Ag rfl) rfl rfl rfl rfl rfl rfl (by first | rfl | kernel_rfl | (simp [nrL, nm, Fj, nmT, Gu]; done)) rfl (by first | rfl | kernel_rfl | (simp [Kp, nrL, nm, Fj, nmT, Gu, hid, Fp, Dg, Cj]; done) | (simp [Kp, nrL, nm, Fj, nmT, Gu, hid, Fp, Dg, Cj]; decide)) ⟨⟨rfl, rfl, rfl, Tvv⟩, Tvv⟩ ?_
 refine Su ?_
 change VO _ _ _ _ _
 obtain ⟨v8, hc11, h⟩ := Ai h
 refine Bm (L_eqPinned_w N v4 v7 v8 hc11) rfl rfl rfl rfl rfl rfl rfl rfl ⟨⟨rfl, (.inl ⟨rfl, rfl⟩), (.inl ⟨rfl, rfl⟩), Tvv⟩, ⟨rfl, (.inl ⟨rfl, rfl⟩), (.inl ⟨rfl, rfl⟩), Tvv⟩, Tvv⟩ ?_
 refine Ac tt rfl rfl rfl rfl rfl Tvv ?_
 refine Af ?_
 change VC _ _ _ _
 refine Av rfl (fun hb12 => ?_) (fun hb12 => ?_)
 ·replace h := Ao hb12 h
  refine Ah ?_
  refine Aa ?_
  refine Ac tt rfl rfl rfl rfl rfl Tvv ?_
  refine Af ?_
  change VC _ _ _ _
  refine Bh ?_
  change ∃ _, _
  cases h
  exact ⟨[], _, rfl, Tvv, rfl, (.eq rfl), rfl⟩
 replace h := Ap hb12 h
 refine Au ?_
 change VC _ _ _ _
 refine Ah ?_
 refine Aa ?_
 refine Ac tt rfl rfl rfl rfl rfl Tvv ?_
 refine Af ?_
 change VC _ _ _ _
 refine Ah ?_
 refine Aa ?_
 iterate 2 refine Ac tt rfl rfl rfl rfl rfl Tvv ?_
 obtain ⟨v9, hc13, h⟩ := Ai h
 refine Tf (Zh N (⟨⟨v4.g.n, v4.g.bars⟩, v4.ground⟩ : Pin) (1 : Int) v9 hc13) [1260, 1261] [] [1260, 1261] rfl rfl rfl rfl rfl rfl ⟨rfl, rfl, Tvv⟩ trivial ⟨⟨⟨rfl, rfl⟩, ⟨rfl, rfl⟩, ⟨rfl, rfl⟩, Tvv⟩, ⟨rfl, rfl⟩, Tvv⟩ ?_
 refine Ac tt rfl rfl rfl rfl rfl Tvv ?_
 refine Af ?_
 change VC _ _ _ _
 iterate 2 refine Ah ?_
 refine Aa ?_
 iterate 3 refine Ac tt rfl rfl rfl rfl rfl Tvv ?_
 refine Dc rfl rfl rfl (fun hb14 => ?_) (fun hb14 => ?_)
 ·replace h := Ao hb14 h
  iterate 4 refine Tv rfl rfl rfl rfl hb14 rfl rfl ?_
  refine Eo rfl rfl rfl rfl rfl hb14 rfl ?_
  refine Ac tt rfl rfl rfl rfl rfl Tvv ?_
  iterate 3 refine Tv rfl rfl rfl rfl rfl rfl rfl ?_
  refine Eo rfl rfl rfl rfl rfl rfl rfl ?_
  refine Af ?_
  change VC _ _ _ _
  refine Ev rfl rfl ?_
  refine Ah ?_
  refine Aa ?_
  refine Ac tt rfl rfl rfl rfl rfl Tvv ?_
  refine Af ?_
  change VC _ _ _ _
  refine Bh ?_
  change ∃ _, _
  cases h
  exact ⟨[], _, rfl, Tvv, rfl, (.eq rfl), rfl⟩
 replace h := Ap hb14 h
 iterate 2 refine Cl tt rfl rfl rfl rfl rfl hb14 rfl rfl rfl Tvv ?_
 obtain ⟨v10, hc15, h⟩ := Ai h
 refine Qm (Rt N v5.1 v3.1 v10 hc15) rfl rfl rfl rfl hb14 rfl rfl rfl rfl rfl rfl rfl ⟨(.inr (.inr ⟨10, _, by decide, rfl, rfl, rfl, rfl⟩)), (.inl ⟨rfl, rfl⟩), Tvv⟩ ?_
 refine Cl tt rfl rfl rfl rfl rfl hb14 rfl rfl rfl Tvv ?_
 refine Cv rfl rfl rfl rfl rfl hb14 rfl ?_
 refine Ac tt rfl rfl rfl rfl rfl Tvv ?_
 refine Dc rfl rfl rfl (fun hb16 => ?_) (fun hb16 => ?_)
 ·replace h := Ao hb16 h
  iterate 3 refine Tv rfl rfl rfl rfl hb16 rfl rfl ?_
  refine Eo rfl rfl rfl rfl rfl hb16 rfl ?_
  refine Af ?_
  change VC _ _ _ _
  refine Ev rfl rfl ?_
  refine Ah ?_
  refine Aa ?_
  refine Ac tt rfl rfl rfl rfl rfl Tvv ?_
  refine Af ?_
  change VC _ _ _ _
  refine Bh ?_
  change ∃ _, _
  cases h
  exact ⟨[], _, rfl, Tvv, rfl, (.eq rfl), rfl⟩
 replace h := Ap hb16 h
 iterate 2 refine Cl tt rfl rfl rfl rfl rfl hb16 rfl rfl rfl Tvv ?_
 refine Sb (Be rfl rfl rfl rfl hb16) (pNeB Try.underlying4 rfl rfl rfl) rfl rfl ?_
 refine Cv rfl rfl rfl rfl rfl hb16 rfl ?_
 refine Af ?_
 change VC _ _ _ _
 refine Gw rfl hb9 ?_
 refine Au ?_
 change VC _ _ _ _
 refine Ah ?_
 refine Aa ?_
 refine Ac tt rfl rfl rfl rfl rfl Tvv ?_
 refine Af ?_
 change VC _ _ _ _
 refine Ah ?_
 refine Aa ?_
 iterate 2 refine Ac tt rfl rfl rfl rfl rfl Tvv ?_
 obtain ⟨v11, hc17, h⟩ := Ai h
 refine Tf (L_markIntSS_w N v5.1 (1 : Int) v11 hc17) [1290, 8589934602] [] [1290, 8589934602] rfl rfl rfl rfl rfl rfl ⟨rfl, rfl, Tvv⟩ trivial ⟨⟨rfl, rfl⟩, ⟨rfl, rfl⟩, Tvv⟩ ?_
 refine Ac tt rfl rfl rfl rfl rfl Tvv ?_
 refine Af ?_
 change VC _ _ _ _
 refine Ah ?_
 refine Aa ?_
 refine Ac tt rfl rfl rfl rfl rfl Tvv ?_
 refine Af ?_
 change VC _ _ _ _
 refine Ah ?_
 refine Aa ?_
 iterate 2 refine Ac tt rfl rfl rfl rfl rfl Tvv ?_
 obtain ⟨hg18, h⟩ := Ab h
 obtain ⟨v12, hc19, h⟩ := Ai h
 refine Bm (Te N v11.2 (1 : Int) v12 hc19) rfl rfl rfl rfl rfl rfl rfl rfl ⟨(.inr (.inr ⟨10, _, by decide, rfl, rfl, rfl, hg18⟩)), rfl, Tvv⟩ ?_
 refine Ac tt rfl rfl rfl rfl rfl Tvv ?_
 refine Af ?_
 change VC _ _ _ _
 iterate 2 refine Ah ?_
 refine Aa ?_
 iterate 2 refine Ac tt rfl rfl rfl rfl rfl Tvv ?_
 refine Af ?_
 change VC _ _ _ _
 refine Av rfl (fun hb20 => ?_) (fun hb20 => ?_)
 ·replace h := Ao hb20 h
  refine Ah ?_
  refine Aa ?_
  refine Ac tt rfl rfl rfl rfl rfl Tvv ?_
  refine Af ?_
  change VC _ _ _ _
  refine Bh ?_
  change ∃ _, _
  cases h
  exact ⟨[], _, rfl, Tvv, rfl, (.eq rfl), rfl⟩
 replace h := Ap hb20 h
 refine Au ?_
 change VC _ _ _ _
 iterate 2 refine Ah ?_
 refine Aa ?_
 iterate 3 refine Ac tt rfl rfl rfl rfl rfl Tvv ?_
 refine Af ?_
 change VC _ _ _ _
 refine Av rfl (fun hb21 => ?_) (fun hb21 => ?_)
 ·replace h := Ao hb21 h
  refine Ah ?_
  refine Aa ?_
  refine Ac tt rfl rfl rfl rfl rfl Tvv ?_
  refine Af ?_
  change VC _ _ _ _
  refine Bh ?_
  change ∃ _, _
  cases h
  exact ⟨[], _, rfl, Tvv, rfl, (.eq rfl), rfl⟩
 replace h := Ap hb21 h
 refine Au ?_
 change VC _ _ _ _
 refine Ah ?_
 refine Aa ?_
 refine Ac tt rfl rfl rfl rfl rfl Tvv ?_
 obtain ⟨v13, hc22, h⟩ := Ai h
 refine Bm (Ls N aP_0 v13 hc22) rfl rfl rfl rfl rfl rfl rfl rfl ⟨⟨rfl, rfl, rfl, Tvv⟩, Tvv⟩ ?_
 obtain ⟨v14, hc23, h⟩ := Ai h
 refine oCallD 11 (Mn N v13 v14 hc23) rfl rfl rfl rfl rfl rfl rfl rfl rfl rfl rfl (fun _ h => by cases h) ⟨⟨rfl, (.inl ⟨rfl, rfl⟩), (.inl ⟨rfl, rfl⟩), Tvv⟩, Tvv⟩ ?_
 iterate 5 refine Ac tt rfl rfl rfl rfl rfl Tvv ?_
 refine Af ?_
 change VC _ _ _ _
 iterate 2 refine Ah ?_
 refine Aa ?_
 iterate 2 refine Ac tt rfl rfl rfl rfl rfl Tvv ?_
 obtain ⟨v15, hc24, h⟩ := Ai h
 refine Bm (Rt N v14.1 v3.1 v15 hc24) rfl rfl rfl rfl rfl rfl rfl rfl ⟨(.inr (.inr ⟨11, _, by decide, rfl, rfl, rfl, rfl⟩)), (.inl ⟨rfl, rfl⟩), Tvv⟩ ?_
 iterate 2 refine Ac tt rfl rfl rfl rfl rfl Tvv ?_
 refine Dc rfl rfl rfl (fun hb25 => ?_) (fun hb25 => ?_)
 ·replace h := Ao hb25 h
  iterate 3 refine Tv rfl rfl rfl rfl hb25 rfl rfl ?_
  refine Eo rfl rfl rfl rfl rfl hb25 rfl ?_
  refine Af ?_
  change VC _ _ _ _
  refine Ev rfl rfl ?_
  refine Ah ?_
  refine Aa ?_
  refine Ac tt rfl rfl rfl rfl rfl Tvv ?_
  refine Af ?_
  change VC _ _ _ _
  refine Bh ?_
  change ∃ _, _
  cases h
  exact ⟨[], _, rfl, Tvv, rfl, (.eq rfl), rfl⟩
 replace h := Ap hb25 h
 iterate 2 refine Cl tt rfl rfl rfl rfl rfl hb25 rfl rfl rfl Tvv ?_
 refine Sb (Be rfl rfl rfl rfl hb25) (pNeB Try.underlying4 rfl rfl rfl) rfl rfl ?_
 refine Cv rfl rfl rfl rfl rfl hb25 rfl ?_
 refine Af ?_
 change VC _ _ _ _
 refine Av rfl (fun hb26 => ?_) (fun hb26 => ?_)
 ·replace h := Ao hb26 h
  refine Ah ?_
  refine Aa ?_
  refine Ac tt rfl rfl rfl rfl rfl Tvv ?_
  refine Af ?_
  change VC _ _ _ _
  refine Bh ?_
  change ∃ _, _
  cases h
  exact ⟨[], _, rfl, Tvv, rfl, (.eq rfl), rfl⟩
 replace h := Ap hb26 h
 refine Au ?_
 change VC _ _ _ _
 refine Ah ?_
 refine Aa ?_
 refine Ac tt rfl rfl rfl rfl rfl Tvv ?_
 refine Af ?_
 change VC _ _ _ _
 refine Ah ?_
 refine Aa ?_
 iterate 2 refine Ac tt rfl rfl rfl rfl rfl Tvv ?_
 obtain ⟨v16, hc27, h⟩ := Ai h
 refine Bm (Te N v11.2 (1 : Int) v16 hc27) rfl rfl rfl rfl rfl rfl rfl rfl ⟨(.inr (.inr ⟨10, _, by decide, rfl, rfl, rfl, hg18⟩)), rfl, Tvv⟩ ?_
 refine Ac tt rfl rfl rfl rfl rfl Tvv ?_
 refine Af ?_
 change VC _ _ _ _
 iterate 2 refine Ah ?_
 refine Aa ?_
 iterate 2 refine Ac tt rfl rfl rfl rfl rfl Tvv ?_
 refine Af ?_
 change VC _ _ _ _
 refine Av rfl (fun hb28 => ?_) (fun hb28 => ?_)
 ·replace h := Ao hb28 h
  refine Ah ?_
  refine Aa ?_
  refine Ac tt rfl rfl rfl rfl rfl Tvv ?_
  refine Af ?_
  change VC _ _ _ _
  refine Bh ?_
  change ∃ _, _
  cases h
  exact ⟨[], _, rfl, Tvv, rfl, (.eq rfl), rfl⟩
 replace h := Ap hb28 h
 refine Au ?_
 change VC _ _ _ _
 iterate 2 refine Ah ?_
 refine Aa ?_
 iterate 3 refine Ac tt rfl rfl rfl rfl rfl Tvv ?_
 refine Af ?_
 change VC _ _ _ _
 refine Av rfl (fun hb29 => ?_) (fun hb29 => ?_)
 ·replace h := Ao hb29 h
  refine Ah ?_
  refine Aa ?_
  refine Ac tt rfl rfl rfl rfl rfl Tvv ?_
  refine Af ?_
  change VC _ _ _ _
  refine Bh ?_
  change ∃ _, _
  cases h
  exact ⟨[], _, rfl, Tvv, rfl, (.eq rfl), rfl⟩
 replace h := Ap hb29 h
 refine Au ?_
 change VC _ _ _ _
 refine Ah ?_
 refine Aa ?_
 refine Ac tt rfl rfl rfl rfl rfl Tvv ?_
 refine Af ?_
 change VC _ _ _ _
 refine Bh ?_
 change ∃ _, _
 cases h
 exact ⟨[], _, rfl, Tvv, rfl, (.eq rfl), rfl⟩
end Go.Proofs.Ytkklfgcelmeccaa
