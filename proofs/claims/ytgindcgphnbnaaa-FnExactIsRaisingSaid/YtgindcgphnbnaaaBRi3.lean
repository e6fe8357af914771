/- Texts that the proof needs, put together: Vt Wr Shb Pa G1 G2 G3 G4 G6 G8 G10 G7 G11 G12 G5 G14 G15 Pb G24 G26 G28 G66 Pmk Pc Pd Pe. -/
import Derived.Test.YtgindcgphnbnaaaChecked
import Derived.Laws.StructEq
import Derived.Test.YtgindcgphnbnaaaBRi2
namespace Go.Proofs.Ytgindcgphnbnaaa
open Go.RowKit
def TT : List (Nat × Ty) := [(1, .sc .nilFunc), (3, .sc (.int .i64 0)), (4, .sc (.bool false)), (9, .sc (.string ByteArray.empty)), (22, .sl 3 (.ints []) 8), (23, .sc .nilFunc), (24, .sc .nilFunc), (25, .sc .nilFunc), (26, .sc .nilFunc), (27, .sc .nilFunc), (28, .sl 154 (.pairs []) 16), (30, .st [(0, 1), (1, 1)] [.int .i64 0, .slice none 0 0]), (32, .st [(0, 2), (2, 1)] [.int .i64 0, .slice none 0 0, .slice none 0 0]), (33, .sl 92 (.raises []) 32), (34, .sc .nilFunc), (35, .sc .nilFunc), (36, .sc .nilFunc), (37, .sl 133 (.pairs []) 16), (39, .st [(0, 1), (1, 1)] [.int .i64 0, .slice none 0 0]), (41, .st [(0, 2), (2, 1)] [.int .i64 0, .slice none 0 0, .slice none 0 0]), (42, .sc .nilFunc), (43, .sl 93 (.raises []) 32), (44, .sc .nilFunc), (45, .sc .nilFunc), (46, .sc .nilFunc), (47, .sc .nilFunc), (48, .sc .nilFunc), (49, .sc .nilFunc), (51, .sc .nilFunc), (52, .sc .nilFunc), (53, .sc .nilFunc), (54, .sc .nilFunc), (55, .sl 158 (.pairs []) 16), (57, .st [(0, 2), (2, 1)] [.int .i64 0, .slice none 0 0, .slice none 0 0]), (59, .st [(0, 3), (3, 1)] [.int .i64 0, .slice none 0 0, .slice none 0 0, .slice none 0 0]), (60, .sc .nilFunc), (61, .sc .nilFunc), (62, .sl 118 (.pairs []) 16), (64, .st [(0, 2), (2, 1)] [.int .i64 0, .slice none 0 0, .slice none 0 0]), (66, .st [(0, 3), (3, 1)] [.int .i64 0, .slice none 0 0, .slice none 0 0, .slice none 0 0]), (67, .sc .nilFunc), (68, .sc .nilFunc), (69, .sc .nilFunc), (70, .sl 62 (.pairss []) 24), (72, .sc .nilFunc), (73, .sc .nilFunc), (74, .sc .nilFunc), (75, .sc .nilFunc), (77, .sc .nilFunc), (78, .sc .nilFunc), (79, .sl 22 (.intss []) 24), (81, .sc .nilFunc), (82, .sc .nilFunc), (83, .sc .nilFunc), (84, .sc .nilFunc), (85, .sc .nilFunc), (86, .sc .nilFunc), (87, .sc .nilFunc), (88, .sc .nilFunc), (89, .sc .nilFunc), (90, .sc .nilFunc), (92, .st [(0, 1), (1, 1)] [.int .i64 0, .slice none 0 0]), (93, .st [(0, 1), (1, 1)] [.int .i64 0, .slice none 0 0]), (94, .sc .nilFunc), (95, .sc .nilFunc), (96, .sc .nilFunc), (97, .sc .nilFunc), (98, .sc .nilFunc), (99, .sc .nilFunc), (100, .sc .nilFunc), (101, .sc .nilFunc), (102, .sl 9 (.strs []) 16), (103, .sc .nilFunc), (104, .sc .nilFunc), (105, .sc .nilFunc), (106, .sc .nilFunc), (107, .sc .nilFunc), (108, .sc .nilFunc), (109, .sc .nilFunc), (110, .sc .nilFunc), (111, .sc .nilFunc), (113, .sc .nilFunc), (114, .sc .nilFunc), (115, .sc .nilFunc), (116, .sc .nilFunc), (118, .st [(0, 1), (1, 1)] [.int .i64 0, .int .i64 0]), (119, .sc .nilFunc), (120, .sc .nilFunc), (121, .sc .nilFunc), (122, .sc .nilFunc), (123, .sc .nilFunc), (125, .sc .nilFunc), (126, .sc .nilFunc), (127, .sc .nilFunc), (128, .sl 4 (.bools []) 1), (129, .sc .nilFunc), (130, .sc .nilFunc), (131, .sc .nilFunc), (133, .st [(0, 1), (1, 1)] [.int .i64 0, .int .i64 0]), (134, .sc .nilFunc), (135, .sc .nilFunc), (136, .sc .nilFunc), (137, .sc .nilFunc), (139, .sc .nilFunc), (140, .sc .nilFunc), (141, .sc .nilFunc), (142, .sc .nilFunc), (143, .sc .nilFunc), (144, .sc .nilFunc), (145, .sc .nilFunc), (147, .sc .nilFunc), (148, .sc .nilFunc), (149, .sc .nilFunc), (150, .sc .nilFunc), (151, .sc .nilFunc), (153, .sc .nilFunc), (154, .st [(0, 1), (1, 1)] [.int .i64 0, .int .i64 0]), (155, .sc .nilFunc), (156, .sc .nilFunc), (157, .sc .nilFunc), (158, .st [(0, 1), (1, 1)] [.int .i64 0, .int .i64 0]), (159, .sc .nilFunc), (160, .sc .nilFunc), (161, .sc .nilFunc), (164, .sc .nilFunc), (165, .sc .nilFunc), (166, .sc .nilFunc), (168, .sc .nilFunc), (169, .sc .nilFunc), (171, .sc .nilFunc), (174, .sc .nilFunc), (175, .sc .nilFunc), (176, .sc .nilFunc), (178, .sc .nilFunc), (181, .sc .nilFunc), (182, .sc .nilFunc), (188, .sc .nilFunc), (191, .sc .nilFunc)]
theorem tt : TTOK Try.prog TT := tt_ok (by kernel_rfl)
end Go.Proofs.Ytgindcgphnbnaaa

namespace Go.Proofs.Ytgindcgphnbnaaa
open Go.RowKit Go.Deep
set_option linter.unusedSimpArgs false
set_option linter.unusedVariables false
/-- arithmetic that may go round -/
def w64 (x : Int) : Int := IntKind.i64.wrap x
theorem w64_id {x : Int} (h1 : -9223372036854775808 ≤ x) (h2 : x ≤ 9223372036854775807) : w64 x = x := R64_wrap ⟨h1, h2⟩
theorem arW_out {C : Cx} {o : Oper} {s : PS} {op : BinOp} {t u : TypeId} {x y : Operand} {a b r : Int} (hop : o.op = .binOp op t x y u) (hx : s.ev x = .int a) (hy : s.ev y = .int b) (hr : (op = .add ∧ r = w64 (a + b)) ∨ (op = .sub ∧ r = w64 (a - b)) ∨ (op = .mul ∧ r = w64 (a * b))) : Pur C o s (.int r) :=
  ⟨fun s1 hs M ac w hr' => by
    have h1 := hr'.ev x
    have h2 := hr'.ev y
    rw [hs x (by rw [hop]; simp [Op.operands]), hx] at h1
    rw [hs y (by rw [hop]; simp [Op.operands]), hy] at h2
    have e1 := h1.int_inv
    have e2 := h2.int_inv
    rcases hr with ⟨rfl, rfl⟩ | ⟨rfl, rfl⟩ | ⟨rfl, rfl⟩
    · refine ⟨_, ?_, .int _⟩
      simp only [execOp, hop, e1, e2]; simp [eqGuard, binOp, Op.intArith, go_sem] <;> rfl
    · refine ⟨_, ?_, .int _⟩
      simp only [execOp, hop, e1, e2]; simp [eqGuard, binOp, Op.intArith, go_sem] <;> rfl
    · refine ⟨_, ?_, .int _⟩
      simp only [execOp, hop, e1, e2]; simp [eqGuard, binOp, Op.intArith, go_sem] <;> rfl⟩
theorem pSubW {C : Cx} {o : Oper} {s : PS} {t u : TypeId} {x y : Operand} {a b : Int} (hop : o.op = .binOp .sub t x y u) (hx : s.ev x = .int a) (hy : s.ev y = .int b) : Pur C o s (.int (w64 (a - b))) := arW_out hop hx hy (.inr (.inl ⟨rfl, rfl⟩))
end Go.Proofs.Ytgindcgphnbnaaa

namespace Go.Proofs.Ytgindcgphnbnaaa
open Go.RowKit
set_option linter.unusedSimpArgs false
theorem eqP_impl_Bar : EqP Try.prog 133 := by
  refine ⟨fun x y u v w => ?_, fun x y u v w => ?_, by kernel_rfl⟩
  all_goals
    cases hx : x == u
    all_goals
      cases hy : y == v
      all_goals simp [go_sem, hx, hy]
end Go.Proofs.Ytgindcgphnbnaaa

namespace Go.Proofs.Ytgindcgphnbnaaa
set_option linter.unusedVariables false
set_option linter.unusedSimpArgs false
section
variable {α β : Type}
theorem grd_R {x : Int} (h1 : -9223372036854775808 ≤ x) (h2 : x ≤ 9223372036854775807) (y : Option α) : grd (Rg64 x) y = y := grd_pos ⟨h1, h2⟩ y
theorem grd_T [inst : Decidable True] (x : Option α) : grd True x = x := grd_pos trivial x
theorem cnd_dt {p : Prop} [Decidable p] (h : p) (x y : α) : cnd (decide p) x y = x := by rw [decide_eq_true h]; rfl
theorem cnd_df {p : Prop} [Decidable p] (h : ¬ p) (x y : α) : cnd (decide p) x y = y := by rw [decide_eq_false h]; rfl
theorem cnd_eqf {a b : Int} (h : ¬ a = b) (x y : α) : cnd (a == b) x y = y := by rw [show (a == b) = false by simpa using h]; rfl
theorem cnd_net {a b : Int} (h : ¬ a = b) (x y : α) : cnd (a != b) x y = x := by rw [show (a != b) = true by simpa using h]; rfl
theorem cnd_nef {a b : Int} (h : a = b) (x y : α) : cnd (a != b) x y = y := by simp [h]
theorem cnd_not (b : Bool) (x y : α) : cnd (!b) x y = cnd b y x := by cases b <;> rfl
theorem cnd_or (a b : Bool) (x y : α) : cnd a x (cnd b x y) = cnd (a || b) x y := by cases a <;> rfl
theorem cnd_and (a b : Bool) (x y : α) : cnd a (cnd b x y) y = cnd (a && b) x y := by cases a <;> rfl
theorem cnd_some (b : Bool) (x y : α) : cnd b (some x) (some y) = some (cnd b x y) := by cases b <;> rfl
theorem cnd_bool (b : Bool) : cnd b true false = b := by cases b <;> rfl
theorem tk0 (l : List α) : (l.take (0 + l.length)).drop 0 = l := by simp
/-- the first i of a list, then z -/
def cpy (a : List α) (z : α) (i : Nat) : List α := a.take i ++ List.replicate (a.length - i) z
theorem cpy_len (a : List α) (z : α) (i : Nat) : (cpy a z i).length = a.length := by simp [cpy]; omega
theorem cpy_zero (a : List α) (z : α) : List.replicate a.length z = cpy a z 0 := by simp [cpy]
theorem cpy_full (a : List α) (z : α) : cpy a z a.length = a := by simp [cpy]
theorem cpy_set (a : List α) (z y : α) (i : Nat) (h : i < a.length) (hy : a.getD i y = a.getD i y) : (cpy a z i).set i (a.getD i y) = cpy a z (i + 1) := by
  unfold cpy
  apply List.ext_getElem
  · simp; omega
  · intro j h1 h2
    simp at h1 h2
    rw [List.getElem_set]
    split
    · rename_i e; subst e
      rw [List.getElem_append_left (by simp; omega)]
      simp [List.getD_eq_getElem?_getD, h]
    · rcases Nat.lt_or_ge j i with hj | hj
      · rw [List.getElem_append_left (by simp; omega), List.getElem_append_left (by simp; omega)]; simp
      · rw [List.getElem_append_right (by simp; omega), List.getElem_append_right (by simp; omega)]; simp
end
/-- a pair put cell by cell -/
theorem set_pair (l : List (Int × Int)) (i : Nat) (x y : Int) (h : i < l.length) : (l.set i (x, (l.getD i (0, 0)).2)).set i (((l.set i (x, (l.getD i (0, 0)).2)).getD i (0, 0)).1, y) = l.set i (x, y) := by
  rw [List.set_set]
  congr 2
  simp [List.getD_eq_getElem?_getD, h]
/-! ### lengths of what is read -/
def lensS : D → Prop
  | .ro _ q => q.len ≤ 9223372036854775807
  | _ => True
def lensAll : List D → Prop
  | [] => True
  | d :: l => lensS d ∧ lensAll l
def lensP : D → Prop
  | .agg l => lensAll l
  | d => lensS d
theorem VR.lensS {M : Mp} {A : Bool → Nat → Prop} {w : World} {d : D} {v : Value} (h : VR M A w d v) : lensS d := by
  cases h <;> first | trivial | assumption
theorem lensAll_of {l : List D} (h : ∀ d ∈ l, lensS d) : lensAll l := by
  induction l with
  | nil => trivial
  | cons d l ih => exact ⟨h d (by simp), ih fun x hx => h x (by simp [hx])⟩
theorem VR.lens {M : Mp} {A : Bool → Nat → Prop} {w : World} {d : D} {v : Value} (h : VR M A w d v) : lensP d := by
  cases d with
  | agg l =>
    obtain ⟨us, rfl, hl, hv⟩ := h.agg_inv
    refine lensAll_of fun d hd => ?_
    obtain ⟨i, hi⟩ := List.getElem?_of_mem hd
    exact (hv i d hi).lensS
  | _ => exact h.lensS
end Go.Proofs.Ytgindcgphnbnaaa

namespace Go.Proofs.Ytgindcgphnbnaaa
open Go.RowKit
set_option linter.unusedVariables false
set_option linter.unusedSimpArgs false
def S_l1In (N : Nat) (x_0 : Int) (low_1 : Int) (high_2 : Int) : Option (Bool) :=
  cnd (decide (x_0 ≥ low_1)) (
    some (decide (x_0 ≤ high_2))) (
    some false)
set_option maxRecDepth 20000 in
set_option maxHeartbeats 1600000 in
theorem S_l1In_w (N : Nat) (x_0 : Int) (low_1 : Int) (high_2 : Int) (r : Bool) (h : S_l1In N x_0 low_1 high_2 = some r) : PCall Try.prog 120 [.int x_0, .int low_1, .int high_2] [] (.bool r) := by
  unfold S_l1In at h
  refine pcall_intro (TT := TT) tt Try.func120 rfl rfl Try.ntmps120 (congrArg Array.toList Try.results120) rfl rfl fun w0 => ?_
  refine vSeq ?_
  refine vRegion ?_
  refine oVal tt rfl rfl rfl rfl rfl trivial ?_
  refine vNil ?_
  change VC _ _ _ _
  refine vSeq ?_
  refine vRegion ?_
  iterate 4 refine oVal tt rfl rfl rfl rfl rfl trivial ?_
  refine oSplit rfl rfl rfl (fun hb1 => ?_) (fun hb1 => ?_)
  · replace h := cnd_t hb1 h
    iterate 3 refine oValG tt rfl rfl rfl rfl rfl hb1 rfl rfl rfl trivial ?_
    refine oPick rfl rfl rfl rfl rfl hb1 rfl ?_
    refine oVal tt rfl rfl rfl rfl rfl trivial ?_
    refine vNil ?_
    change VC _ _ _ _
    refine vRet ?_
    change ∃ _, _
    cases h
    exact ⟨[], _, rfl, trivial, rfl, (.eq rfl), rfl⟩
  · replace h := cnd_f hb1 h
    iterate 3 refine oNoT rfl rfl rfl rfl hb1 rfl rfl ?_
    refine oPickF rfl rfl rfl rfl rfl hb1 rfl ?_
    refine oVal tt rfl rfl rfl rfl rfl trivial ?_
    refine vNil ?_
    change VC _ _ _ _
    refine vRet ?_
    change ∃ _, _
    cases h
    exact ⟨[], _, rfl, trivial, rfl, (.eq rfl), rfl⟩
def L_toIntS_l1 (N : Nat) (a_0 : List Int) (k : (List Int) → Option (List Int)) : Nat → ((List Int) × Int) → Option (List Int)
  | 0, _ => none
  | n + 1, (l5, i6) =>
    cnd (decide (i6 < (a_0.length : Int))) (
      grd (0 ≤ i6 ∧ i6 < (a_0.length : Int)) <|
      grd (0 ≤ i6 ∧ i6 < ((List.replicate (((a_0.length : Int)).toNat) (0 : Int)).length : Int)) <|
      grd (0 ≤ i6 ∧ i6 < (l5.length : Int)) <|
      grd (Rg64 (i6 + (1 : Int))) <|
      L_toIntS_l1 N a_0 k n ((l5.set ((i6).toNat) (a_0.getD ((i6).toNat) 0)), (i6 + (1 : Int)))) (
      k l5)
def L_toIntS (N : Nat) (a_0 : List Int) : Option (List Int) :=
  grd (0 ≤ (a_0.length : Int) ∧ (a_0.length : Int) ≤ 4294967296) <|
  L_toIntS_l1 N a_0 (fun (l3 : List Int) =>
        grd ((List.replicate (((a_0.length : Int)).toNat) (0 : Int)).length = l3.length) <|
        some l3) N ((List.replicate (((a_0.length : Int)).toNat) (0 : Int)), (0 : Int))
set_option maxRecDepth 20000 in
set_option maxHeartbeats 1600000 in
theorem L_toIntS_w (N : Nat) (a_0 : List Int) (r : List Int) (h : L_toIntS N a_0 = some r) : PCall Try.prog 16 [.ro false (.ints a_0)] [(3, .ints r)] (.row 0 0 r.length) := by
  unfold L_toIntS at h
  refine pcall_intro (TT := TT) tt Try.func16 rfl rfl Try.ntmps16 (congrArg Array.toList Try.results16) rfl rfl fun w0 => ?_
  refine vSeq ?_
  refine vRegion ?_
  refine oVal tt rfl rfl rfl rfl rfl trivial ?_
  refine vNil ?_
  change VC _ _ _ _
  refine vSeq ?_
  refine vRegion ?_
  iterate 2 refine oVal tt rfl rfl rfl rfl rfl trivial ?_
  obtain ⟨hg1, h⟩ := grd_inv h
  refine oMake tt rfl rfl rfl rfl rfl rfl rfl rfl rfl rfl rfl hg1 ?_
  refine oVal tt rfl rfl rfl rfl rfl trivial ?_
  refine vNil ?_
  change VC _ _ _ _
  iterate 2 refine vSeq ?_
  refine vRegion ?_
  refine oVal tt rfl rfl rfl rfl rfl trivial ?_
  refine vNil ?_
  change VC _ _ _ _
  refine vJoin (F := fun k => L_toIntS_l1 N a_0 k) h (α := List Int) (J := fun (l3 : List Int) => (⟨[(3, .row 7 0 ((List.replicate (((a_0.length : Int)).toNat) (0 : Int)).length))], [(7, some (3, .ints l3))], []⟩ : PS)) ?_ ?_
  · rintro l3 h
    show VC _ _ _ (⟨[(3, .row 7 0 ((List.replicate (((a_0.length : Int)).toNat) (0 : Int)).length))], [(7, some (3, .ints l3))], []⟩ : PS)
    refine vSeq ?_
    refine vRegion ?_
    iterate 2 refine oVal tt rfl rfl rfl rfl rfl trivial ?_
    refine vNil ?_
    change VC _ _ _ _
    obtain ⟨hg2, h⟩ := grd_inv h
    refine vRet ?_
    change ∃ _, _
    cases h
    exact ⟨[7], _, rfl, ⟨rfl, trivial⟩, rfl, (.eq (by simp only [hg2]; rfl)), rfl⟩
  · intro k h
    refine vBlock ?_
    refine vLoopS (α := (List Int) × Int) (fun | (l5, i6) => (⟨[(0, .ro false (.ints a_0)), (3, .row 7 0 ((List.replicate (((a_0.length : Int)).toNat) (0 : Int)).length)), (4, .int i6)], [(7, some (3, .ints l5))], []⟩ : PS)) (L_toIntS_l1 N a_0 k) h (En.of ⟨rfl, rfl, rfl, trivial⟩ ⟨rfl, trivial⟩ trivial) (fun _ => rfl) ?_
    rintro n ⟨l5, i6⟩ h
    rw [L_toIntS_l1] at h
    show VC _ _ _ (⟨[(0, .ro false (.ints a_0)), (3, .row 7 0 ((List.replicate (((a_0.length : Int)).toNat) (0 : Int)).length)), (4, .int i6)], [(7, some (3, .ints l5))], []⟩ : PS)
    iterate 2 refine vSeq ?_
    refine vRegion ?_
    iterate 4 refine oVal tt rfl rfl rfl rfl rfl trivial ?_
    refine vNil ?_
    change VC _ _ _ _
    refine vCond rfl (fun hb3 => ?_) (fun hb3 => ?_)
    · replace h := cnd_t hb3 h
      refine vSkip ?_
      change VC _ _ _ _
      refine vSeq ?_
      refine vBlock ?_
      refine vRegion ?_
      iterate 4 refine oVal tt rfl rfl rfl rfl rfl trivial ?_
      obtain ⟨hg4, h⟩ := grd_inv h
      refine oVal tt rfl rfl rfl rfl rfl hg4 ?_
      refine oVal tt rfl rfl rfl rfl rfl trivial ?_
      obtain ⟨hg5, h⟩ := grd_inv h
      refine oVal tt rfl rfl rfl rfl rfl hg5 ?_
      obtain ⟨hg6, h⟩ := grd_inv h
      refine oStore tt rfl rfl rfl rfl rfl rfl rfl rfl rfl rfl ⟨_, _, rfl, hg6.1, hg6.2⟩ ⟨hg6, trivial⟩ ?_
      refine vNil ?_
      change VC _ _ _ _
      refine vRegion ?_
      refine oVal tt rfl rfl rfl rfl rfl trivial ?_
      obtain ⟨hg7, h⟩ := grd_inv h
      refine oVal tt rfl rfl rfl rfl rfl hg7 ?_
      refine oVal tt rfl rfl rfl rfl rfl trivial ?_
      refine vNil ?_
      change ∃ _, _
      exact ⟨((l5.set ((i6).toNat) (a_0.getD ((i6).toNat) 0)), (i6 + (1 : Int))), (En.of ⟨rfl, rfl, rfl, trivial⟩ ⟨rfl, trivial⟩ trivial), h⟩
    · replace h := cnd_f hb3 h
      refine vExit ?_
      change ∃ _, _
      exact ⟨l5, (En.of ⟨rfl, trivial⟩ ⟨rfl, trivial⟩ trivial), h⟩
def I_within (N : Nat) (x_0 : Int) (lo_1 : Int) (hi_2 : Int) : Option (Bool) :=
  cnd (decide (x_0 ≥ lo_1)) (
    some (decide (x_0 ≤ hi_2))) (
    some false)
set_option maxRecDepth 20000 in
set_option maxHeartbeats 1600000 in
theorem I_within_w (N : Nat) (x_0 : Int) (lo_1 : Int) (hi_2 : Int) (r : Bool) (h : I_within N x_0 lo_1 hi_2 = some r) : PCall Try.prog 112 [.int x_0, .int lo_1, .int hi_2] [] (.bool r) := by
  unfold I_within at h
  refine pcall_intro (TT := TT) tt Try.func112 rfl rfl Try.ntmps112 (congrArg Array.toList Try.results112) rfl rfl fun w0 => ?_
  refine vSeq ?_
  refine vRegion ?_
  refine oVal tt rfl rfl rfl rfl rfl trivial ?_
  refine vNil ?_
  change VC _ _ _ _
  refine vSeq ?_
  refine vRegion ?_
  iterate 4 refine oVal tt rfl rfl rfl rfl rfl trivial ?_
  refine oSplit rfl rfl rfl (fun hb1 => ?_) (fun hb1 => ?_)
  · replace h := cnd_t hb1 h
    iterate 3 refine oValG tt rfl rfl rfl rfl rfl hb1 rfl rfl rfl trivial ?_
    refine oPick rfl rfl rfl rfl rfl hb1 rfl ?_
    refine oVal tt rfl rfl rfl rfl rfl trivial ?_
    refine vNil ?_
    change VC _ _ _ _
    refine vRet ?_
    change ∃ _, _
    cases h
    exact ⟨[], _, rfl, trivial, rfl, (.eq rfl), rfl⟩
  · replace h := cnd_f hb1 h
    iterate 3 refine oNoT rfl rfl rfl rfl hb1 rfl rfl ?_
    refine oPickF rfl rfl rfl rfl rfl hb1 rfl ?_
    refine oVal tt rfl rfl rfl rfl rfl trivial ?_
    refine vNil ?_
    change VC _ _ _ _
    refine vRet ?_
    change ∃ _, _
    cases h
    exact ⟨[], _, rfl, trivial, rfl, (.eq rfl), rfl⟩
end Go.Proofs.Ytgindcgphnbnaaa

namespace Go.Proofs.Ytgindcgphnbnaaa
open Go.RowKit
set_option linter.unusedVariables false
set_option linter.unusedSimpArgs false
def L_eqIntS_l1 (N : Nat) (a_0 : List Int) (b_1 : List Int) (k : Unit → Option (Bool)) : Nat → Int → Option (Bool)
  | 0, _ => none
  | n + 1, i3 =>
    cnd (decide (i3 < (a_0.length : Int))) (
      grd (0 ≤ i3 ∧ i3 < (a_0.length : Int)) <|
      grd (0 ≤ i3 ∧ i3 < (b_1.length : Int)) <|
      cnd ((a_0.getD ((i3).toNat) 0) != (b_1.getD ((i3).toNat) 0)) (
        some false) (
        grd (Rg64 (i3 + (1 : Int))) <|
        L_eqIntS_l1 N a_0 b_1 k n (i3 + (1 : Int)))) (
      k ())
def L_eqIntS (N : Nat) (a_0 : List Int) (b_1 : List Int) : Option (Bool) :=
  cnd ((a_0.length : Int) != (b_1.length : Int)) (
    some false) (
    L_eqIntS_l1 N a_0 b_1 (fun (_ : Unit) =>
          some true) N (0 : Int))
set_option maxRecDepth 20000 in
set_option maxHeartbeats 1600000 in
theorem L_eqIntS_w (N : Nat) (a_0 : List Int) (b_1 : List Int) (r : Bool) (h : L_eqIntS N a_0 b_1 = some r) : PCall Try.prog 18 [.ro false (.ints a_0), .ro false (.ints b_1)] [] (.bool r) := by
  unfold L_eqIntS at h
  refine pcall_intro (TT := TT) tt Try.func18 rfl rfl Try.ntmps18 (congrArg Array.toList Try.results18) rfl rfl fun w0 => ?_
  refine vSeq ?_
  refine vRegion ?_
  refine oVal tt rfl rfl rfl rfl rfl trivial ?_
  refine vNil ?_
  change VC _ _ _ _
  iterate 2 refine vSeq ?_
  refine vRegion ?_
  iterate 5 refine oVal tt rfl rfl rfl rfl rfl trivial ?_
  refine vNil ?_
  change VC _ _ _ _
  refine vCond rfl (fun hb1 => ?_) (fun hb1 => ?_)
  · replace h := cnd_t hb1 h
    refine vSeq ?_
    refine vRegion ?_
    refine oVal tt rfl rfl rfl rfl rfl trivial ?_
    refine vNil ?_
    change VC _ _ _ _
    refine vRet ?_
    change ∃ _, _
    cases h
    exact ⟨[], _, rfl, trivial, rfl, (.eq rfl), rfl⟩
  · replace h := cnd_f hb1 h
    refine vSkip ?_
    change VC _ _ _ _
    iterate 2 refine vSeq ?_
    refine vRegion ?_
    refine oVal tt rfl rfl rfl rfl rfl trivial ?_
    refine vNil ?_
    change VC _ _ _ _
    refine vJoin (F := fun k => L_eqIntS_l1 N a_0 b_1 k) h (α := Unit) (J := fun (_ : Unit) => (⟨[], [], []⟩ : PS)) ?_ ?_
    · rintro ⟨⟩ h
      show VC _ _ _ (⟨[], [], []⟩ : PS)
      refine vSeq ?_
      refine vRegion ?_
      refine oVal tt rfl rfl rfl rfl rfl trivial ?_
      refine vNil ?_
      change VC _ _ _ _
      refine vRet ?_
      change ∃ _, _
      cases h
      exact ⟨[], _, rfl, trivial, rfl, (.eq rfl), rfl⟩
    · intro k h
      refine vBlock ?_
      refine vLoopS (α := Int) (fun (i3 : Int) => (⟨[(0, .ro false (.ints a_0)), (1, .ro false (.ints b_1)), (5, .int i3)], [], []⟩ : PS)) (L_eqIntS_l1 N a_0 b_1 k) h (En.of ⟨rfl, rfl, rfl, trivial⟩ trivial trivial) (fun _ => rfl) ?_
      rintro n i3 h
      rw [L_eqIntS_l1] at h
      show VC _ _ _ (⟨[(0, .ro false (.ints a_0)), (1, .ro false (.ints b_1)), (5, .int i3)], [], []⟩ : PS)
      iterate 2 refine vSeq ?_
      refine vRegion ?_
      iterate 4 refine oVal tt rfl rfl rfl rfl rfl trivial ?_
      refine vNil ?_
      change VC _ _ _ _
      refine vCond rfl (fun hb2 => ?_) (fun hb2 => ?_)
      · replace h := cnd_t hb2 h
        refine vSkip ?_
        change VC _ _ _ _
        refine vSeq ?_
        refine vBlock ?_
        refine vSeq ?_
        refine vRegionD (by kernel_rfl) (by kernel_rfl) ?_
        iterate 2 refine cVal tt rfl (wNone rfl) rfl rfl rfl trivial ?_
        obtain ⟨hg3, h⟩ := grd_inv h
        refine cVal tt rfl (wNone rfl) rfl rfl rfl hg3 ?_
        iterate 3 refine cVal tt rfl (wNone rfl) rfl rfl rfl trivial ?_
        obtain ⟨hg4, h⟩ := grd_inv h
        refine cVal tt rfl (wNone rfl) rfl rfl rfl hg4 ?_
        iterate 2 refine cVal tt rfl (wNone rfl) rfl rfl rfl trivial ?_
        refine cNil ?_
        change VC _ _ _ _
        refine vCond rfl (fun hb5 => ?_) (fun hb5 => ?_)
        · replace h := cnd_t hb5 h
          refine vSeq ?_
          refine vRegion ?_
          refine oVal tt rfl rfl rfl rfl rfl trivial ?_
          refine vNil ?_
          change VC _ _ _ _
          refine vRet ?_
          change ∃ _, _
          cases h
          exact ⟨[], _, rfl, trivial, rfl, (.eq rfl), rfl⟩
        · replace h := cnd_f hb5 h
          refine vSkip ?_
          change VC _ _ _ _
          refine vRegion ?_
          refine oVal tt rfl rfl rfl rfl rfl trivial ?_
          obtain ⟨hg6, h⟩ := grd_inv h
          refine oVal tt rfl rfl rfl rfl rfl hg6 ?_
          refine oVal tt rfl rfl rfl rfl rfl trivial ?_
          refine vNil ?_
          change ∃ _, _
          exact ⟨(i3 + (1 : Int)), (En.of ⟨rfl, rfl, rfl, trivial⟩ trivial trivial), h⟩
      · replace h := cnd_f hb2 h
        refine vExit ?_
        change ∃ _, _
        exact ⟨(), (En.of trivial trivial trivial), h⟩
def L_szIntS (N : Nat) (a_0 : List Int) (left_1 : Int) : Option (Int) :=
  grd (Rg64 (left_1 - (a_0.length : Int))) <|
  cnd (decide ((left_1 - (a_0.length : Int)) < (0 : Int))) (
    some (-1 : Int)) (
    some (left_1 - (a_0.length : Int)))
set_option maxRecDepth 20000 in
set_option maxHeartbeats 1600000 in
theorem L_szIntS_w (N : Nat) (a_0 : List Int) (left_1 : Int) (r : Int) (h : L_szIntS N a_0 left_1 = some r) : PCall Try.prog 70 [.ro false (.ints a_0), .int left_1] [] (.int r) := by
  unfold L_szIntS at h
  refine pcall_intro (TT := TT) tt Try.func70 rfl rfl Try.ntmps70 (congrArg Array.toList Try.results70) rfl rfl fun w0 => ?_
  refine vSeq ?_
  refine vRegion ?_
  refine oVal tt rfl rfl rfl rfl rfl trivial ?_
  refine vNil ?_
  change VC _ _ _ _
  refine vSeq ?_
  refine vRegion ?_
  iterate 3 refine oVal tt rfl rfl rfl rfl rfl trivial ?_
  obtain ⟨hg1, h⟩ := grd_inv h
  refine oVal tt rfl rfl rfl rfl rfl hg1 ?_
  refine oVal tt rfl rfl rfl rfl rfl trivial ?_
  refine vNil ?_
  change VC _ _ _ _
  iterate 2 refine vSeq ?_
  refine vRegion ?_
  iterate 2 refine oVal tt rfl rfl rfl rfl rfl trivial ?_
  refine vNil ?_
  change VC _ _ _ _
  refine vCond rfl (fun hb2 => ?_) (fun hb2 => ?_)
  · replace h := cnd_t hb2 h
    refine vSeq ?_
    refine vRegion ?_
    refine oVal tt rfl rfl rfl rfl rfl trivial ?_
    refine vNil ?_
    change VC _ _ _ _
    refine vRet ?_
    change ∃ _, _
    cases h
    exact ⟨[], _, rfl, trivial, rfl, (.eq rfl), rfl⟩
  · replace h := cnd_f hb2 h
    refine vSkip ?_
    change VC _ _ _ _
    refine vSeq ?_
    refine vRegion ?_
    iterate 2 refine oVal tt rfl rfl rfl rfl rfl trivial ?_
    refine vNil ?_
    change VC _ _ _ _
    refine vRet ?_
    change ∃ _, _
    cases h
    exact ⟨[], _, rfl, trivial, rfl, (.eq rfl), rfl⟩
end Go.Proofs.Ytgindcgphnbnaaa

namespace Go.Proofs.Ytgindcgphnbnaaa
open Go.RowKit
set_option linter.unusedVariables false
set_option linter.unusedSimpArgs false
def L_szRaise (N : Nat) (a_0 : Rse) (left_1 : Int) : Option (Int) :=
  (L_szIntS N a_0.bars left_1).bind fun v1 =>
  cnd (decide (v1 < (0 : Int))) (
    some (-1 : Int)) (
    some v1)
set_option maxRecDepth 20000 in
set_option maxHeartbeats 1600000 in
theorem L_szRaise_w (N : Nat) (a_0 : Rse) (left_1 : Int) (r : Int) (h : L_szRaise N a_0 left_1 = some r) : PCall Try.prog 71 [rD a_0, .int left_1] [] (.int r) := by
  unfold L_szRaise at h
  refine pcall_intro (TT := TT) tt Try.func71 rfl rfl Try.ntmps71 (congrArg Array.toList Try.results71) rfl rfl fun w0 => ?_
  refine vSeq ?_
  refine vRegion ?_
  refine oBox rfl rfl rfl rfl rfl rfl rfl rfl rfl ?_
  refine oVal tt rfl rfl rfl rfl rfl trivial ?_
  refine vNil ?_
  change VC _ _ _ _
  refine vSeq ?_
  refine vRegion ?_
  iterate 3 refine oVal tt rfl rfl rfl rfl rfl trivial ?_
  obtain ⟨v1, hc1, h⟩ := bind_inv h
  refine oCall (L_szIntS_w N a_0.bars left_1 v1 hc1) rfl rfl rfl rfl rfl rfl rfl rfl ⟨rfl, rfl, trivial⟩ ?_
  refine oVal tt rfl rfl rfl rfl rfl trivial ?_
  refine vNil ?_
  change VC _ _ _ _
  iterate 2 refine vSeq ?_
  refine vRegion ?_
  iterate 2 refine oVal tt rfl rfl rfl rfl rfl trivial ?_
  refine vNil ?_
  change VC _ _ _ _
  refine vCond rfl (fun hb2 => ?_) (fun hb2 => ?_)
  · replace h := cnd_t hb2 h
    refine vSeq ?_
    refine vRegion ?_
    refine oVal tt rfl rfl rfl rfl rfl trivial ?_
    refine vNil ?_
    change VC _ _ _ _
    refine vRet ?_
    change ∃ _, _
    cases h
    exact ⟨[], _, rfl, trivial, rfl, (.eq rfl), rfl⟩
  · replace h := cnd_f hb2 h
    refine vSkip ?_
    change VC _ _ _ _
    refine vSeq ?_
    refine vRegion ?_
    iterate 2 refine oVal tt rfl rfl rfl rfl rfl trivial ?_
    refine vNil ?_
    change VC _ _ _ _
    refine vRet ?_
    change ∃ _, _
    cases h
    exact ⟨[], _, rfl, trivial, rfl, (.eq rfl), rfl⟩
def L_szRaiseS_l1 (N : Nat) (a_0 : List (Int × List Int)) (k : Int → Option (Int)) : Nat → (Int × Int) → Option (Int)
  | 0, _ => none
  | n + 1, (left9, i10) =>
    cnd (decide (i10 < (a_0.length : Int))) (
      grd (0 ≤ i10 ∧ i10 < (a_0.length : Int)) <|
      (L_szRaise N (⟨(a_0.getD ((i10).toNat) (0, [])).1, (a_0.getD ((i10).toNat) (0, [])).2⟩ : Rse) left9).bind fun v12 =>
      cnd (decide (v12 < (0 : Int))) (
        some (-1 : Int)) (
        grd (Rg64 (i10 + (1 : Int))) <|
        L_szRaiseS_l1 N a_0 k n (v12, (i10 + (1 : Int))))) (
      k left9)
def L_szRaiseS (N : Nat) (a_0 : List (Int × List Int)) (left_1 : Int) : Option (Int) :=
  grd (Rg64 (left_1 - (a_0.length : Int))) <|
  cnd (decide ((left_1 - (a_0.length : Int)) < (0 : Int))) (
    some (-1 : Int)) (
    L_szRaiseS_l1 N a_0 (fun (left6 : Int) =>
          some left6) N ((left_1 - (a_0.length : Int)), (0 : Int)))
set_option maxRecDepth 20000 in
set_option maxHeartbeats 1600000 in
theorem L_szRaiseS_w (N : Nat) (a_0 : List (Int × List Int)) (left_1 : Int) (r : Int) (h : L_szRaiseS N a_0 left_1 = some r) : PCall Try.prog 26 [.ro false (.raises a_0), .int left_1] [] (.int r) := by
  unfold L_szRaiseS at h
  refine pcall_intro (TT := TT) tt Try.func26 rfl rfl Try.ntmps26 (congrArg Array.toList Try.results26) rfl rfl fun w0 => ?_
  refine vSeq ?_
  refine vRegion ?_
  refine oVal tt rfl rfl rfl rfl rfl trivial ?_
  refine vNil ?_
  change VC _ _ _ _
  refine vSeq ?_
  refine vRegion ?_
  iterate 3 refine oVal tt rfl rfl rfl rfl rfl trivial ?_
  obtain ⟨hg1, h⟩ := grd_inv h
  refine oVal tt rfl rfl rfl rfl rfl hg1 ?_
  refine oVal tt rfl rfl rfl rfl rfl trivial ?_
  refine vNil ?_
  change VC _ _ _ _
  iterate 2 refine vSeq ?_
  refine vRegion ?_
  iterate 2 refine oVal tt rfl rfl rfl rfl rfl trivial ?_
  refine vNil ?_
  change VC _ _ _ _
  refine vCond rfl (fun hb2 => ?_) (fun hb2 => ?_)
  · replace h := cnd_t hb2 h
    refine vSeq ?_
    refine vRegion ?_
    refine oVal tt rfl rfl rfl rfl rfl trivial ?_
    refine vNil ?_
    change VC _ _ _ _
    refine vRet ?_
    change ∃ _, _
    cases h
    exact ⟨[], _, rfl, trivial, rfl, (.eq rfl), rfl⟩
  · replace h := cnd_f hb2 h
    refine vSkip ?_
    change VC _ _ _ _
    iterate 2 refine vSeq ?_
    refine vRegion ?_
    refine oVal tt rfl rfl rfl rfl rfl trivial ?_
    refine vNil ?_
    change VC _ _ _ _
    refine vJoin (F := fun k => L_szRaiseS_l1 N a_0 k) h (α := Int) (J := fun (left6 : Int) => (⟨[(1, .int left6)], [], []⟩ : PS)) ?_ ?_
    · rintro left6 h
      show VC _ _ _ (⟨[(1, .int left6)], [], []⟩ : PS)
      refine vSeq ?_
      refine vRegion ?_
      iterate 2 refine oVal tt rfl rfl rfl rfl rfl trivial ?_
      refine vNil ?_
      change VC _ _ _ _
      refine vRet ?_
      change ∃ _, _
      cases h
      exact ⟨[], _, rfl, trivial, rfl, (.eq rfl), rfl⟩
    · intro k h
      refine vBlock ?_
      refine vLoopS (α := Int × Int) (fun | (left9, i10) => (⟨[(0, .ro false (.raises a_0)), (1, .int left9), (5, .int i10)], [], []⟩ : PS)) (L_szRaiseS_l1 N a_0 k) h (En.of ⟨rfl, rfl, rfl, trivial⟩ trivial trivial) (fun _ => rfl) ?_
      rintro n ⟨left9, i10⟩ h
      rw [L_szRaiseS_l1] at h
      show VC _ _ _ (⟨[(0, .ro false (.raises a_0)), (1, .int left9), (5, .int i10)], [], []⟩ : PS)
      iterate 2 refine vSeq ?_
      refine vRegion ?_
      iterate 4 refine oVal tt rfl rfl rfl rfl rfl trivial ?_
      refine vNil ?_
      change VC _ _ _ _
      refine vCond rfl (fun hb3 => ?_) (fun hb3 => ?_)
      · replace h := cnd_t hb3 h
        refine vSkip ?_
        change VC _ _ _ _
        refine vSeq ?_
        refine vBlock ?_
        refine vSeq ?_
        refine vRegion ?_
        iterate 2 refine oVal tt rfl rfl rfl rfl rfl trivial ?_
        obtain ⟨hg4, h⟩ := grd_inv h
        refine oVal tt rfl rfl rfl rfl rfl hg4 ?_
        iterate 2 refine oVal tt rfl rfl rfl rfl rfl trivial ?_
        obtain ⟨v12, hc5, h⟩ := bind_inv h
        refine oCall (L_szRaise_w N (⟨(a_0.getD ((i10).toNat) (0, [])).1, (a_0.getD ((i10).toNat) (0, [])).2⟩ : Rse) left9 v12 hc5) rfl rfl rfl rfl rfl rfl rfl rfl ⟨⟨rfl, rfl, trivial⟩, rfl, trivial⟩ ?_
        refine oVal tt rfl rfl rfl rfl rfl trivial ?_
        refine vNil ?_
        change VC _ _ _ _
        refine vSeq ?_
        refine vRegion ?_
        iterate 2 refine oVal tt rfl rfl rfl rfl rfl trivial ?_
        refine vNil ?_
        change VC _ _ _ _
        refine vCond rfl (fun hb6 => ?_) (fun hb6 => ?_)
        · replace h := cnd_t hb6 h
          refine vSeq ?_
          refine vRegion ?_
          refine oVal tt rfl rfl rfl rfl rfl trivial ?_
          refine vNil ?_
          change VC _ _ _ _
          refine vRet ?_
          change ∃ _, _
          cases h
          exact ⟨[], _, rfl, trivial, rfl, (.eq rfl), rfl⟩
        · replace h := cnd_f hb6 h
          refine vSkip ?_
          change VC _ _ _ _
          refine vRegion ?_
          refine oVal tt rfl rfl rfl rfl rfl trivial ?_
          obtain ⟨hg7, h⟩ := grd_inv h
          refine oVal tt rfl rfl rfl rfl rfl hg7 ?_
          refine oVal tt rfl rfl rfl rfl rfl trivial ?_
          refine vNil ?_
          change ∃ _, _
          exact ⟨(v12, (i10 + (1 : Int))), (En.of ⟨rfl, rfl, rfl, trivial⟩ trivial trivial), h⟩
      · replace h := cnd_f hb3 h
        refine vExit ?_
        change ∃ _, _
        exact ⟨left9, (En.of ⟨rfl, trivial⟩ trivial trivial), h⟩
def L_toRaise (N : Nat) (a_0 : Rse) : Option (Rse) :=
  (L_toIntS N a_0.bars).bind fun v1 =>
  some (⟨a_0.p, v1⟩ : Rse)
set_option maxRecDepth 20000 in
set_option maxHeartbeats 1600000 in
theorem L_toRaise_w (N : Nat) (a_0 : Rse) (r : Rse) (h : L_toRaise N a_0 = some r) : PCall Try.prog 76 [rD a_0] [(3, .ints r.bars)] (.agg [.int r.p, .row 0 0 r.bars.length]) := by
  unfold L_toRaise at h
  refine pcall_intro (TT := TT) tt Try.func76 rfl rfl Try.ntmps76 (congrArg Array.toList Try.results76) rfl rfl fun w0 => ?_
  refine vSeq ?_
  refine vRegion ?_
  refine oBox rfl rfl rfl rfl rfl rfl rfl rfl rfl ?_
  refine oAlloc tt rfl rfl rfl rfl rfl rfl rfl rfl rfl ?_
  refine vNil ?_
  change VC _ _ _ _
  refine vSeq ?_
  refine vRegion ?_
  refine oAlloc tt rfl rfl rfl rfl rfl rfl rfl rfl rfl ?_
  refine vNil ?_
  change VC _ _ _ _
  refine vSeq ?_
  refine vRegion ?_
  iterate 3 refine oVal tt rfl rfl rfl rfl rfl trivial ?_
  refine oStore tt rfl rfl rfl rfl rfl rfl rfl rfl rfl rfl rfl ⟨trivial, trivial⟩ ?_
  refine vNil ?_
  change VC _ _ _ _
  refine vSeq ?_
  refine vRegion ?_
  iterate 2 refine oVal tt rfl rfl rfl rfl rfl trivial ?_
  obtain ⟨v1, hc1, h⟩ := bind_inv h
  refine oCall (L_toIntS_w N a_0.bars v1 hc1) rfl rfl rfl rfl rfl rfl rfl rfl ⟨rfl, trivial⟩ ?_
  refine oVal tt rfl rfl rfl rfl rfl trivial ?_
  refine oStore tt rfl rfl rfl rfl rfl rfl rfl rfl rfl rfl rfl ⟨trivial, trivial⟩ ?_
  refine vNil ?_
  change VC _ _ _ _
  refine vSeq ?_
  refine vRegion ?_
  refine oVal tt rfl rfl rfl rfl rfl trivial ?_
  refine oStore tt rfl rfl rfl rfl rfl rfl rfl rfl rfl rfl rfl ⟨trivial, trivial, trivial⟩ ?_
  refine vNil ?_
  change VC _ _ _ _
  refine vRet ?_
  change ∃ _, _
  cases h
  exact ⟨[1090], _, rfl, ⟨rfl, trivial⟩, rfl, (.eq rfl), rfl⟩
def L_eqRaise (N : Nat) (a_0 : Rse) (b_1 : Rse) : Option (Bool) :=
  cnd (a_0.p != b_1.p) (
    some false) (
    (L_eqIntS N a_0.bars b_1.bars).bind fun v1 =>
    cnd (!v1) (
      some false) (
      some true))
set_option maxRecDepth 20000 in
set_option maxHeartbeats 1600000 in
theorem L_eqRaise_w (N : Nat) (a_0 : Rse) (b_1 : Rse) (r : Bool) (h : L_eqRaise N a_0 b_1 = some r) : PCall Try.prog 81 [rD a_0, rD b_1] [] (.bool r) := by
  unfold L_eqRaise at h
  refine pcall_intro (TT := TT) tt Try.func81 rfl rfl Try.ntmps81 (congrArg Array.toList Try.results81) rfl rfl fun w0 => ?_
  refine vSeq ?_
  refine vRegion ?_
  iterate 2 refine oBox rfl rfl rfl rfl rfl rfl rfl rfl rfl ?_
  refine oVal tt rfl rfl rfl rfl rfl trivial ?_
  refine vNil ?_
  change VC _ _ _ _
  iterate 2 refine vSeq ?_
  refine vRegion ?_
  iterate 5 refine oVal tt rfl rfl rfl rfl rfl trivial ?_
  refine vNil ?_
  change VC _ _ _ _
  refine vCond rfl (fun hb1 => ?_) (fun hb1 => ?_)
  · replace h := cnd_t hb1 h
    refine vSeq ?_
    refine vRegion ?_
    refine oVal tt rfl rfl rfl rfl rfl trivial ?_
    refine vNil ?_
    change VC _ _ _ _
    refine vRet ?_
    change ∃ _, _
    cases h
    exact ⟨[], _, rfl, trivial, rfl, (.eq rfl), rfl⟩
  · replace h := cnd_f hb1 h
    refine vSkip ?_
    change VC _ _ _ _
    iterate 2 refine vSeq ?_
    refine vRegion ?_
    iterate 4 refine oVal tt rfl rfl rfl rfl rfl trivial ?_
    obtain ⟨v1, hc2, h⟩ := bind_inv h
    refine oCall (L_eqIntS_w N a_0.bars b_1.bars v1 hc2) rfl rfl rfl rfl rfl rfl rfl rfl ⟨rfl, rfl, trivial⟩ ?_
    refine oVal tt rfl rfl rfl rfl rfl trivial ?_
    refine vNil ?_
    change VC _ _ _ _
    refine vCond rfl (fun hb3 => ?_) (fun hb3 => ?_)
    · replace h := cnd_t hb3 h
      refine vSeq ?_
      refine vRegion ?_
      refine oVal tt rfl rfl rfl rfl rfl trivial ?_
      refine vNil ?_
      change VC _ _ _ _
      refine vRet ?_
      change ∃ _, _
      cases h
      exact ⟨[], _, rfl, trivial, rfl, (.eq rfl), rfl⟩
    · replace h := cnd_f hb3 h
      refine vSkip ?_
      change VC _ _ _ _
      refine vSeq ?_
      refine vRegion ?_
      refine oVal tt rfl rfl rfl rfl rfl trivial ?_
      refine vNil ?_
      change VC _ _ _ _
      refine vRet ?_
      change ∃ _, _
      cases h
      exact ⟨[], _, rfl, trivial, rfl, (.eq rfl), rfl⟩
def L_eqRaiseS_l1 (N : Nat) (a_0 : List (Int × List Int)) (b_1 : List (Int × List Int)) (k : Unit → Option (Bool)) : Nat → Int → Option (Bool)
  | 0, _ => none
  | n + 1, i7 =>
    cnd (decide (i7 < (a_0.length : Int))) (
      grd (0 ≤ i7 ∧ i7 < (a_0.length : Int)) <|
      grd (0 ≤ i7 ∧ i7 < (b_1.length : Int)) <|
      (L_eqRaise N (⟨(a_0.getD ((i7).toNat) (0, [])).1, (a_0.getD ((i7).toNat) (0, [])).2⟩ : Rse) (⟨(b_1.getD ((i7).toNat) (0, [])).1, (b_1.getD ((i7).toNat) (0, [])).2⟩ : Rse)).bind fun v9 =>
      cnd (!v9) (
        some false) (
        grd (Rg64 (i7 + (1 : Int))) <|
        L_eqRaiseS_l1 N a_0 b_1 k n (i7 + (1 : Int)))) (
      k ())
def L_eqRaiseS (N : Nat) (a_0 : List (Int × List Int)) (b_1 : List (Int × List Int)) : Option (Bool) :=
  cnd ((a_0.length : Int) != (b_1.length : Int)) (
    some false) (
    L_eqRaiseS_l1 N a_0 b_1 (fun (_ : Unit) =>
          some true) N (0 : Int))
set_option maxRecDepth 20000 in
set_option maxHeartbeats 1600000 in
theorem L_eqRaiseS_w (N : Nat) (a_0 : List (Int × List Int)) (b_1 : List (Int × List Int)) (r : Bool) (h : L_eqRaiseS N a_0 b_1 = some r) : PCall Try.prog 32 [.ro false (.raises a_0), .ro false (.raises b_1)] [] (.bool r) := by
  unfold L_eqRaiseS at h
  refine pcall_intro (TT := TT) tt Try.func32 rfl rfl Try.ntmps32 (congrArg Array.toList Try.results32) rfl rfl fun w0 => ?_
  refine vSeq ?_
  refine vRegion ?_
  refine oVal tt rfl rfl rfl rfl rfl trivial ?_
  refine vNil ?_
  change VC _ _ _ _
  iterate 2 refine vSeq ?_
  refine vRegion ?_
  iterate 5 refine oVal tt rfl rfl rfl rfl rfl trivial ?_
  refine vNil ?_
  change VC _ _ _ _
  refine vCond rfl (fun hb1 => ?_) (fun hb1 => ?_)
  · replace h := cnd_t hb1 h
    refine vSeq ?_
    refine vRegion ?_
    refine oVal tt rfl rfl rfl rfl rfl trivial ?_
    refine vNil ?_
    change VC _ _ _ _
    refine vRet ?_
    change ∃ _, _
    cases h
    exact ⟨[], _, rfl, trivial, rfl, (.eq rfl), rfl⟩
  · replace h := cnd_f hb1 h
    refine vSkip ?_
    change VC _ _ _ _
    iterate 2 refine vSeq ?_
    refine vRegion ?_
    refine oVal tt rfl rfl rfl rfl rfl trivial ?_
    refine vNil ?_
    change VC _ _ _ _
    refine vJoin (F := fun k => L_eqRaiseS_l1 N a_0 b_1 k) h (α := Unit) (J := fun (_ : Unit) => (⟨[], [], []⟩ : PS)) ?_ ?_
    · rintro ⟨⟩ h
      show VC _ _ _ (⟨[], [], []⟩ : PS)
      refine vSeq ?_
      refine vRegion ?_
      refine oVal tt rfl rfl rfl rfl rfl trivial ?_
      refine vNil ?_
      change VC _ _ _ _
      refine vRet ?_
      change ∃ _, _
      cases h
      exact ⟨[], _, rfl, trivial, rfl, (.eq rfl), rfl⟩
    · intro k h
      refine vBlock ?_
      refine vLoopS (α := Int) (fun (i7 : Int) => (⟨[(0, .ro false (.raises a_0)), (1, .ro false (.raises b_1)), (5, .int i7)], [], []⟩ : PS)) (L_eqRaiseS_l1 N a_0 b_1 k) h (En.of ⟨rfl, rfl, rfl, trivial⟩ trivial trivial) (fun _ => rfl) ?_
      rintro n i7 h
      rw [L_eqRaiseS_l1] at h
      show VC _ _ _ (⟨[(0, .ro false (.raises a_0)), (1, .ro false (.raises b_1)), (5, .int i7)], [], []⟩ : PS)
      iterate 2 refine vSeq ?_
      refine vRegion ?_
      iterate 4 refine oVal tt rfl rfl rfl rfl rfl trivial ?_
      refine vNil ?_
      change VC _ _ _ _
      refine vCond rfl (fun hb2 => ?_) (fun hb2 => ?_)
      · replace h := cnd_t hb2 h
        refine vSkip ?_
        change VC _ _ _ _
        refine vSeq ?_
        refine vBlock ?_
        refine vSeq ?_
        refine vRegionD (by kernel_rfl) (by kernel_rfl) ?_
        iterate 2 refine cVal tt rfl (wNone rfl) rfl rfl rfl trivial ?_
        obtain ⟨hg3, h⟩ := grd_inv h
        refine cVal tt rfl (wNone rfl) rfl rfl rfl hg3 ?_
        iterate 3 refine cVal tt rfl (wNone rfl) rfl rfl rfl trivial ?_
        obtain ⟨hg4, h⟩ := grd_inv h
        refine cVal tt rfl (wNone rfl) rfl rfl rfl hg4 ?_
        refine cVal tt rfl (wNone rfl) rfl rfl rfl trivial ?_
        obtain ⟨v9, hc5, h⟩ := bind_inv h
        refine cCall (L_eqRaise_w N (⟨(a_0.getD ((i7).toNat) (0, [])).1, (a_0.getD ((i7).toNat) (0, [])).2⟩ : Rse) (⟨(b_1.getD ((i7).toNat) (0, [])).1, (b_1.getD ((i7).toNat) (0, [])).2⟩ : Rse) v9 hc5) rfl (wNone rfl) rfl rfl rfl rfl rfl rfl ⟨⟨rfl, rfl, trivial⟩, ⟨rfl, rfl, trivial⟩, trivial⟩ ?_
        refine cVal tt rfl (wNone rfl) rfl rfl rfl trivial ?_
        refine cNil ?_
        change VC _ _ _ _
        refine vCond rfl (fun hb6 => ?_) (fun hb6 => ?_)
        · replace h := cnd_t hb6 h
          refine vSeq ?_
          refine vRegion ?_
          refine oVal tt rfl rfl rfl rfl rfl trivial ?_
          refine vNil ?_
          change VC _ _ _ _
          refine vRet ?_
          change ∃ _, _
          cases h
          exact ⟨[], _, rfl, trivial, rfl, (.eq rfl), rfl⟩
        · replace h := cnd_f hb6 h
          refine vSkip ?_
          change VC _ _ _ _
          refine vRegion ?_
          refine oVal tt rfl rfl rfl rfl rfl trivial ?_
          obtain ⟨hg7, h⟩ := grd_inv h
          refine oVal tt rfl rfl rfl rfl rfl hg7 ?_
          refine oVal tt rfl rfl rfl rfl rfl trivial ?_
          refine vNil ?_
          change ∃ _, _
          exact ⟨(i7 + (1 : Int)), (En.of ⟨rfl, rfl, rfl, trivial⟩ trivial trivial), h⟩
      · replace h := cnd_f hb2 h
        refine vExit ?_
        change ∃ _, _
        exact ⟨(), (En.of trivial trivial trivial), h⟩
end Go.Proofs.Ytgindcgphnbnaaa

namespace Go.Proofs.Ytgindcgphnbnaaa
open Go.RowKit
set_option linter.unusedVariables false
set_option linter.unusedSimpArgs false
def L_szBarS (N : Nat) (a_0 : List (Int × Int)) (left_1 : Int) : Option (Int) :=
  grd (Rg64 (left_1 - (a_0.length : Int))) <|
  cnd (decide ((left_1 - (a_0.length : Int)) < (0 : Int))) (
    some (-1 : Int)) (
    some (left_1 - (a_0.length : Int)))
set_option maxRecDepth 20000 in
set_option maxHeartbeats 1600000 in
theorem L_szBarS_w (N : Nat) (a_0 : List (Int × Int)) (left_1 : Int) (r : Int) (h : L_szBarS N a_0 left_1 = some r) : PCall Try.prog 123 [.ro false (.pairs a_0), .int left_1] [] (.int r) := by
  unfold L_szBarS at h
  refine pcall_intro (TT := TT) tt Try.func123 rfl rfl Try.ntmps123 (congrArg Array.toList Try.results123) rfl rfl fun w0 => ?_
  refine vSeq ?_
  refine vRegion ?_
  refine oVal tt rfl rfl rfl rfl rfl trivial ?_
  refine vNil ?_
  change VC _ _ _ _
  refine vSeq ?_
  refine vRegion ?_
  iterate 3 refine oVal tt rfl rfl rfl rfl rfl trivial ?_
  obtain ⟨hg1, h⟩ := grd_inv h
  refine oVal tt rfl rfl rfl rfl rfl hg1 ?_
  refine oVal tt rfl rfl rfl rfl rfl trivial ?_
  refine vNil ?_
  change VC _ _ _ _
  iterate 2 refine vSeq ?_
  refine vRegion ?_
  iterate 2 refine oVal tt rfl rfl rfl rfl rfl trivial ?_
  refine vNil ?_
  change VC _ _ _ _
  refine vCond rfl (fun hb2 => ?_) (fun hb2 => ?_)
  · replace h := cnd_t hb2 h
    refine vSeq ?_
    refine vRegion ?_
    refine oVal tt rfl rfl rfl rfl rfl trivial ?_
    refine vNil ?_
    change VC _ _ _ _
    refine vRet ?_
    change ∃ _, _
    cases h
    exact ⟨[], _, rfl, trivial, rfl, (.eq rfl), rfl⟩
  · replace h := cnd_f hb2 h
    refine vSkip ?_
    change VC _ _ _ _
    refine vSeq ?_
    refine vRegion ?_
    iterate 2 refine oVal tt rfl rfl rfl rfl rfl trivial ?_
    refine vNil ?_
    change VC _ _ _ _
    refine vRet ?_
    change ∃ _, _
    cases h
    exact ⟨[], _, rfl, trivial, rfl, (.eq rfl), rfl⟩
def L_szGraph (N : Nat) (a_0 : Grf) (left_1 : Int) : Option (Int) :=
  (L_szBarS N a_0.bars left_1).bind fun v1 =>
  cnd (decide (v1 < (0 : Int))) (
    some (-1 : Int)) (
    some v1)
set_option maxRecDepth 20000 in
set_option maxHeartbeats 1600000 in
theorem L_szGraph_w (N : Nat) (a_0 : Grf) (left_1 : Int) (r : Int) (h : L_szGraph N a_0 left_1 = some r) : PCall Try.prog 69 [gD a_0, .int left_1] [] (.int r) := by
  unfold L_szGraph at h
  refine pcall_intro (TT := TT) tt Try.func69 rfl rfl Try.ntmps69 (congrArg Array.toList Try.results69) rfl rfl fun w0 => ?_
  refine vSeq ?_
  refine vRegion ?_
  refine oBox rfl rfl rfl rfl rfl rfl rfl rfl rfl ?_
  refine oVal tt rfl rfl rfl rfl rfl trivial ?_
  refine vNil ?_
  change VC _ _ _ _
  refine vSeq ?_
  refine vRegion ?_
  iterate 3 refine oVal tt rfl rfl rfl rfl rfl trivial ?_
  obtain ⟨v1, hc1, h⟩ := bind_inv h
  refine oCall (L_szBarS_w N a_0.bars left_1 v1 hc1) rfl rfl rfl rfl rfl rfl rfl rfl ⟨rfl, rfl, trivial⟩ ?_
  refine oVal tt rfl rfl rfl rfl rfl trivial ?_
  refine vNil ?_
  change VC _ _ _ _
  iterate 2 refine vSeq ?_
  refine vRegion ?_
  iterate 2 refine oVal tt rfl rfl rfl rfl rfl trivial ?_
  refine vNil ?_
  change VC _ _ _ _
  refine vCond rfl (fun hb2 => ?_) (fun hb2 => ?_)
  · replace h := cnd_t hb2 h
    refine vSeq ?_
    refine vRegion ?_
    refine oVal tt rfl rfl rfl rfl rfl trivial ?_
    refine vNil ?_
    change VC _ _ _ _
    refine vRet ?_
    change ∃ _, _
    cases h
    exact ⟨[], _, rfl, trivial, rfl, (.eq rfl), rfl⟩
  · replace h := cnd_f hb2 h
    refine vSkip ?_
    change VC _ _ _ _
    refine vSeq ?_
    refine vRegion ?_
    iterate 2 refine oVal tt rfl rfl rfl rfl rfl trivial ?_
    refine vNil ?_
    change VC _ _ _ _
    refine vRet ?_
    change ∃ _, _
    cases h
    exact ⟨[], _, rfl, trivial, rfl, (.eq rfl), rfl⟩
def S_l2After (N : Nat) (a_0 : Int × Int) (b_1 : Int × Int) : Option (Bool) :=
  cnd (decide (a_0.1 < b_1.1)) (
    some true) (
    cnd (a_0.1 == b_1.1) (
      some (decide (a_0.2 ≤ b_1.2))) (
      some false))
set_option maxRecDepth 20000 in
set_option maxHeartbeats 1600000 in
theorem S_l2After_w (N : Nat) (a_0 : Int × Int) (b_1 : Int × Int) (r : Bool) (h : S_l2After N a_0 b_1 = some r) : PCall Try.prog 176 [.agg [.int a_0.1, .int a_0.2], .agg [.int b_1.1, .int b_1.2]] [] (.bool r) := by
  unfold S_l2After at h
  refine pcall_intro (TT := TT) tt Try.func176 rfl rfl Try.ntmps176 (congrArg Array.toList Try.results176) rfl rfl fun w0 => ?_
  refine vSeq ?_
  refine vRegion ?_
  iterate 2 refine oBox rfl rfl rfl rfl rfl rfl rfl rfl rfl ?_
  refine oVal tt rfl rfl rfl rfl rfl trivial ?_
  refine vNil ?_
  change VC _ _ _ _
  refine vSeq ?_
  refine vRegion ?_
  iterate 6 refine oVal tt rfl rfl rfl rfl rfl trivial ?_
  refine oSplit rfl rfl rfl (fun hb1 => ?_) (fun hb1 => ?_)
  · replace h := cnd_t hb1 h
    iterate 6 refine oNoF rfl rfl rfl rfl hb1 rfl rfl ?_
    iterate 5 refine oNoU rfl rfl rfl rfl rfl ?_
    refine oNoF rfl rfl rfl rfl hb1 rfl rfl ?_
    refine oPick rfl rfl rfl rfl rfl hb1 rfl ?_
    refine oVal tt rfl rfl rfl rfl rfl trivial ?_
    refine vNil ?_
    change VC _ _ _ _
    refine vRet ?_
    change ∃ _, _
    cases h
    exact ⟨[], _, rfl, trivial, rfl, (.eq rfl), rfl⟩
  · replace h := cnd_f hb1 h
    iterate 6 refine oValG tt rfl rfl rfl rfl rfl hb1 rfl rfl rfl trivial ?_
    refine oSplit rfl rfl rfl (fun hb2 => ?_) (fun hb2 => ?_)
    · replace h := cnd_t hb2 h
      iterate 5 refine oValG tt rfl rfl rfl rfl rfl hb2 rfl rfl rfl trivial ?_
      refine oPickGT rfl rfl rfl rfl hb1 rfl rfl rfl rfl hb2 rfl ?_
      refine oPickF rfl rfl rfl rfl rfl hb1 rfl ?_
      refine oVal tt rfl rfl rfl rfl rfl trivial ?_
      refine vNil ?_
      change VC _ _ _ _
      refine vRet ?_
      change ∃ _, _
      cases h
      exact ⟨[], _, rfl, trivial, rfl, (.eq rfl), rfl⟩
    · replace h := cnd_f hb2 h
      iterate 5 refine oNoT rfl rfl rfl rfl hb2 rfl rfl ?_
      refine oPickGF rfl rfl rfl rfl hb1 rfl rfl rfl rfl hb2 rfl ?_
      refine oPickF rfl rfl rfl rfl rfl hb1 rfl ?_
      refine oVal tt rfl rfl rfl rfl rfl trivial ?_
      refine vNil ?_
      change VC _ _ _ _
      refine vRet ?_
      change ∃ _, _
      cases h
      exact ⟨[], _, rfl, trivial, rfl, (.eq rfl), rfl⟩
def S_IsGraph_l1 (N : Nat) (g_0 : Grf) (k : Unit → Option (Bool)) : Nat → Int → Option (Bool)
  | 0, _ => none
  | n + 1, i8 =>
    cnd (decide (i8 < (g_0.bars.length : Int))) (
      grd (0 ≤ i8 ∧ i8 < (g_0.bars.length : Int)) <|
      cnd (decide (((g_0.bars.getD ((i8).toNat) (0, 0)).1) < (0 : Int))) (
        some false) (
        cnd (decide (((g_0.bars.getD ((i8).toNat) (0, 0)).1) ≥ ((g_0.bars.getD ((i8).toNat) (0, 0)).2))) (
          some false) (
          cnd (decide (((g_0.bars.getD ((i8).toNat) (0, 0)).2) ≥ g_0.n)) (
            some false) (
            cnd (decide (i8 > (0 : Int))) (
              grd (Rg64 (i8 - (1 : Int))) <|
              grd (0 ≤ (i8 - (1 : Int)) ∧ (i8 - (1 : Int)) < (g_0.bars.length : Int)) <|
              (S_l2After N (g_0.bars.getD (((i8 - (1 : Int))).toNat) (0, 0)) (g_0.bars.getD ((i8).toNat) (0, 0))).bind fun v10 =>
              cnd (!v10) (
                some false) (
                grd (Rg64 (i8 + (1 : Int))) <|
                S_IsGraph_l1 N g_0 k n (i8 + (1 : Int)))) (
              grd (Rg64 (i8 + (1 : Int))) <|
              S_IsGraph_l1 N g_0 k n (i8 + (1 : Int))))))) (
      k ())
def S_IsGraph (N : Nat) (g_0 : Grf) : Option (Bool) :=
  (S_l1In N g_0.n (1 : Int) (8 : Int)).bind fun v1 =>
  cnd (!v1) (
    some false) (
    cnd (decide ((g_0.bars.length : Int) > (24 : Int))) (
      some false) (
      S_IsGraph_l1 N g_0 (fun (_ : Unit) =>
            some true) N (0 : Int)))
set_option maxRecDepth 20000 in
set_option maxHeartbeats 1600000 in
theorem S_IsGraph_w (N : Nat) (g_0 : Grf) (r : Bool) (h : S_IsGraph N g_0 = some r) : PCall Try.prog 152 [gD g_0] [] (.bool r) := by
  unfold S_IsGraph at h
  refine pcall_intro (TT := TT) tt Try.func152 rfl rfl Try.ntmps152 (congrArg Array.toList Try.results152) rfl rfl fun w0 => ?_
  refine vSeq ?_
  refine vRegion ?_
  refine oBox rfl rfl rfl rfl rfl rfl rfl rfl rfl ?_
  refine oVal tt rfl rfl rfl rfl rfl trivial ?_
  refine vNil ?_
  change VC _ _ _ _
  iterate 2 refine vSeq ?_
  refine vRegion ?_
  iterate 2 refine oVal tt rfl rfl rfl rfl rfl trivial ?_
  obtain ⟨v1, hc1, h⟩ := bind_inv h
  refine oCall (S_l1In_w N g_0.n (1 : Int) (8 : Int) v1 hc1) rfl rfl rfl rfl rfl rfl rfl rfl ⟨rfl, rfl, rfl, trivial⟩ ?_
  iterate 2 refine oVal tt rfl rfl rfl rfl rfl trivial ?_
  refine oSplit rfl rfl rfl (fun hb2 => ?_) (fun hb2 => ?_)
  · replace h := cnd_t hb2 h
    iterate 4 refine oNoF rfl rfl rfl rfl hb2 rfl rfl ?_
    refine oPick rfl rfl rfl rfl rfl hb2 rfl ?_
    refine vNil ?_
    change VC _ _ _ _
    refine vCondT rfl rfl ?_
    refine vSeq ?_
    refine vRegion ?_
    refine oVal tt rfl rfl rfl rfl rfl trivial ?_
    refine vNil ?_
    change VC _ _ _ _
    refine vRet ?_
    change ∃ _, _
    cases h
    exact ⟨[], _, rfl, trivial, rfl, (.eq rfl), rfl⟩
  · replace h := cnd_f hb2 h
    iterate 4 refine oValG tt rfl rfl rfl rfl rfl hb2 rfl rfl rfl trivial ?_
    refine oPickF rfl rfl rfl rfl rfl hb2 rfl ?_
    refine vNil ?_
    change VC _ _ _ _
    refine vCond rfl (fun hb3 => ?_) (fun hb3 => ?_)
    · replace h := cnd_t hb3 h
      refine vSeq ?_
      refine vRegion ?_
      refine oVal tt rfl rfl rfl rfl rfl trivial ?_
      refine vNil ?_
      change VC _ _ _ _
      refine vRet ?_
      change ∃ _, _
      cases h
      exact ⟨[], _, rfl, trivial, rfl, (.eq rfl), rfl⟩
    · replace h := cnd_f hb3 h
      refine vSkip ?_
      change VC _ _ _ _
      iterate 2 refine vSeq ?_
      refine vRegion ?_
      refine oVal tt rfl rfl rfl rfl rfl trivial ?_
      refine vNil ?_
      change VC _ _ _ _
      refine vJoin (F := fun k => S_IsGraph_l1 N g_0 k) h (α := Unit) (J := fun (_ : Unit) => (⟨[], [], []⟩ : PS)) ?_ ?_
      · rintro ⟨⟩ h
        show VC _ _ _ (⟨[], [], []⟩ : PS)
        refine vSeq ?_
        refine vRegion ?_
        refine oVal tt rfl rfl rfl rfl rfl trivial ?_
        refine vNil ?_
        change VC _ _ _ _
        refine vRet ?_
        change ∃ _, _
        cases h
        exact ⟨[], _, rfl, trivial, rfl, (.eq rfl), rfl⟩
      · intro k h
        refine vBlock ?_
        refine vLoopS (α := Int) (fun (i8 : Int) => (⟨[(1, .ptr 1 0), (3, .int i8)], [], [(1, some [.int g_0.n, .ro false (.pairs g_0.bars)])]⟩ : PS)) (S_IsGraph_l1 N g_0 k) h (En.of ⟨rfl, rfl, trivial⟩ trivial ⟨rfl, trivial⟩) (fun _ => rfl) ?_
        rintro n i8 h
        rw [S_IsGraph_l1] at h
        show VC _ _ _ (⟨[(1, .ptr 1 0), (3, .int i8)], [], [(1, some [.int g_0.n, .ro false (.pairs g_0.bars)])]⟩ : PS)
        iterate 2 refine vSeq ?_
        refine vRegion ?_
        iterate 5 refine oVal tt rfl rfl rfl rfl rfl trivial ?_
        refine vNil ?_
        change VC _ _ _ _
        refine vCond rfl (fun hb4 => ?_) (fun hb4 => ?_)
        · replace h := cnd_t hb4 h
          refine vSkip ?_
          change VC _ _ _ _
          refine vSeq ?_
          refine vBlock ?_
          refine vSeq ?_
          refine vRegion ?_
          iterate 3 refine oVal tt rfl rfl rfl rfl rfl trivial ?_
          obtain ⟨hg5, h⟩ := grd_inv h
          refine oVal tt rfl rfl rfl rfl rfl hg5 ?_
          refine oVal tt rfl rfl rfl rfl rfl trivial ?_
          refine oAlloc tt rfl rfl rfl rfl rfl rfl rfl rfl rfl ?_
          refine oStore tt rfl rfl rfl rfl rfl rfl rfl rfl rfl rfl rfl ⟨trivial, trivial, trivial⟩ ?_
          refine vNil ?_
          change VC _ _ _ _
          refine vSeq ?_
          refine vRegionD (by kernel_rfl) (by kernel_rfl) ?_
          iterate 4 refine cVal tt rfl (wNone rfl) rfl rfl rfl trivial ?_
          refine cSplit rfl rfl rfl (fun hb6 => ?_) (fun hb6 => ?_)
          · replace h := cnd_t hb6 h
            iterate 5 refine cNoF rfl rfl rfl rfl hb6 rfl rfl ?_
            refine cPickT rfl (wNone rfl) rfl rfl rfl hb6 rfl ?_
            refine cVal tt rfl (wNone rfl) rfl rfl rfl trivial ?_
            iterate 5 refine cNoF rfl rfl rfl rfl rfl rfl rfl ?_
            refine cPickT rfl (wNone rfl) rfl rfl rfl rfl rfl ?_
            refine cVal tt rfl (wNone rfl) rfl rfl rfl trivial ?_
            iterate 3 refine cNoF rfl rfl rfl rfl rfl rfl rfl ?_
            iterate 9 refine cNoU rfl rfl rfl rfl rfl ?_
            refine cNoF rfl rfl rfl rfl rfl rfl rfl ?_
            refine cPickT rfl (wNone rfl) rfl rfl rfl rfl rfl ?_
            refine cNil ?_
            change VC _ _ _ _
            refine vCondT rfl rfl ?_
            refine vSeq ?_
            refine vRegion ?_
            refine oVal tt rfl rfl rfl rfl rfl trivial ?_
            refine vNil ?_
            change VC _ _ _ _
            refine vRet ?_
            change ∃ _, _
            cases h
            exact ⟨[], _, rfl, trivial, rfl, (.eq rfl), rfl⟩
          · replace h := cnd_f hb6 h
            iterate 5 refine cVal tt rfl (wSome rfl rfl rfl rfl hb6) rfl rfl rfl trivial ?_
            refine cPickF rfl (wNone rfl) rfl rfl rfl hb6 rfl ?_
            refine cVal tt rfl (wNone rfl) rfl rfl rfl trivial ?_
            refine cSplit rfl rfl rfl (fun hb7 => ?_) (fun hb7 => ?_)
            · replace h := cnd_t hb7 h
              iterate 5 refine cNoF rfl rfl rfl rfl hb7 rfl rfl ?_
              refine cPickT rfl (wNone rfl) rfl rfl rfl hb7 rfl ?_
              refine cVal tt rfl (wNone rfl) rfl rfl rfl trivial ?_
              iterate 3 refine cNoF rfl rfl rfl rfl rfl rfl rfl ?_
              iterate 9 refine cNoU rfl rfl rfl rfl rfl ?_
              refine cNoF rfl rfl rfl rfl rfl rfl rfl ?_
              refine cPickT rfl (wNone rfl) rfl rfl rfl rfl rfl ?_
              refine cNil ?_
              change VC _ _ _ _
              refine vCondT rfl rfl ?_
              refine vSeq ?_
              refine vRegion ?_
              refine oVal tt rfl rfl rfl rfl rfl trivial ?_
              refine vNil ?_
              change VC _ _ _ _
              refine vRet ?_
              change ∃ _, _
              cases h
              exact ⟨[], _, rfl, trivial, rfl, (.eq rfl), rfl⟩
            · replace h := cnd_f hb7 h
              iterate 5 refine cVal tt rfl (wSome rfl rfl rfl rfl hb7) rfl rfl rfl trivial ?_
              refine cPickF rfl (wNone rfl) rfl rfl rfl hb7 rfl ?_
              refine cVal tt rfl (wNone rfl) rfl rfl rfl trivial ?_
              refine cSplit rfl rfl rfl (fun hb8 => ?_) (fun hb8 => ?_)
              · replace h := cnd_t hb8 h
                iterate 3 refine cNoF rfl rfl rfl rfl hb8 rfl rfl ?_
                iterate 9 refine cNoU rfl rfl rfl rfl rfl ?_
                refine cNoF rfl rfl rfl rfl hb8 rfl rfl ?_
                refine cPickT rfl (wNone rfl) rfl rfl rfl hb8 rfl ?_
                refine cNil ?_
                change VC _ _ _ _
                refine vCondT rfl rfl ?_
                refine vSeq ?_
                refine vRegion ?_
                refine oVal tt rfl rfl rfl rfl rfl trivial ?_
                refine vNil ?_
                change VC _ _ _ _
                refine vRet ?_
                change ∃ _, _
                cases h
                exact ⟨[], _, rfl, trivial, rfl, (.eq rfl), rfl⟩
              · replace h := cnd_f hb8 h
                iterate 3 refine cVal tt rfl (wSome rfl rfl rfl rfl hb8) rfl rfl rfl trivial ?_
                refine cSplit rfl rfl rfl (fun hb9 => ?_) (fun hb9 => ?_)
                · replace h := cnd_t hb9 h
                  iterate 3 refine cVal tt rfl (wSome rfl rfl rfl rfl hb9) rfl rfl rfl trivial ?_
                  obtain ⟨hg10, h⟩ := grd_inv h
                  refine cVal tt rfl (wSome rfl rfl rfl rfl hb9) rfl rfl rfl hg10 ?_
                  obtain ⟨hg11, h⟩ := grd_inv h
                  refine cVal tt rfl (wSome rfl rfl rfl rfl hb9) rfl rfl rfl hg11 ?_
                  iterate 2 refine cVal tt rfl (wSome rfl rfl rfl rfl hb9) rfl rfl rfl trivial ?_
                  obtain ⟨v10, hc12, h⟩ := bind_inv h
                  refine cCall (S_l2After_w N (g_0.bars.getD (((i8 - (1 : Int))).toNat) (0, 0)) (g_0.bars.getD ((i8).toNat) (0, 0)) v10 hc12) rfl (wSome rfl rfl rfl rfl hb9) rfl rfl rfl rfl rfl rfl ⟨⟨rfl, rfl, trivial⟩, ⟨rfl, rfl, trivial⟩, trivial⟩ ?_
                  refine cVal tt rfl (wSome rfl rfl rfl rfl hb9) rfl rfl rfl trivial ?_
                  refine cPickT rfl (wSome rfl rfl rfl rfl hb8) rfl rfl rfl hb9 rfl ?_
                  refine cPickF rfl (wNone rfl) rfl rfl rfl hb8 rfl ?_
                  refine cNil ?_
                  change VC _ _ _ _
                  refine vCond rfl (fun hb13 => ?_) (fun hb13 => ?_)
                  · replace h := cnd_t hb13 h
                    refine vSeq ?_
                    refine vRegion ?_
                    refine oVal tt rfl rfl rfl rfl rfl trivial ?_
                    refine vNil ?_
                    change VC _ _ _ _
                    refine vRet ?_
                    change ∃ _, _
                    cases h
                    exact ⟨[], _, rfl, trivial, rfl, (.eq rfl), rfl⟩
                  · replace h := cnd_f hb13 h
                    refine vSkip ?_
                    change VC _ _ _ _
                    refine vRegion ?_
                    refine oVal tt rfl rfl rfl rfl rfl trivial ?_
                    obtain ⟨hg14, h⟩ := grd_inv h
                    refine oVal tt rfl rfl rfl rfl rfl hg14 ?_
                    refine oVal tt rfl rfl rfl rfl rfl trivial ?_
                    refine vNil ?_
                    change ∃ _, _
                    exact ⟨(i8 + (1 : Int)), (En.of ⟨rfl, rfl, trivial⟩ trivial ⟨rfl, trivial⟩), h⟩
                · replace h := cnd_f hb9 h
                  iterate 9 refine cNoT rfl rfl rfl rfl hb9 rfl rfl ?_
                  refine cPickF rfl (wSome rfl rfl rfl rfl hb8) rfl rfl rfl hb9 rfl ?_
                  refine cPickF rfl (wNone rfl) rfl rfl rfl hb8 rfl ?_
                  refine cNil ?_
                  change VC _ _ _ _
                  refine vCondF rfl rfl ?_
                  refine vSkip ?_
                  change VC _ _ _ _
                  refine vRegion ?_
                  refine oVal tt rfl rfl rfl rfl rfl trivial ?_
                  obtain ⟨hg15, h⟩ := grd_inv h
                  refine oVal tt rfl rfl rfl rfl rfl hg15 ?_
                  refine oVal tt rfl rfl rfl rfl rfl trivial ?_
                  refine vNil ?_
                  change ∃ _, _
                  exact ⟨(i8 + (1 : Int)), (En.of ⟨rfl, rfl, trivial⟩ trivial ⟨rfl, trivial⟩), h⟩
        · replace h := cnd_f hb4 h
          refine vExit ?_
          change ∃ _, _
          exact ⟨(), (En.of trivial trivial trivial), h⟩
def S_l17Simple_l1 (N : Nat) (g_0 : Grf) (k : Unit → Option (Bool)) : Nat → Int → Option (Bool)
  | 0, _ => none
  | n + 1, i4 =>
    cnd (decide (i4 < (g_0.bars.length : Int))) (
      grd (Rg64 (i4 - (1 : Int))) <|
      grd (0 ≤ (i4 - (1 : Int)) ∧ (i4 - (1 : Int)) < (g_0.bars.length : Int)) <|
      grd (0 ≤ i4 ∧ i4 < (g_0.bars.length : Int)) <|
      cnd (((g_0.bars.getD (((i4 - (1 : Int))).toNat) (0, 0)).1 == (g_0.bars.getD ((i4).toNat) (0, 0)).1) && ((g_0.bars.getD (((i4 - (1 : Int))).toNat) (0, 0)).2 == (g_0.bars.getD ((i4).toNat) (0, 0)).2)) (
        some false) (
        grd (Rg64 (i4 + (1 : Int))) <|
        S_l17Simple_l1 N g_0 k n (i4 + (1 : Int)))) (
      k ())
def S_l17Simple (N : Nat) (g_0 : Grf) : Option (Bool) :=
  S_l17Simple_l1 N g_0 (fun (_ : Unit) =>
        (S_IsGraph N g_0).bind fun v2 =>
        some v2) N (1 : Int)
set_option maxRecDepth 20000 in
set_option maxHeartbeats 1600000 in
theorem S_l17Simple_w (N : Nat) (g_0 : Grf) (r : Bool) (h : S_l17Simple N g_0 = some r) : PCall Try.prog 124 [gD g_0] [] (.bool r) := by
  unfold S_l17Simple at h
  refine pcall_intro (TT := TT) tt Try.func124 rfl rfl Try.ntmps124 (congrArg Array.toList Try.results124) rfl rfl fun w0 => ?_
  refine vSeq ?_
  refine vRegion ?_
  refine oBox rfl rfl rfl rfl rfl rfl rfl rfl rfl ?_
  refine oVal tt rfl rfl rfl rfl rfl trivial ?_
  refine vNil ?_
  change VC _ _ _ _
  iterate 2 refine vSeq ?_
  refine vRegion ?_
  refine oVal tt rfl rfl rfl rfl rfl trivial ?_
  refine vNil ?_
  change VC _ _ _ _
  refine vJoin (F := fun k => S_l17Simple_l1 N g_0 k) h (α := Unit) (J := fun (_ : Unit) => (⟨[(1, .ptr 1 0)], [], [(1, some [.int g_0.n, .ro false (.pairs g_0.bars)])]⟩ : PS)) ?_ ?_
  · rintro ⟨⟩ h
    show VC _ _ _ (⟨[(1, .ptr 1 0)], [], [(1, some [.int g_0.n, .ro false (.pairs g_0.bars)])]⟩ : PS)
    refine vSeq ?_
    refine vRegion ?_
    refine oVal tt rfl rfl rfl rfl rfl trivial ?_
    obtain ⟨v2, hc1, h⟩ := bind_inv h
    refine oCall (S_IsGraph_w N g_0 v2 hc1) rfl rfl rfl rfl rfl rfl rfl rfl ⟨⟨rfl, rfl, trivial⟩, trivial⟩ ?_
    refine oVal tt rfl rfl rfl rfl rfl trivial ?_
    refine vNil ?_
    change VC _ _ _ _
    refine vRet ?_
    change ∃ _, _
    cases h
    exact ⟨[], _, rfl, trivial, rfl, (.eq rfl), rfl⟩
  · intro k h
    refine vBlock ?_
    refine vLoopS (α := Int) (fun (i4 : Int) => (⟨[(1, .ptr 1 0), (3, .int i4)], [], [(1, some [.int g_0.n, .ro false (.pairs g_0.bars)])]⟩ : PS)) (S_l17Simple_l1 N g_0 k) h (En.of ⟨rfl, rfl, trivial⟩ trivial ⟨rfl, trivial⟩) (fun _ => rfl) ?_
    rintro n i4 h
    rw [S_l17Simple_l1] at h
    show VC _ _ _ (⟨[(1, .ptr 1 0), (3, .int i4)], [], [(1, some [.int g_0.n, .ro false (.pairs g_0.bars)])]⟩ : PS)
    iterate 2 refine vSeq ?_
    refine vRegion ?_
    iterate 5 refine oVal tt rfl rfl rfl rfl rfl trivial ?_
    refine vNil ?_
    change VC _ _ _ _
    refine vCond rfl (fun hb2 => ?_) (fun hb2 => ?_)
    · replace h := cnd_t hb2 h
      refine vSkip ?_
      change VC _ _ _ _
      refine vSeq ?_
      refine vBlock ?_
      refine vSeq ?_
      refine vRegionD (by kernel_rfl) (by kernel_rfl) ?_
      iterate 3 refine cVal tt rfl (wNone rfl) rfl rfl rfl trivial ?_
      obtain ⟨hg3, h⟩ := grd_inv h
      refine cVal tt rfl (wNone rfl) rfl rfl rfl hg3 ?_
      obtain ⟨hg4, h⟩ := grd_inv h
      refine cVal tt rfl (wNone rfl) rfl rfl rfl hg4 ?_
      iterate 4 refine cVal tt rfl (wNone rfl) rfl rfl rfl trivial ?_
      obtain ⟨hg5, h⟩ := grd_inv h
      refine cVal tt rfl (wNone rfl) rfl rfl rfl hg5 ?_
      refine cVal tt rfl (wNone rfl) rfl rfl rfl trivial ?_
      refine cPure (wNone rfl) (pEqP eqP_impl_Bar rfl rfl rfl) rfl rfl ?_
      refine cNil ?_
      change VC _ _ _ _
      refine vCond rfl (fun hb6 => ?_) (fun hb6 => ?_)
      · replace h := cnd_t hb6 h
        refine vSeq ?_
        refine vRegion ?_
        refine oVal tt rfl rfl rfl rfl rfl trivial ?_
        refine vNil ?_
        change VC _ _ _ _
        refine vRet ?_
        change ∃ _, _
        cases h
        exact ⟨[], _, rfl, trivial, rfl, (.eq rfl), rfl⟩
      · replace h := cnd_f hb6 h
        refine vSkip ?_
        change VC _ _ _ _
        refine vRegion ?_
        refine oVal tt rfl rfl rfl rfl rfl trivial ?_
        obtain ⟨hg7, h⟩ := grd_inv h
        refine oVal tt rfl rfl rfl rfl rfl hg7 ?_
        refine oVal tt rfl rfl rfl rfl rfl trivial ?_
        refine vNil ?_
        change ∃ _, _
        exact ⟨(i4 + (1 : Int)), (En.of ⟨rfl, rfl, trivial⟩ trivial ⟨rfl, trivial⟩), h⟩
    · replace h := cnd_f hb2 h
      refine vExit ?_
      change ∃ _, _
      exact ⟨(), (En.of ⟨rfl, trivial⟩ trivial ⟨rfl, trivial⟩), h⟩
end Go.Proofs.Ytgindcgphnbnaaa

namespace Go.Proofs.Ytgindcgphnbnaaa
open Go.RowKit
set_option linter.unusedVariables false
set_option linter.unusedSimpArgs false
def L_toBar (N : Nat) (a_0 : Int × Int) : Option (Int × Int) :=
  some (a_0.1, a_0.2)
set_option maxRecDepth 20000 in
set_option maxHeartbeats 1600000 in
theorem L_toBar_w (N : Nat) (a_0 : Int × Int) (r : Int × Int) (h : L_toBar N a_0 = some r) : PCall Try.prog 154 [.agg [.int a_0.1, .int a_0.2]] [] (.agg [.int r.1, .int r.2]) := by
  unfold L_toBar at h
  refine pcall_intro (TT := TT) tt Try.func154 rfl rfl Try.ntmps154 (congrArg Array.toList Try.results154) rfl rfl fun w0 => ?_
  refine vSeq ?_
  refine vRegion ?_
  refine oBox rfl rfl rfl rfl rfl rfl rfl rfl rfl ?_
  refine oAlloc tt rfl rfl rfl rfl rfl rfl rfl rfl rfl ?_
  refine vNil ?_
  change VC _ _ _ _
  refine vSeq ?_
  refine vRegion ?_
  refine oAlloc tt rfl rfl rfl rfl rfl rfl rfl rfl rfl ?_
  refine vNil ?_
  change VC _ _ _ _
  refine vSeq ?_
  refine vRegion ?_
  iterate 3 refine oVal tt rfl rfl rfl rfl rfl trivial ?_
  refine oStore tt rfl rfl rfl rfl rfl rfl rfl rfl rfl rfl rfl ⟨trivial, trivial⟩ ?_
  refine vNil ?_
  change VC _ _ _ _
  refine vSeq ?_
  refine vRegion ?_
  iterate 3 refine oVal tt rfl rfl rfl rfl rfl trivial ?_
  refine oStore tt rfl rfl rfl rfl rfl rfl rfl rfl rfl rfl rfl ⟨trivial, trivial⟩ ?_
  refine vNil ?_
  change VC _ _ _ _
  refine vSeq ?_
  refine vRegion ?_
  refine oVal tt rfl rfl rfl rfl rfl trivial ?_
  refine oStore tt rfl rfl rfl rfl rfl rfl rfl rfl rfl rfl rfl ⟨trivial, trivial, trivial⟩ ?_
  refine vNil ?_
  change VC _ _ _ _
  refine vRet ?_
  change ∃ _, _
  cases h
  exact ⟨[], _, rfl, trivial, rfl, (.eq rfl), rfl⟩
def L_toBarS_l1 (N : Nat) (a_0 : List (Int × Int)) (k : (List (Int × Int)) → Option (List (Int × Int))) : Nat → ((List (Int × Int)) × Int) → Option (List (Int × Int))
  | 0, _ => none
  | n + 1, (l9, i10) =>
    cnd (decide (i10 < (a_0.length : Int))) (
      grd (0 ≤ i10 ∧ i10 < (a_0.length : Int)) <|
      (L_toBar N (a_0.getD ((i10).toNat) (0, 0))).bind fun v12 =>
      grd (0 ≤ i10 ∧ i10 < ((List.replicate (((a_0.length : Int)).toNat) ((0, 0) : Int × Int)).length : Int)) <|
      grd (0 ≤ i10 ∧ i10 < (l9.length : Int)) <|
      grd (Rg64 (i10 + (1 : Int))) <|
      L_toBarS_l1 N a_0 k n (((l9.set ((i10).toNat) (v12.1, (l9.getD ((i10).toNat) (0, 0)).2)).set ((i10).toNat) (((l9.set ((i10).toNat) (v12.1, (l9.getD ((i10).toNat) (0, 0)).2)).getD ((i10).toNat) (0, 0)).1, v12.2)), (i10 + (1 : Int)))) (
      k l9)
def L_toBarS (N : Nat) (a_0 : List (Int × Int)) : Option (List (Int × Int)) :=
  grd (0 ≤ (a_0.length : Int) ∧ (a_0.length : Int) ≤ 4294967296) <|
  L_toBarS_l1 N a_0 (fun (l6 : List (Int × Int)) =>
        grd ((List.replicate (((a_0.length : Int)).toNat) ((0, 0) : Int × Int)).length = l6.length) <|
        some l6) N ((List.replicate (((a_0.length : Int)).toNat) ((0, 0) : Int × Int)), (0 : Int))
set_option maxRecDepth 20000 in
set_option maxHeartbeats 1600000 in
theorem L_toBarS_w (N : Nat) (a_0 : List (Int × Int)) (r : List (Int × Int)) (h : L_toBarS N a_0 = some r) : PCall Try.prog 126 [.ro false (.pairs a_0)] [(133, .pairs r)] (.row 0 0 r.length) := by
  unfold L_toBarS at h
  refine pcall_intro (TT := TT) tt Try.func126 rfl rfl Try.ntmps126 (congrArg Array.toList Try.results126) rfl rfl fun w0 => ?_
  refine vSeq ?_
  refine vRegion ?_
  refine oVal tt rfl rfl rfl rfl rfl trivial ?_
  refine vNil ?_
  change VC _ _ _ _
  refine vSeq ?_
  refine vRegion ?_
  iterate 2 refine oVal tt rfl rfl rfl rfl rfl trivial ?_
  obtain ⟨hg1, h⟩ := grd_inv h
  refine oMake tt rfl rfl rfl rfl rfl rfl rfl rfl rfl rfl rfl hg1 ?_
  refine oVal tt rfl rfl rfl rfl rfl trivial ?_
  refine vNil ?_
  change VC _ _ _ _
  iterate 2 refine vSeq ?_
  refine vRegion ?_
  refine oVal tt rfl rfl rfl rfl rfl trivial ?_
  refine vNil ?_
  change VC _ _ _ _
  refine vJoin (F := fun k => L_toBarS_l1 N a_0 k) h (α := List (Int × Int)) (J := fun (l6 : List (Int × Int)) => (⟨[(3, .row 7 0 ((List.replicate (((a_0.length : Int)).toNat) ((0, 0) : Int × Int)).length))], [(7, some (133, .pairs l6))], []⟩ : PS)) ?_ ?_
  · rintro l6 h
    show VC _ _ _ (⟨[(3, .row 7 0 ((List.replicate (((a_0.length : Int)).toNat) ((0, 0) : Int × Int)).length))], [(7, some (133, .pairs l6))], []⟩ : PS)
    refine vSeq ?_
    refine vRegion ?_
    iterate 2 refine oVal tt rfl rfl rfl rfl rfl trivial ?_
    refine vNil ?_
    change VC _ _ _ _
    obtain ⟨hg2, h⟩ := grd_inv h
    refine vRet ?_
    change ∃ _, _
    cases h
    exact ⟨[7], _, rfl, ⟨rfl, trivial⟩, rfl, (.eq (by simp only [hg2]; rfl)), rfl⟩
  · intro k h
    refine vBlock ?_
    refine vLoopS (α := (List (Int × Int)) × Int) (fun | (l9, i10) => (⟨[(0, .ro false (.pairs a_0)), (3, .row 7 0 ((List.replicate (((a_0.length : Int)).toNat) ((0, 0) : Int × Int)).length)), (4, .int i10)], [(7, some (133, .pairs l9))], []⟩ : PS)) (L_toBarS_l1 N a_0 k) h (En.of ⟨rfl, rfl, rfl, trivial⟩ ⟨rfl, trivial⟩ trivial) (fun _ => rfl) ?_
    rintro n ⟨l9, i10⟩ h
    rw [L_toBarS_l1] at h
    show VC _ _ _ (⟨[(0, .ro false (.pairs a_0)), (3, .row 7 0 ((List.replicate (((a_0.length : Int)).toNat) ((0, 0) : Int × Int)).length)), (4, .int i10)], [(7, some (133, .pairs l9))], []⟩ : PS)
    iterate 2 refine vSeq ?_
    refine vRegion ?_
    iterate 4 refine oVal tt rfl rfl rfl rfl rfl trivial ?_
    refine vNil ?_
    change VC _ _ _ _
    refine vCond rfl (fun hb3 => ?_) (fun hb3 => ?_)
    · replace h := cnd_t hb3 h
      refine vSkip ?_
      change VC _ _ _ _
      refine vSeq ?_
      refine vBlock ?_
      refine vRegion ?_
      iterate 4 refine oVal tt rfl rfl rfl rfl rfl trivial ?_
      obtain ⟨hg4, h⟩ := grd_inv h
      refine oVal tt rfl rfl rfl rfl rfl hg4 ?_
      refine oVal tt rfl rfl rfl rfl rfl trivial ?_
      obtain ⟨v12, hc5, h⟩ := bind_inv h
      refine oCall (L_toBar_w N (a_0.getD ((i10).toNat) (0, 0)) v12 hc5) rfl rfl rfl rfl rfl rfl rfl rfl ⟨⟨rfl, rfl, trivial⟩, trivial⟩ ?_
      obtain ⟨hg6, h⟩ := grd_inv h
      refine oVal tt rfl rfl rfl rfl rfl hg6 ?_
      obtain ⟨hg7, h⟩ := grd_inv h
      refine oStore tt rfl rfl rfl rfl rfl rfl rfl rfl rfl rfl ⟨_, _, rfl, hg7.1, hg7.2⟩ ⟨hg7, (by simpa [Sq.len] using hg7), trivial⟩ ?_
      refine vNil ?_
      change VC _ _ _ _
      refine vRegion ?_
      refine oVal tt rfl rfl rfl rfl rfl trivial ?_
      obtain ⟨hg8, h⟩ := grd_inv h
      refine oVal tt rfl rfl rfl rfl rfl hg8 ?_
      refine oVal tt rfl rfl rfl rfl rfl trivial ?_
      refine vNil ?_
      change ∃ _, _
      exact ⟨(((l9.set ((i10).toNat) (v12.1, (l9.getD ((i10).toNat) (0, 0)).2)).set ((i10).toNat) (((l9.set ((i10).toNat) (v12.1, (l9.getD ((i10).toNat) (0, 0)).2)).getD ((i10).toNat) (0, 0)).1, v12.2)), (i10 + (1 : Int))), (En.of ⟨rfl, rfl, rfl, trivial⟩ ⟨rfl, trivial⟩ trivial), h⟩
    · replace h := cnd_f hb3 h
      refine vExit ?_
      change ∃ _, _
      exact ⟨l9, (En.of ⟨rfl, trivial⟩ ⟨rfl, trivial⟩ trivial), h⟩
def L_toGraph (N : Nat) (a_0 : Grf) : Option (Grf) :=
  (L_toBarS N a_0.bars).bind fun v1 =>
  some (⟨a_0.n, v1⟩ : Grf)
set_option maxRecDepth 20000 in
set_option maxHeartbeats 1600000 in
theorem L_toGraph_w (N : Nat) (a_0 : Grf) (r : Grf) (h : L_toGraph N a_0 = some r) : PCall Try.prog 75 [gD a_0] [(133, .pairs r.bars)] (.agg [.int r.n, .row 0 0 r.bars.length]) := by
  unfold L_toGraph at h
  refine pcall_intro (TT := TT) tt Try.func75 rfl rfl Try.ntmps75 (congrArg Array.toList Try.results75) rfl rfl fun w0 => ?_
  refine vSeq ?_
  refine vRegion ?_
  refine oBox rfl rfl rfl rfl rfl rfl rfl rfl rfl ?_
  refine oAlloc tt rfl rfl rfl rfl rfl rfl rfl rfl rfl ?_
  refine vNil ?_
  change VC _ _ _ _
  refine vSeq ?_
  refine vRegion ?_
  refine oAlloc tt rfl rfl rfl rfl rfl rfl rfl rfl rfl ?_
  refine vNil ?_
  change VC _ _ _ _
  refine vSeq ?_
  refine vRegion ?_
  iterate 3 refine oVal tt rfl rfl rfl rfl rfl trivial ?_
  refine oStore tt rfl rfl rfl rfl rfl rfl rfl rfl rfl rfl rfl ⟨trivial, trivial⟩ ?_
  refine vNil ?_
  change VC _ _ _ _
  refine vSeq ?_
  refine vRegion ?_
  iterate 2 refine oVal tt rfl rfl rfl rfl rfl trivial ?_
  obtain ⟨v1, hc1, h⟩ := bind_inv h
  refine oCall (L_toBarS_w N a_0.bars v1 hc1) rfl rfl rfl rfl rfl rfl rfl rfl ⟨rfl, trivial⟩ ?_
  refine oVal tt rfl rfl rfl rfl rfl trivial ?_
  refine oStore tt rfl rfl rfl rfl rfl rfl rfl rfl rfl rfl rfl ⟨trivial, trivial⟩ ?_
  refine vNil ?_
  change VC _ _ _ _
  refine vSeq ?_
  refine vRegion ?_
  refine oVal tt rfl rfl rfl rfl rfl trivial ?_
  refine oStore tt rfl rfl rfl rfl rfl rfl rfl rfl rfl rfl rfl ⟨trivial, trivial, trivial⟩ ?_
  refine vNil ?_
  change VC _ _ _ _
  refine vRet ?_
  change ∃ _, _
  cases h
  exact ⟨[1090], _, rfl, ⟨rfl, trivial⟩, rfl, (.eq rfl), rfl⟩
def M_Graph_has (N : Nat) (g_0 : Grf) (v_1 : Int) : Option (Bool) :=
  (I_within N v_1 (0 : Int) (w64 (g_0.n - (1 : Int)))).bind fun v1 =>
  some v1
set_option maxRecDepth 20000 in
set_option maxHeartbeats 1600000 in
theorem M_Graph_has_w (N : Nat) (g_0 : Grf) (v_1 : Int) (r : Bool) (h : M_Graph_has N g_0 v_1 = some r) : PCall Try.prog 129 [gD g_0, .int v_1] [] (.bool r) := by
  unfold M_Graph_has at h
  refine pcall_intro (TT := TT) tt Try.func129 rfl rfl Try.ntmps129 (congrArg Array.toList Try.results129) rfl rfl fun w0 => ?_
  refine vSeq ?_
  refine vRegion ?_
  refine oBox rfl rfl rfl rfl rfl rfl rfl rfl rfl ?_
  refine oVal tt rfl rfl rfl rfl rfl trivial ?_
  refine vNil ?_
  change VC _ _ _ _
  refine vSeq ?_
  refine vRegion ?_
  iterate 3 refine oVal tt rfl rfl rfl rfl rfl trivial ?_
  refine oPure (wNone rfl) (pSubW rfl rfl rfl) rfl rfl ?_
  obtain ⟨v1, hc1, h⟩ := bind_inv h
  refine oCall (I_within_w N v_1 (0 : Int) (w64 (g_0.n - (1 : Int))) v1 hc1) rfl rfl rfl rfl rfl rfl rfl rfl ⟨rfl, rfl, rfl, trivial⟩ ?_
  refine oVal tt rfl rfl rfl rfl rfl trivial ?_
  refine vNil ?_
  change VC _ _ _ _
  refine vRet ?_
  change ∃ _, _
  cases h
  exact ⟨[], _, rfl, trivial, rfl, (.eq rfl), rfl⟩
def I_compareInts (N : Nat) (a_0 : Int) (b_1 : Int) : Option (Int) :=
  cnd (decide (a_0 < b_1)) (
    some (-1 : Int)) (
    cnd (decide (a_0 > b_1)) (
      some (1 : Int)) (
      some (0 : Int)))
set_option maxRecDepth 20000 in
set_option maxHeartbeats 1600000 in
theorem I_compareInts_w (N : Nat) (a_0 : Int) (b_1 : Int) (r : Int) (h : I_compareInts N a_0 b_1 = some r) : PCall Try.prog 177 [.int a_0, .int b_1] [] (.int r) := by
  unfold I_compareInts at h
  refine pcall_intro (TT := TT) tt Try.func177 rfl rfl Try.ntmps177 (congrArg Array.toList Try.results177) rfl rfl fun w0 => ?_
  refine vSeq ?_
  refine vRegion ?_
  refine oVal tt rfl rfl rfl rfl rfl trivial ?_
  refine vNil ?_
  change VC _ _ _ _
  refine vSeq ?_
  refine vBlock ?_
  refine vSeq ?_
  refine vRegion ?_
  iterate 4 refine oVal tt rfl rfl rfl rfl rfl trivial ?_
  refine vNil ?_
  change VC _ _ _ _
  refine vCond rfl (fun hb1 => ?_) (fun hb1 => ?_)
  · replace h := cnd_t hb1 h
    refine vSeq ?_
    refine vRegion ?_
    refine oVal tt rfl rfl rfl rfl rfl trivial ?_
    refine vNil ?_
    change VC _ _ _ _
    refine vRet ?_
    change ∃ _, _
    cases h
    exact ⟨[], _, rfl, trivial, rfl, (.eq rfl), rfl⟩
  · replace h := cnd_f hb1 h
    refine vSeq ?_
    refine vRegion ?_
    iterate 4 refine oVal tt rfl rfl rfl rfl rfl trivial ?_
    refine vNil ?_
    change VC _ _ _ _
    refine vCond rfl (fun hb2 => ?_) (fun hb2 => ?_)
    · replace h := cnd_t hb2 h
      refine vSeq ?_
      refine vRegion ?_
      refine oVal tt rfl rfl rfl rfl rfl trivial ?_
      refine vNil ?_
      change VC _ _ _ _
      refine vRet ?_
      change ∃ _, _
      cases h
      exact ⟨[], _, rfl, trivial, rfl, (.eq rfl), rfl⟩
    · replace h := cnd_f hb2 h
      refine vSkip ?_
      change VC _ _ _ _
      refine vSeq ?_
      refine vRegion ?_
      refine oVal tt rfl rfl rfl rfl rfl trivial ?_
      refine vNil ?_
      change VC _ _ _ _
      refine vRet ?_
      change ∃ _, _
      cases h
      exact ⟨[], _, rfl, trivial, rfl, (.eq rfl), rfl⟩
def I_compareBars (N : Nat) (x_0 : Int × Int) (y_1 : Int × Int) : Option (Int) :=
  (I_compareInts N x_0.1 y_1.1).bind fun v1 =>
  cnd (v1 != (0 : Int)) (
    some v1) (
    (I_compareInts N x_0.2 y_1.2).bind fun v2 =>
    some v2)
set_option maxRecDepth 20000 in
set_option maxHeartbeats 1600000 in
theorem I_compareBars_w (N : Nat) (x_0 : Int × Int) (y_1 : Int × Int) (r : Int) (h : I_compareBars N x_0 y_1 = some r) : PCall Try.prog 155 [.agg [.int x_0.1, .int x_0.2], .agg [.int y_1.1, .int y_1.2]] [] (.int r) := by
  unfold I_compareBars at h
  refine pcall_intro (TT := TT) tt Try.func155 rfl rfl Try.ntmps155 (congrArg Array.toList Try.results155) rfl rfl fun w0 => ?_
  refine vSeq ?_
  refine vRegion ?_
  iterate 2 refine oBox rfl rfl rfl rfl rfl rfl rfl rfl rfl ?_
  refine oVal tt rfl rfl rfl rfl rfl trivial ?_
  refine vNil ?_
  change VC _ _ _ _
  iterate 2 refine vSeq ?_
  refine vRegion ?_
  iterate 4 refine oVal tt rfl rfl rfl rfl rfl trivial ?_
  obtain ⟨v1, hc1, h⟩ := bind_inv h
  refine oCall (I_compareInts_w N x_0.1 y_1.1 v1 hc1) rfl rfl rfl rfl rfl rfl rfl rfl ⟨rfl, rfl, trivial⟩ ?_
  refine oVal tt rfl rfl rfl rfl rfl trivial ?_
  refine vNil ?_
  change VC _ _ _ _
  refine vSeq ?_
  refine vRegion ?_
  iterate 2 refine oVal tt rfl rfl rfl rfl rfl trivial ?_
  refine vNil ?_
  change VC _ _ _ _
  refine vCond rfl (fun hb2 => ?_) (fun hb2 => ?_)
  · replace h := cnd_t hb2 h
    refine vSeq ?_
    refine vRegion ?_
    iterate 2 refine oVal tt rfl rfl rfl rfl rfl trivial ?_
    refine vNil ?_
    change VC _ _ _ _
    refine vRet ?_
    change ∃ _, _
    cases h
    exact ⟨[], _, rfl, trivial, rfl, (.eq rfl), rfl⟩
  · replace h := cnd_f hb2 h
    refine vSkip ?_
    change VC _ _ _ _
    refine vSeq ?_
    refine vRegion ?_
    iterate 4 refine oVal tt rfl rfl rfl rfl rfl trivial ?_
    obtain ⟨v2, hc3, h⟩ := bind_inv h
    refine oCall (I_compareInts_w N x_0.2 y_1.2 v2 hc3) rfl rfl rfl rfl rfl rfl rfl rfl ⟨rfl, rfl, trivial⟩ ?_
    refine oVal tt rfl rfl rfl rfl rfl trivial ?_
    refine vNil ?_
    change VC _ _ _ _
    refine vRet ?_
    change ∃ _, _
    cases h
    exact ⟨[], _, rfl, trivial, rfl, (.eq rfl), rfl⟩
end Go.Proofs.Ytgindcgphnbnaaa

namespace Go.Proofs.Ytgindcgphnbnaaa
open Go.RowKit
set_option linter.unusedVariables false
set_option linter.unusedSimpArgs false
def L_eqBar (N : Nat) (a_0 : Int × Int) (b_1 : Int × Int) : Option (Bool) :=
  cnd (a_0.1 != b_1.1) (
    some false) (
    cnd (a_0.2 != b_1.2) (
      some false) (
      some true))
set_option maxRecDepth 20000 in
set_option maxHeartbeats 1600000 in
theorem L_eqBar_w (N : Nat) (a_0 : Int × Int) (b_1 : Int × Int) (r : Bool) (h : L_eqBar N a_0 b_1 = some r) : PCall Try.prog 156 [.agg [.int a_0.1, .int a_0.2], .agg [.int b_1.1, .int b_1.2]] [] (.bool r) := by
  unfold L_eqBar at h
  refine pcall_intro (TT := TT) tt Try.func156 rfl rfl Try.ntmps156 (congrArg Array.toList Try.results156) rfl rfl fun w0 => ?_
  refine vSeq ?_
  refine vRegion ?_
  iterate 2 refine oBox rfl rfl rfl rfl rfl rfl rfl rfl rfl ?_
  refine oVal tt rfl rfl rfl rfl rfl trivial ?_
  refine vNil ?_
  change VC _ _ _ _
  iterate 2 refine vSeq ?_
  refine vRegion ?_
  iterate 5 refine oVal tt rfl rfl rfl rfl rfl trivial ?_
  refine vNil ?_
  change VC _ _ _ _
  refine vCond rfl (fun hb1 => ?_) (fun hb1 => ?_)
  · replace h := cnd_t hb1 h
    refine vSeq ?_
    refine vRegion ?_
    refine oVal tt rfl rfl rfl rfl rfl trivial ?_
    refine vNil ?_
    change VC _ _ _ _
    refine vRet ?_
    change ∃ _, _
    cases h
    exact ⟨[], _, rfl, trivial, rfl, (.eq rfl), rfl⟩
  · replace h := cnd_f hb1 h
    refine vSkip ?_
    change VC _ _ _ _
    iterate 2 refine vSeq ?_
    refine vRegion ?_
    iterate 5 refine oVal tt rfl rfl rfl rfl rfl trivial ?_
    refine vNil ?_
    change VC _ _ _ _
    refine vCond rfl (fun hb2 => ?_) (fun hb2 => ?_)
    · replace h := cnd_t hb2 h
      refine vSeq ?_
      refine vRegion ?_
      refine oVal tt rfl rfl rfl rfl rfl trivial ?_
      refine vNil ?_
      change VC _ _ _ _
      refine vRet ?_
      change ∃ _, _
      cases h
      exact ⟨[], _, rfl, trivial, rfl, (.eq rfl), rfl⟩
    · replace h := cnd_f hb2 h
      refine vSkip ?_
      change VC _ _ _ _
      refine vSeq ?_
      refine vRegion ?_
      refine oVal tt rfl rfl rfl rfl rfl trivial ?_
      refine vNil ?_
      change VC _ _ _ _
      refine vRet ?_
      change ∃ _, _
      cases h
      exact ⟨[], _, rfl, trivial, rfl, (.eq rfl), rfl⟩
def L_eqBarS_l1 (N : Nat) (a_0 : List (Int × Int)) (b_1 : List (Int × Int)) (k : Unit → Option (Bool)) : Nat → Int → Option (Bool)
  | 0, _ => none
  | n + 1, i7 =>
    cnd (decide (i7 < (a_0.length : Int))) (
      grd (0 ≤ i7 ∧ i7 < (a_0.length : Int)) <|
      grd (0 ≤ i7 ∧ i7 < (b_1.length : Int)) <|
      (L_eqBar N (a_0.getD ((i7).toNat) (0, 0)) (b_1.getD ((i7).toNat) (0, 0))).bind fun v9 =>
      cnd (!v9) (
        some false) (
        grd (Rg64 (i7 + (1 : Int))) <|
        L_eqBarS_l1 N a_0 b_1 k n (i7 + (1 : Int)))) (
      k ())
def L_eqBarS (N : Nat) (a_0 : List (Int × Int)) (b_1 : List (Int × Int)) : Option (Bool) :=
  cnd ((a_0.length : Int) != (b_1.length : Int)) (
    some false) (
    L_eqBarS_l1 N a_0 b_1 (fun (_ : Unit) =>
          some true) N (0 : Int))
set_option maxRecDepth 20000 in
set_option maxHeartbeats 1600000 in
theorem L_eqBarS_w (N : Nat) (a_0 : List (Int × Int)) (b_1 : List (Int × Int)) (r : Bool) (h : L_eqBarS N a_0 b_1 = some r) : PCall Try.prog 130 [.ro false (.pairs a_0), .ro false (.pairs b_1)] [] (.bool r) := by
  unfold L_eqBarS at h
  refine pcall_intro (TT := TT) tt Try.func130 rfl rfl Try.ntmps130 (congrArg Array.toList Try.results130) rfl rfl fun w0 => ?_
  refine vSeq ?_
  refine vRegion ?_
  refine oVal tt rfl rfl rfl rfl rfl trivial ?_
  refine vNil ?_
  change VC _ _ _ _
  iterate 2 refine vSeq ?_
  refine vRegion ?_
  iterate 5 refine oVal tt rfl rfl rfl rfl rfl trivial ?_
  refine vNil ?_
  change VC _ _ _ _
  refine vCond rfl (fun hb1 => ?_) (fun hb1 => ?_)
  · replace h := cnd_t hb1 h
    refine vSeq ?_
    refine vRegion ?_
    refine oVal tt rfl rfl rfl rfl rfl trivial ?_
    refine vNil ?_
    change VC _ _ _ _
    refine vRet ?_
    change ∃ _, _
    cases h
    exact ⟨[], _, rfl, trivial, rfl, (.eq rfl), rfl⟩
  · replace h := cnd_f hb1 h
    refine vSkip ?_
    change VC _ _ _ _
    iterate 2 refine vSeq ?_
    refine vRegion ?_
    refine oVal tt rfl rfl rfl rfl rfl trivial ?_
    refine vNil ?_
    change VC _ _ _ _
    refine vJoin (F := fun k => L_eqBarS_l1 N a_0 b_1 k) h (α := Unit) (J := fun (_ : Unit) => (⟨[], [], []⟩ : PS)) ?_ ?_
    · rintro ⟨⟩ h
      show VC _ _ _ (⟨[], [], []⟩ : PS)
      refine vSeq ?_
      refine vRegion ?_
      refine oVal tt rfl rfl rfl rfl rfl trivial ?_
      refine vNil ?_
      change VC _ _ _ _
      refine vRet ?_
      change ∃ _, _
      cases h
      exact ⟨[], _, rfl, trivial, rfl, (.eq rfl), rfl⟩
    · intro k h
      refine vBlock ?_
      refine vLoopS (α := Int) (fun (i7 : Int) => (⟨[(0, .ro false (.pairs a_0)), (1, .ro false (.pairs b_1)), (5, .int i7)], [], []⟩ : PS)) (L_eqBarS_l1 N a_0 b_1 k) h (En.of ⟨rfl, rfl, rfl, trivial⟩ trivial trivial) (fun _ => rfl) ?_
      rintro n i7 h
      rw [L_eqBarS_l1] at h
      show VC _ _ _ (⟨[(0, .ro false (.pairs a_0)), (1, .ro false (.pairs b_1)), (5, .int i7)], [], []⟩ : PS)
      iterate 2 refine vSeq ?_
      refine vRegion ?_
      iterate 4 refine oVal tt rfl rfl rfl rfl rfl trivial ?_
      refine vNil ?_
      change VC _ _ _ _
      refine vCond rfl (fun hb2 => ?_) (fun hb2 => ?_)
      · replace h := cnd_t hb2 h
        refine vSkip ?_
        change VC _ _ _ _
        refine vSeq ?_
        refine vBlock ?_
        refine vSeq ?_
        refine vRegionD (by kernel_rfl) (by kernel_rfl) ?_
        iterate 2 refine cVal tt rfl (wNone rfl) rfl rfl rfl trivial ?_
        obtain ⟨hg3, h⟩ := grd_inv h
        refine cVal tt rfl (wNone rfl) rfl rfl rfl hg3 ?_
        iterate 3 refine cVal tt rfl (wNone rfl) rfl rfl rfl trivial ?_
        obtain ⟨hg4, h⟩ := grd_inv h
        refine cVal tt rfl (wNone rfl) rfl rfl rfl hg4 ?_
        refine cVal tt rfl (wNone rfl) rfl rfl rfl trivial ?_
        obtain ⟨v9, hc5, h⟩ := bind_inv h
        refine cCall (L_eqBar_w N (a_0.getD ((i7).toNat) (0, 0)) (b_1.getD ((i7).toNat) (0, 0)) v9 hc5) rfl (wNone rfl) rfl rfl rfl rfl rfl rfl ⟨⟨rfl, rfl, trivial⟩, ⟨rfl, rfl, trivial⟩, trivial⟩ ?_
        refine cVal tt rfl (wNone rfl) rfl rfl rfl trivial ?_
        refine cNil ?_
        change VC _ _ _ _
        refine vCond rfl (fun hb6 => ?_) (fun hb6 => ?_)
        · replace h := cnd_t hb6 h
          refine vSeq ?_
          refine vRegion ?_
          refine oVal tt rfl rfl rfl rfl rfl trivial ?_
          refine vNil ?_
          change VC _ _ _ _
          refine vRet ?_
          change ∃ _, _
          cases h
          exact ⟨[], _, rfl, trivial, rfl, (.eq rfl), rfl⟩
        · replace h := cnd_f hb6 h
          refine vSkip ?_
          change VC _ _ _ _
          refine vRegion ?_
          refine oVal tt rfl rfl rfl rfl rfl trivial ?_
          obtain ⟨hg7, h⟩ := grd_inv h
          refine oVal tt rfl rfl rfl rfl rfl hg7 ?_
          refine oVal tt rfl rfl rfl rfl rfl trivial ?_
          refine vNil ?_
          change ∃ _, _
          exact ⟨(i7 + (1 : Int)), (En.of ⟨rfl, rfl, rfl, trivial⟩ trivial trivial), h⟩
      · replace h := cnd_f hb2 h
        refine vExit ?_
        change ∃ _, _
        exact ⟨(), (En.of trivial trivial trivial), h⟩
def L_eqGraph (N : Nat) (a_0 : Grf) (b_1 : Grf) : Option (Bool) :=
  cnd (a_0.n != b_1.n) (
    some false) (
    (L_eqBarS N a_0.bars b_1.bars).bind fun v1 =>
    cnd (!v1) (
      some false) (
      some true))
set_option maxRecDepth 20000 in
set_option maxHeartbeats 1600000 in
theorem L_eqGraph_w (N : Nat) (a_0 : Grf) (b_1 : Grf) (r : Bool) (h : L_eqGraph N a_0 b_1 = some r) : PCall Try.prog 80 [gD a_0, gD b_1] [] (.bool r) := by
  unfold L_eqGraph at h
  refine pcall_intro (TT := TT) tt Try.func80 rfl rfl Try.ntmps80 (congrArg Array.toList Try.results80) rfl rfl fun w0 => ?_
  refine vSeq ?_
  refine vRegion ?_
  iterate 2 refine oBox rfl rfl rfl rfl rfl rfl rfl rfl rfl ?_
  refine oVal tt rfl rfl rfl rfl rfl trivial ?_
  refine vNil ?_
  change VC _ _ _ _
  iterate 2 refine vSeq ?_
  refine vRegion ?_
  iterate 5 refine oVal tt rfl rfl rfl rfl rfl trivial ?_
  refine vNil ?_
  change VC _ _ _ _
  refine vCond rfl (fun hb1 => ?_) (fun hb1 => ?_)
  · replace h := cnd_t hb1 h
    refine vSeq ?_
    refine vRegion ?_
    refine oVal tt rfl rfl rfl rfl rfl trivial ?_
    refine vNil ?_
    change VC _ _ _ _
    refine vRet ?_
    change ∃ _, _
    cases h
    exact ⟨[], _, rfl, trivial, rfl, (.eq rfl), rfl⟩
  · replace h := cnd_f hb1 h
    refine vSkip ?_
    change VC _ _ _ _
    iterate 2 refine vSeq ?_
    refine vRegion ?_
    iterate 4 refine oVal tt rfl rfl rfl rfl rfl trivial ?_
    obtain ⟨v1, hc2, h⟩ := bind_inv h
    refine oCall (L_eqBarS_w N a_0.bars b_1.bars v1 hc2) rfl rfl rfl rfl rfl rfl rfl rfl ⟨rfl, rfl, trivial⟩ ?_
    refine oVal tt rfl rfl rfl rfl rfl trivial ?_
    refine vNil ?_
    change VC _ _ _ _
    refine vCond rfl (fun hb3 => ?_) (fun hb3 => ?_)
    · replace h := cnd_t hb3 h
      refine vSeq ?_
      refine vRegion ?_
      refine oVal tt rfl rfl rfl rfl rfl trivial ?_
      refine vNil ?_
      change VC _ _ _ _
      refine vRet ?_
      change ∃ _, _
      cases h
      exact ⟨[], _, rfl, trivial, rfl, (.eq rfl), rfl⟩
    · replace h := cnd_f hb3 h
      refine vSkip ?_
      change VC _ _ _ _
      refine vSeq ?_
      refine vRegion ?_
      refine oVal tt rfl rfl rfl rfl rfl trivial ?_
      refine vNil ?_
      change VC _ _ _ _
      refine vRet ?_
      change ∃ _, _
      cases h
      exact ⟨[], _, rfl, trivial, rfl, (.eq rfl), rfl⟩
end Go.Proofs.Ytgindcgphnbnaaa

namespace Go.Proofs.Ytgindcgphnbnaaa
open Go.RowKit
set_option linter.unusedVariables false
set_option linter.unusedSimpArgs false
end Go.Proofs.Ytgindcgphnbnaaa

namespace Go.Proofs.Ytgindcgphnbnaaa
open Go.RowKit
set_option linter.unusedVariables false
set_option linter.unusedSimpArgs false
def I_IsGraph_l1 (N : Nat) (g_0 : Grf) (k : Unit → Option (Bool)) : Nat → Int → Option (Bool)
  | 0, _ => none
  | n + 1, x8 =>
    cnd (decide (x8 < (g_0.bars.length : Int))) (
      grd (0 ≤ x8 ∧ x8 < (g_0.bars.length : Int)) <|
      cnd (decide (((g_0.bars.getD ((x8).toNat) (0, 0)).1) < (0 : Int))) (
        some false) (
        cnd (decide (((g_0.bars.getD ((x8).toNat) (0, 0)).1) ≥ ((g_0.bars.getD ((x8).toNat) (0, 0)).2))) (
          some false) (
          cnd (decide (((g_0.bars.getD ((x8).toNat) (0, 0)).2) ≥ g_0.n)) (
            some false) (
            cnd (decide (x8 > (0 : Int))) (
              grd (Rg64 (x8 - (1 : Int))) <|
              grd (0 ≤ (x8 - (1 : Int)) ∧ (x8 - (1 : Int)) < (g_0.bars.length : Int)) <|
              (I_compareBars N (g_0.bars.getD (((x8 - (1 : Int))).toNat) (0, 0)) (g_0.bars.getD ((x8).toNat) (0, 0))).bind fun v10 =>
              cnd (decide (v10 > (0 : Int))) (
                some false) (
                grd (Rg64 (x8 + (1 : Int))) <|
                I_IsGraph_l1 N g_0 k n (x8 + (1 : Int)))) (
              grd (Rg64 (x8 + (1 : Int))) <|
              I_IsGraph_l1 N g_0 k n (x8 + (1 : Int))))))) (
      k ())
def I_IsGraph (N : Nat) (g_0 : Grf) : Option (Bool) :=
  (I_within N g_0.n (1 : Int) (8 : Int)).bind fun v1 =>
  cnd (!v1) (
    some false) (
    cnd (decide ((g_0.bars.length : Int) > (24 : Int))) (
      some false) (
      I_IsGraph_l1 N g_0 (fun (_ : Unit) =>
            some true) N (0 : Int)))
set_option maxRecDepth 20000 in
set_option maxHeartbeats 1600000 in
theorem I_IsGraph_w (N : Nat) (g_0 : Grf) (r : Bool) (h : I_IsGraph N g_0 = some r) : PCall Try.prog 127 [gD g_0] [] (.bool r) := by
  unfold I_IsGraph at h
  refine pcall_intro (TT := TT) tt Try.func127 rfl rfl Try.ntmps127 (congrArg Array.toList Try.results127) rfl rfl fun w0 => ?_
  refine vSeq ?_
  refine vRegion ?_
  refine oBox rfl rfl rfl rfl rfl rfl rfl rfl rfl ?_
  refine oVal tt rfl rfl rfl rfl rfl trivial ?_
  refine vNil ?_
  change VC _ _ _ _
  iterate 2 refine vSeq ?_
  refine vRegion ?_
  iterate 2 refine oVal tt rfl rfl rfl rfl rfl trivial ?_
  obtain ⟨v1, hc1, h⟩ := bind_inv h
  refine oCall (I_within_w N g_0.n (1 : Int) (8 : Int) v1 hc1) rfl rfl rfl rfl rfl rfl rfl rfl ⟨rfl, rfl, rfl, trivial⟩ ?_
  iterate 2 refine oVal tt rfl rfl rfl rfl rfl trivial ?_
  refine oSplit rfl rfl rfl (fun hb2 => ?_) (fun hb2 => ?_)
  · replace h := cnd_t hb2 h
    iterate 4 refine oNoF rfl rfl rfl rfl hb2 rfl rfl ?_
    refine oPick rfl rfl rfl rfl rfl hb2 rfl ?_
    refine vNil ?_
    change VC _ _ _ _
    refine vCondT rfl rfl ?_
    refine vSeq ?_
    refine vRegion ?_
    refine oVal tt rfl rfl rfl rfl rfl trivial ?_
    refine vNil ?_
    change VC _ _ _ _
    refine vRet ?_
    change ∃ _, _
    cases h
    exact ⟨[], _, rfl, trivial, rfl, (.eq rfl), rfl⟩
  · replace h := cnd_f hb2 h
    iterate 4 refine oValG tt rfl rfl rfl rfl rfl hb2 rfl rfl rfl trivial ?_
    refine oPickF rfl rfl rfl rfl rfl hb2 rfl ?_
    refine vNil ?_
    change VC _ _ _ _
    refine vCond rfl (fun hb3 => ?_) (fun hb3 => ?_)
    · replace h := cnd_t hb3 h
      refine vSeq ?_
      refine vRegion ?_
      refine oVal tt rfl rfl rfl rfl rfl trivial ?_
      refine vNil ?_
      change VC _ _ _ _
      refine vRet ?_
      change ∃ _, _
      cases h
      exact ⟨[], _, rfl, trivial, rfl, (.eq rfl), rfl⟩
    · replace h := cnd_f hb3 h
      refine vSkip ?_
      change VC _ _ _ _
      iterate 2 refine vSeq ?_
      refine vRegion ?_
      iterate 4 refine oVal tt rfl rfl rfl rfl rfl trivial ?_
      refine vNil ?_
      change VC _ _ _ _
      refine vJoin (F := fun k => I_IsGraph_l1 N g_0 k) h (α := Unit) (J := fun (_ : Unit) => (⟨[], [], []⟩ : PS)) ?_ ?_
      · rintro ⟨⟩ h
        show VC _ _ _ (⟨[], [], []⟩ : PS)
        refine vSeq ?_
        refine vRegion ?_
        refine oVal tt rfl rfl rfl rfl rfl trivial ?_
        refine vNil ?_
        change VC _ _ _ _
        refine vRet ?_
        change ∃ _, _
        cases h
        exact ⟨[], _, rfl, trivial, rfl, (.eq rfl), rfl⟩
      · intro k h
        refine vBlock ?_
        refine vLoopS (α := Int) (fun (x8 : Int) => (⟨[(1, .ptr 1 0), (16, .ro false (.pairs g_0.bars)), (17, .int (g_0.bars.length : Int)), (18, .int x8)], [], [(1, some [.int g_0.n, .ro false (.pairs g_0.bars)])]⟩ : PS)) (I_IsGraph_l1 N g_0 k) h (En.of ⟨rfl, rfl, rfl, rfl, trivial⟩ trivial ⟨rfl, trivial⟩) (fun _ => rfl) ?_
        rintro n x8 h
        rw [I_IsGraph_l1] at h
        show VC _ _ _ (⟨[(1, .ptr 1 0), (16, .ro false (.pairs g_0.bars)), (17, .int (g_0.bars.length : Int)), (18, .int x8)], [], [(1, some [.int g_0.n, .ro false (.pairs g_0.bars)])]⟩ : PS)
        refine vSeq ?_
        refine vRegion ?_
        refine oVal tt rfl rfl rfl rfl rfl trivial ?_
        refine vNil ?_
        change VC _ _ _ _
        refine vSeq ?_
        refine vCond rfl (fun hb4 => ?_) (fun hb4 => ?_)
        · replace h := cnd_t hb4 h
          refine vSkip ?_
          change VC _ _ _ _
          refine vSeq ?_
          refine vBlock ?_
          refine vSeq ?_
          refine vRegion ?_
          refine oVal tt rfl rfl rfl rfl rfl trivial ?_
          obtain ⟨hg5, h⟩ := grd_inv h
          refine oVal tt rfl rfl rfl rfl rfl hg5 ?_
          refine oVal tt rfl rfl rfl rfl rfl trivial ?_
          refine oAlloc tt rfl rfl rfl rfl rfl rfl rfl rfl rfl ?_
          refine oVal tt rfl rfl rfl rfl rfl trivial ?_
          refine oStore tt rfl rfl rfl rfl rfl rfl rfl rfl rfl rfl rfl ⟨trivial, trivial, trivial⟩ ?_
          refine vNil ?_
          change VC _ _ _ _
          refine vSeq ?_
          refine vRegionD (by kernel_rfl) (by kernel_rfl) ?_
          iterate 4 refine cVal tt rfl (wNone rfl) rfl rfl rfl trivial ?_
          refine cSplit rfl rfl rfl (fun hb6 => ?_) (fun hb6 => ?_)
          · replace h := cnd_t hb6 h
            iterate 5 refine cNoF rfl rfl rfl rfl hb6 rfl rfl ?_
            refine cPickT rfl (wNone rfl) rfl rfl rfl hb6 rfl ?_
            refine cVal tt rfl (wNone rfl) rfl rfl rfl trivial ?_
            iterate 5 refine cNoF rfl rfl rfl rfl rfl rfl rfl ?_
            refine cPickT rfl (wNone rfl) rfl rfl rfl rfl rfl ?_
            refine cVal tt rfl (wNone rfl) rfl rfl rfl trivial ?_
            iterate 3 refine cNoF rfl rfl rfl rfl rfl rfl rfl ?_
            iterate 9 refine cNoU rfl rfl rfl rfl rfl ?_
            refine cNoF rfl rfl rfl rfl rfl rfl rfl ?_
            refine cPickT rfl (wNone rfl) rfl rfl rfl rfl rfl ?_
            refine cNil ?_
            change VC _ _ _ _
            refine vCondT rfl rfl ?_
            refine vSeq ?_
            refine vRegion ?_
            refine oVal tt rfl rfl rfl rfl rfl trivial ?_
            refine vNil ?_
            change VC _ _ _ _
            refine vRet ?_
            change ∃ _, _
            cases h
            exact ⟨[], _, rfl, trivial, rfl, (.eq rfl), rfl⟩
          · replace h := cnd_f hb6 h
            iterate 5 refine cVal tt rfl (wSome rfl rfl rfl rfl hb6) rfl rfl rfl trivial ?_
            refine cPickF rfl (wNone rfl) rfl rfl rfl hb6 rfl ?_
            refine cVal tt rfl (wNone rfl) rfl rfl rfl trivial ?_
            refine cSplit rfl rfl rfl (fun hb7 => ?_) (fun hb7 => ?_)
            · replace h := cnd_t hb7 h
              iterate 5 refine cNoF rfl rfl rfl rfl hb7 rfl rfl ?_
              refine cPickT rfl (wNone rfl) rfl rfl rfl hb7 rfl ?_
              refine cVal tt rfl (wNone rfl) rfl rfl rfl trivial ?_
              iterate 3 refine cNoF rfl rfl rfl rfl rfl rfl rfl ?_
              iterate 9 refine cNoU rfl rfl rfl rfl rfl ?_
              refine cNoF rfl rfl rfl rfl rfl rfl rfl ?_
              refine cPickT rfl (wNone rfl) rfl rfl rfl rfl rfl ?_
              refine cNil ?_
              change VC _ _ _ _
              refine vCondT rfl rfl ?_
              refine vSeq ?_
              refine vRegion ?_
              refine oVal tt rfl rfl rfl rfl rfl trivial ?_
              refine vNil ?_
              change VC _ _ _ _
              refine vRet ?_
              change ∃ _, _
              cases h
              exact ⟨[], _, rfl, trivial, rfl, (.eq rfl), rfl⟩
            · replace h := cnd_f hb7 h
              iterate 5 refine cVal tt rfl (wSome rfl rfl rfl rfl hb7) rfl rfl rfl trivial ?_
              refine cPickF rfl (wNone rfl) rfl rfl rfl hb7 rfl ?_
              refine cVal tt rfl (wNone rfl) rfl rfl rfl trivial ?_
              refine cSplit rfl rfl rfl (fun hb8 => ?_) (fun hb8 => ?_)
              · replace h := cnd_t hb8 h
                iterate 3 refine cNoF rfl rfl rfl rfl hb8 rfl rfl ?_
                iterate 9 refine cNoU rfl rfl rfl rfl rfl ?_
                refine cNoF rfl rfl rfl rfl hb8 rfl rfl ?_
                refine cPickT rfl (wNone rfl) rfl rfl rfl hb8 rfl ?_
                refine cNil ?_
                change VC _ _ _ _
                refine vCondT rfl rfl ?_
                refine vSeq ?_
                refine vRegion ?_
                refine oVal tt rfl rfl rfl rfl rfl trivial ?_
                refine vNil ?_
                change VC _ _ _ _
                refine vRet ?_
                change ∃ _, _
                cases h
                exact ⟨[], _, rfl, trivial, rfl, (.eq rfl), rfl⟩
              · replace h := cnd_f hb8 h
                iterate 3 refine cVal tt rfl (wSome rfl rfl rfl rfl hb8) rfl rfl rfl trivial ?_
                refine cSplit rfl rfl rfl (fun hb9 => ?_) (fun hb9 => ?_)
                · replace h := cnd_t hb9 h
                  iterate 3 refine cVal tt rfl (wSome rfl rfl rfl rfl hb9) rfl rfl rfl trivial ?_
                  obtain ⟨hg10, h⟩ := grd_inv h
                  refine cVal tt rfl (wSome rfl rfl rfl rfl hb9) rfl rfl rfl hg10 ?_
                  obtain ⟨hg11, h⟩ := grd_inv h
                  refine cVal tt rfl (wSome rfl rfl rfl rfl hb9) rfl rfl rfl hg11 ?_
                  iterate 2 refine cVal tt rfl (wSome rfl rfl rfl rfl hb9) rfl rfl rfl trivial ?_
                  obtain ⟨v10, hc12, h⟩ := bind_inv h
                  refine cCall (I_compareBars_w N (g_0.bars.getD (((x8 - (1 : Int))).toNat) (0, 0)) (g_0.bars.getD ((x8).toNat) (0, 0)) v10 hc12) rfl (wSome rfl rfl rfl rfl hb9) rfl rfl rfl rfl rfl rfl ⟨⟨rfl, rfl, trivial⟩, ⟨rfl, rfl, trivial⟩, trivial⟩ ?_
                  refine cVal tt rfl (wSome rfl rfl rfl rfl hb9) rfl rfl rfl trivial ?_
                  refine cPickT rfl (wSome rfl rfl rfl rfl hb8) rfl rfl rfl hb9 rfl ?_
                  refine cPickF rfl (wNone rfl) rfl rfl rfl hb8 rfl ?_
                  refine cNil ?_
                  change VC _ _ _ _
                  refine vCond rfl (fun hb13 => ?_) (fun hb13 => ?_)
                  · replace h := cnd_t hb13 h
                    refine vSeq ?_
                    refine vRegion ?_
                    refine oVal tt rfl rfl rfl rfl rfl trivial ?_
                    refine vNil ?_
                    change VC _ _ _ _
                    refine vRet ?_
                    change ∃ _, _
                    cases h
                    exact ⟨[], _, rfl, trivial, rfl, (.eq rfl), rfl⟩
                  · replace h := cnd_f hb13 h
                    refine vSkip ?_
                    change VC _ _ _ _
                    refine vRegion ?_
                    obtain ⟨hg14, h⟩ := grd_inv h
                    refine oVal tt rfl rfl rfl rfl rfl hg14 ?_
                    refine oVal tt rfl rfl rfl rfl rfl trivial ?_
                    refine vNil ?_
                    change ∃ _, _
                    exact ⟨(x8 + (1 : Int)), (En.of ⟨rfl, rfl, rfl, rfl, trivial⟩ trivial ⟨rfl, trivial⟩), h⟩
                · replace h := cnd_f hb9 h
                  iterate 9 refine cNoT rfl rfl rfl rfl hb9 rfl rfl ?_
                  refine cPickF rfl (wSome rfl rfl rfl rfl hb8) rfl rfl rfl hb9 rfl ?_
                  refine cPickF rfl (wNone rfl) rfl rfl rfl hb8 rfl ?_
                  refine cNil ?_
                  change VC _ _ _ _
                  refine vCondF rfl rfl ?_
                  refine vSkip ?_
                  change VC _ _ _ _
                  refine vRegion ?_
                  obtain ⟨hg15, h⟩ := grd_inv h
                  refine oVal tt rfl rfl rfl rfl rfl hg15 ?_
                  refine oVal tt rfl rfl rfl rfl rfl trivial ?_
                  refine vNil ?_
                  change ∃ _, _
                  exact ⟨(x8 + (1 : Int)), (En.of ⟨rfl, rfl, rfl, rfl, trivial⟩ trivial ⟨rfl, trivial⟩), h⟩
        · replace h := cnd_f hb4 h
          refine vExit ?_
          change ∃ _, _
          exact ⟨(), (En.of trivial trivial trivial), h⟩
def I_hasDoubles_l1 (N : Nat) (g_0 : Grf) (k : Unit → Option (Bool)) : Nat → Int → Option (Bool)
  | 0, _ => none
  | n + 1, i3 =>
    cnd (decide (i3 < (g_0.bars.length : Int))) (
      grd (Rg64 (i3 - (1 : Int))) <|
      grd (0 ≤ (i3 - (1 : Int)) ∧ (i3 - (1 : Int)) < (g_0.bars.length : Int)) <|
      grd (0 ≤ i3 ∧ i3 < (g_0.bars.length : Int)) <|
      cnd (((g_0.bars.getD (((i3 - (1 : Int))).toNat) (0, 0)).1 == (g_0.bars.getD ((i3).toNat) (0, 0)).1) && ((g_0.bars.getD (((i3 - (1 : Int))).toNat) (0, 0)).2 == (g_0.bars.getD ((i3).toNat) (0, 0)).2)) (
        some true) (
        grd (Rg64 (i3 + (1 : Int))) <|
        I_hasDoubles_l1 N g_0 k n (i3 + (1 : Int)))) (
      k ())
def I_hasDoubles (N : Nat) (g_0 : Grf) : Option (Bool) :=
  I_hasDoubles_l1 N g_0 (fun (_ : Unit) =>
        some false) N (1 : Int)
set_option maxRecDepth 20000 in
set_option maxHeartbeats 1600000 in
theorem I_hasDoubles_w (N : Nat) (g_0 : Grf) (r : Bool) (h : I_hasDoubles N g_0 = some r) : PCall Try.prog 128 [gD g_0] [] (.bool r) := by
  unfold I_hasDoubles at h
  refine pcall_intro (TT := TT) tt Try.func128 rfl rfl Try.ntmps128 (congrArg Array.toList Try.results128) rfl rfl fun w0 => ?_
  refine vSeq ?_
  refine vRegion ?_
  refine oBox rfl rfl rfl rfl rfl rfl rfl rfl rfl ?_
  refine oVal tt rfl rfl rfl rfl rfl trivial ?_
  refine vNil ?_
  change VC _ _ _ _
  iterate 2 refine vSeq ?_
  refine vRegion ?_
  refine oVal tt rfl rfl rfl rfl rfl trivial ?_
  refine vNil ?_
  change VC _ _ _ _
  refine vJoin (F := fun k => I_hasDoubles_l1 N g_0 k) h (α := Unit) (J := fun (_ : Unit) => (⟨[], [], []⟩ : PS)) ?_ ?_
  · rintro ⟨⟩ h
    show VC _ _ _ (⟨[], [], []⟩ : PS)
    refine vSeq ?_
    refine vRegion ?_
    refine oVal tt rfl rfl rfl rfl rfl trivial ?_
    refine vNil ?_
    change VC _ _ _ _
    refine vRet ?_
    change ∃ _, _
    cases h
    exact ⟨[], _, rfl, trivial, rfl, (.eq rfl), rfl⟩
  · intro k h
    refine vBlock ?_
    refine vLoopS (α := Int) (fun (i3 : Int) => (⟨[(1, .ptr 1 0), (3, .int i3)], [], [(1, some [.int g_0.n, .ro false (.pairs g_0.bars)])]⟩ : PS)) (I_hasDoubles_l1 N g_0 k) h (En.of ⟨rfl, rfl, trivial⟩ trivial ⟨rfl, trivial⟩) (fun _ => rfl) ?_
    rintro n i3 h
    rw [I_hasDoubles_l1] at h
    show VC _ _ _ (⟨[(1, .ptr 1 0), (3, .int i3)], [], [(1, some [.int g_0.n, .ro false (.pairs g_0.bars)])]⟩ : PS)
    iterate 2 refine vSeq ?_
    refine vRegion ?_
    iterate 5 refine oVal tt rfl rfl rfl rfl rfl trivial ?_
    refine vNil ?_
    change VC _ _ _ _
    refine vCond rfl (fun hb1 => ?_) (fun hb1 => ?_)
    · replace h := cnd_t hb1 h
      refine vSkip ?_
      change VC _ _ _ _
      refine vSeq ?_
      refine vBlock ?_
      refine vSeq ?_
      refine vRegionD (by kernel_rfl) (by kernel_rfl) ?_
      iterate 3 refine cVal tt rfl (wNone rfl) rfl rfl rfl trivial ?_
      obtain ⟨hg2, h⟩ := grd_inv h
      refine cVal tt rfl (wNone rfl) rfl rfl rfl hg2 ?_
      obtain ⟨hg3, h⟩ := grd_inv h
      refine cVal tt rfl (wNone rfl) rfl rfl rfl hg3 ?_
      iterate 4 refine cVal tt rfl (wNone rfl) rfl rfl rfl trivial ?_
      obtain ⟨hg4, h⟩ := grd_inv h
      refine cVal tt rfl (wNone rfl) rfl rfl rfl hg4 ?_
      refine cVal tt rfl (wNone rfl) rfl rfl rfl trivial ?_
      refine cPure (wNone rfl) (pEqP eqP_impl_Bar rfl rfl rfl) rfl rfl ?_
      refine cNil ?_
      change VC _ _ _ _
      refine vCond rfl (fun hb5 => ?_) (fun hb5 => ?_)
      · replace h := cnd_t hb5 h
        refine vSeq ?_
        refine vRegion ?_
        refine oVal tt rfl rfl rfl rfl rfl trivial ?_
        refine vNil ?_
        change VC _ _ _ _
        refine vRet ?_
        change ∃ _, _
        cases h
        exact ⟨[], _, rfl, trivial, rfl, (.eq rfl), rfl⟩
      · replace h := cnd_f hb5 h
        refine vSkip ?_
        change VC _ _ _ _
        refine vRegion ?_
        refine oVal tt rfl rfl rfl rfl rfl trivial ?_
        obtain ⟨hg6, h⟩ := grd_inv h
        refine oVal tt rfl rfl rfl rfl rfl hg6 ?_
        refine oVal tt rfl rfl rfl rfl rfl trivial ?_
        refine vNil ?_
        change ∃ _, _
        exact ⟨(i3 + (1 : Int)), (En.of ⟨rfl, rfl, trivial⟩ trivial ⟨rfl, trivial⟩), h⟩
    · replace h := cnd_f hb1 h
      refine vExit ?_
      change ∃ _, _
      exact ⟨(), (En.of trivial trivial trivial), h⟩
def M_Bar_has (N : Nat) (x_0 : Int × Int) (v_1 : Int) : Option (Bool) :=
  cnd (x_0.1 == v_1) (
    some true) (
    some (x_0.2 == v_1))
set_option maxRecDepth 20000 in
set_option maxHeartbeats 1600000 in
theorem M_Bar_has_w (N : Nat) (x_0 : Int × Int) (v_1 : Int) (r : Bool) (h : M_Bar_has N x_0 v_1 = some r) : PCall Try.prog 132 [.agg [.int x_0.1, .int x_0.2], .int v_1] [] (.bool r) := by
  unfold M_Bar_has at h
  refine pcall_intro (TT := TT) tt Try.func132 rfl rfl Try.ntmps132 (congrArg Array.toList Try.results132) rfl rfl fun w0 => ?_
  refine vSeq ?_
  refine vRegion ?_
  refine oBox rfl rfl rfl rfl rfl rfl rfl rfl rfl ?_
  refine oVal tt rfl rfl rfl rfl rfl trivial ?_
  refine vNil ?_
  change VC _ _ _ _
  refine vSeq ?_
  refine vRegion ?_
  iterate 5 refine oVal tt rfl rfl rfl rfl rfl trivial ?_
  refine oSplit rfl rfl rfl (fun hb1 => ?_) (fun hb1 => ?_)
  · replace h := cnd_t hb1 h
    iterate 4 refine oNoF rfl rfl rfl rfl hb1 rfl rfl ?_
    refine oPick rfl rfl rfl rfl rfl hb1 rfl ?_
    refine oVal tt rfl rfl rfl rfl rfl trivial ?_
    refine vNil ?_
    change VC _ _ _ _
    refine vRet ?_
    change ∃ _, _
    cases h
    exact ⟨[], _, rfl, trivial, rfl, (.eq rfl), rfl⟩
  · replace h := cnd_f hb1 h
    iterate 4 refine oValG tt rfl rfl rfl rfl rfl hb1 rfl rfl rfl trivial ?_
    refine oPickF rfl rfl rfl rfl rfl hb1 rfl ?_
    refine oVal tt rfl rfl rfl rfl rfl trivial ?_
    refine vNil ?_
    change VC _ _ _ _
    refine vRet ?_
    change ∃ _, _
    cases h
    exact ⟨[], _, rfl, trivial, rfl, (.eq rfl), rfl⟩
def M_Bar_other (N : Nat) (x_0 : Int × Int) (v_1 : Int) : Option (Int) :=
  cnd (x_0.1 == v_1) (
    some x_0.2) (
    some x_0.1)
set_option maxRecDepth 20000 in
set_option maxHeartbeats 1600000 in
theorem M_Bar_other_w (N : Nat) (x_0 : Int × Int) (v_1 : Int) (r : Int) (h : M_Bar_other N x_0 v_1 = some r) : PCall Try.prog 133 [.agg [.int x_0.1, .int x_0.2], .int v_1] [] (.int r) := by
  unfold M_Bar_other at h
  refine pcall_intro (TT := TT) tt Try.func133 rfl rfl Try.ntmps133 (congrArg Array.toList Try.results133) rfl rfl fun w0 => ?_
  refine vSeq ?_
  refine vRegion ?_
  refine oBox rfl rfl rfl rfl rfl rfl rfl rfl rfl ?_
  refine oVal tt rfl rfl rfl rfl rfl trivial ?_
  refine vNil ?_
  change VC _ _ _ _
  iterate 2 refine vSeq ?_
  refine vRegion ?_
  iterate 4 refine oVal tt rfl rfl rfl rfl rfl trivial ?_
  refine vNil ?_
  change VC _ _ _ _
  refine vCond rfl (fun hb1 => ?_) (fun hb1 => ?_)
  · replace h := cnd_t hb1 h
    refine vSeq ?_
    refine vRegion ?_
    iterate 3 refine oVal tt rfl rfl rfl rfl rfl trivial ?_
    refine vNil ?_
    change VC _ _ _ _
    refine vRet ?_
    change ∃ _, _
    cases h
    exact ⟨[], _, rfl, trivial, rfl, (.eq rfl), rfl⟩
  · replace h := cnd_f hb1 h
    refine vSkip ?_
    change VC _ _ _ _
    refine vSeq ?_
    refine vRegion ?_
    iterate 3 refine oVal tt rfl rfl rfl rfl rfl trivial ?_
    refine vNil ?_
    change VC _ _ _ _
    refine vRet ?_
    change ∃ _, _
    cases h
    exact ⟨[], _, rfl, trivial, rfl, (.eq rfl), rfl⟩
end Go.Proofs.Ytgindcgphnbnaaa

namespace Go.Proofs.Ytgindcgphnbnaaa
open Go.RowKit
set_option linter.unusedVariables false
set_option linter.unusedSimpArgs false
end Go.Proofs.Ytgindcgphnbnaaa

namespace Go.Proofs.Ytgindcgphnbnaaa
open Go.RowKit
set_option linter.unusedVariables false
set_option linter.unusedSimpArgs false
end Go.Proofs.Ytgindcgphnbnaaa

namespace Go.Proofs.Ytgindcgphnbnaaa
open Go.RowKit
set_option linter.unusedVariables false
set_option linter.unusedSimpArgs false
def S_l2Has_l1 (N : Nat) (l_0 : List Int) (x_1 : Int) (k : Unit → Option (Bool)) : Nat → Int → Option (Bool)
  | 0, _ => none
  | n + 1, i3 =>
    cnd (decide (i3 < (l_0.length : Int))) (
      grd (0 ≤ i3 ∧ i3 < (l_0.length : Int)) <|
      cnd ((l_0.getD ((i3).toNat) 0) == x_1) (
        some true) (
        grd (Rg64 (i3 + (1 : Int))) <|
        S_l2Has_l1 N l_0 x_1 k n (i3 + (1 : Int)))) (
      k ())
def S_l2Has (N : Nat) (l_0 : List Int) (x_1 : Int) : Option (Bool) :=
  S_l2Has_l1 N l_0 x_1 (fun (_ : Unit) =>
        some false) N (0 : Int)
set_option maxRecDepth 20000 in
set_option maxHeartbeats 1600000 in
theorem S_l2Has_w (N : Nat) (l_0 : List Int) (x_1 : Int) (r : Bool) (h : S_l2Has N l_0 x_1 = some r) : PCall Try.prog 87 [.ro false (.ints l_0), .int x_1] [] (.bool r) := by
  unfold S_l2Has at h
  refine pcall_intro (TT := TT) tt Try.func87 rfl rfl Try.ntmps87 (congrArg Array.toList Try.results87) rfl rfl fun w0 => ?_
  refine vSeq ?_
  refine vRegion ?_
  refine oVal tt rfl rfl rfl rfl rfl trivial ?_
  refine vNil ?_
  change VC _ _ _ _
  iterate 2 refine vSeq ?_
  refine vRegion ?_
  refine oVal tt rfl rfl rfl rfl rfl trivial ?_
  refine vNil ?_
  change VC _ _ _ _
  refine vJoin (F := fun k => S_l2Has_l1 N l_0 x_1 k) h (α := Unit) (J := fun (_ : Unit) => (⟨[], [], []⟩ : PS)) ?_ ?_
  · rintro ⟨⟩ h
    show VC _ _ _ (⟨[], [], []⟩ : PS)
    refine vSeq ?_
    refine vRegion ?_
    refine oVal tt rfl rfl rfl rfl rfl trivial ?_
    refine vNil ?_
    change VC _ _ _ _
    refine vRet ?_
    change ∃ _, _
    cases h
    exact ⟨[], _, rfl, trivial, rfl, (.eq rfl), rfl⟩
  · intro k h
    refine vBlock ?_
    refine vLoopS (α := Int) (fun (i3 : Int) => (⟨[(0, .ro false (.ints l_0)), (1, .int x_1), (5, .int i3)], [], []⟩ : PS)) (S_l2Has_l1 N l_0 x_1 k) h (En.of ⟨rfl, rfl, rfl, trivial⟩ trivial trivial) (fun _ => rfl) ?_
    rintro n i3 h
    rw [S_l2Has_l1] at h
    show VC _ _ _ (⟨[(0, .ro false (.ints l_0)), (1, .int x_1), (5, .int i3)], [], []⟩ : PS)
    iterate 2 refine vSeq ?_
    refine vRegion ?_
    iterate 4 refine oVal tt rfl rfl rfl rfl rfl trivial ?_
    refine vNil ?_
    change VC _ _ _ _
    refine vCond rfl (fun hb1 => ?_) (fun hb1 => ?_)
    · replace h := cnd_t hb1 h
      refine vSkip ?_
      change VC _ _ _ _
      refine vSeq ?_
      refine vBlock ?_
      refine vSeq ?_
      refine vRegion ?_
      iterate 2 refine oVal tt rfl rfl rfl rfl rfl trivial ?_
      obtain ⟨hg2, h⟩ := grd_inv h
      refine oVal tt rfl rfl rfl rfl rfl hg2 ?_
      iterate 3 refine oVal tt rfl rfl rfl rfl rfl trivial ?_
      refine vNil ?_
      change VC _ _ _ _
      refine vCond rfl (fun hb3 => ?_) (fun hb3 => ?_)
      · replace h := cnd_t hb3 h
        refine vSeq ?_
        refine vRegion ?_
        refine oVal tt rfl rfl rfl rfl rfl trivial ?_
        refine vNil ?_
        change VC _ _ _ _
        refine vRet ?_
        change ∃ _, _
        cases h
        exact ⟨[], _, rfl, trivial, rfl, (.eq rfl), rfl⟩
      · replace h := cnd_f hb3 h
        refine vSkip ?_
        change VC _ _ _ _
        refine vRegion ?_
        refine oVal tt rfl rfl rfl rfl rfl trivial ?_
        obtain ⟨hg4, h⟩ := grd_inv h
        refine oVal tt rfl rfl rfl rfl rfl hg4 ?_
        refine oVal tt rfl rfl rfl rfl rfl trivial ?_
        refine vNil ?_
        change ∃ _, _
        exact ⟨(i3 + (1 : Int)), (En.of ⟨rfl, rfl, rfl, trivial⟩ trivial trivial), h⟩
    · replace h := cnd_f hb1 h
      refine vExit ?_
      change ∃ _, _
      exact ⟨(), (En.of trivial trivial trivial), h⟩
def S_l4Other (N : Nat) (b_0 : Int × Int) (v_1 : Int) : Option (Int) :=
  grd (Rg64 (b_0.1 + b_0.2)) <|
  grd (Rg64 ((b_0.1 + b_0.2) - v_1)) <|
  some ((b_0.1 + b_0.2) - v_1)
set_option maxRecDepth 20000 in
set_option maxHeartbeats 1600000 in
theorem S_l4Other_w (N : Nat) (b_0 : Int × Int) (v_1 : Int) (r : Int) (h : S_l4Other N b_0 v_1 = some r) : PCall Try.prog 131 [.agg [.int b_0.1, .int b_0.2], .int v_1] [] (.int r) := by
  unfold S_l4Other at h
  refine pcall_intro (TT := TT) tt Try.func131 rfl rfl Try.ntmps131 (congrArg Array.toList Try.results131) rfl rfl fun w0 => ?_
  refine vSeq ?_
  refine vRegion ?_
  refine oBox rfl rfl rfl rfl rfl rfl rfl rfl rfl ?_
  refine oVal tt rfl rfl rfl rfl rfl trivial ?_
  refine vNil ?_
  change VC _ _ _ _
  refine vSeq ?_
  refine vRegion ?_
  iterate 4 refine oVal tt rfl rfl rfl rfl rfl trivial ?_
  obtain ⟨hg1, h⟩ := grd_inv h
  refine oVal tt rfl rfl rfl rfl rfl hg1 ?_
  refine oVal tt rfl rfl rfl rfl rfl trivial ?_
  obtain ⟨hg2, h⟩ := grd_inv h
  refine oVal tt rfl rfl rfl rfl rfl hg2 ?_
  refine oVal tt rfl rfl rfl rfl rfl trivial ?_
  refine vNil ?_
  change VC _ _ _ _
  refine vRet ?_
  change ∃ _, _
  cases h
  exact ⟨[], _, rfl, trivial, rfl, (.eq rfl), rfl⟩
end Go.Proofs.Ytgindcgphnbnaaa

namespace Go.Proofs.Ytgindcgphnbnaaa
open Go.RowKit
set_option linter.unusedVariables false
set_option linter.unusedSimpArgs false
def L_szPinned (N : Nat) (a_0 : Pin) (left_1 : Int) : Option (Int) :=
  (L_szGraph N a_0.g left_1).bind fun v1 =>
  cnd (decide (v1 < (0 : Int))) (
    some (-1 : Int)) (
    (L_szIntS N a_0.ground v1).bind fun v2 =>
    cnd (decide (v2 < (0 : Int))) (
      some (-1 : Int)) (
      some v2))
set_option maxRecDepth 20000 in
set_option maxHeartbeats 1600000 in
theorem L_szPinned_w (N : Nat) (a_0 : Pin) (left_1 : Int) (r : Int) (h : L_szPinned N a_0 left_1 = some r) : PCall Try.prog 25 [pD a_0, .int left_1] [] (.int r) := by
  unfold L_szPinned at h
  refine pcall_intro (TT := TT) tt Try.func25 rfl rfl Try.ntmps25 (congrArg Array.toList Try.results25) rfl rfl fun w0 => ?_
  refine vSeq ?_
  refine vRegion ?_
  refine oBox rfl rfl rfl rfl rfl rfl rfl rfl rfl ?_
  refine oVal tt rfl rfl rfl rfl rfl trivial ?_
  refine vNil ?_
  change VC _ _ _ _
  refine vSeq ?_
  refine vRegion ?_
  iterate 3 refine oVal tt rfl rfl rfl rfl rfl trivial ?_
  obtain ⟨v1, hc1, h⟩ := bind_inv h
  refine oCall (L_szGraph_w N a_0.g left_1 v1 hc1) rfl rfl rfl rfl rfl rfl rfl rfl ⟨⟨rfl, rfl, trivial⟩, rfl, trivial⟩ ?_
  refine oVal tt rfl rfl rfl rfl rfl trivial ?_
  refine vNil ?_
  change VC _ _ _ _
  iterate 2 refine vSeq ?_
  refine vRegion ?_
  iterate 2 refine oVal tt rfl rfl rfl rfl rfl trivial ?_
  refine vNil ?_
  change VC _ _ _ _
  refine vCond rfl (fun hb2 => ?_) (fun hb2 => ?_)
  · replace h := cnd_t hb2 h
    refine vSeq ?_
    refine vRegion ?_
    refine oVal tt rfl rfl rfl rfl rfl trivial ?_
    refine vNil ?_
    change VC _ _ _ _
    refine vRet ?_
    change ∃ _, _
    cases h
    exact ⟨[], _, rfl, trivial, rfl, (.eq rfl), rfl⟩
  · replace h := cnd_f hb2 h
    refine vSkip ?_
    change VC _ _ _ _
    refine vSeq ?_
    refine vRegion ?_
    iterate 3 refine oVal tt rfl rfl rfl rfl rfl trivial ?_
    obtain ⟨v2, hc3, h⟩ := bind_inv h
    refine oCall (L_szIntS_w N a_0.ground v1 v2 hc3) rfl rfl rfl rfl rfl rfl rfl rfl ⟨rfl, rfl, trivial⟩ ?_
    refine oVal tt rfl rfl rfl rfl rfl trivial ?_
    refine vNil ?_
    change VC _ _ _ _
    iterate 2 refine vSeq ?_
    refine vRegion ?_
    iterate 2 refine oVal tt rfl rfl rfl rfl rfl trivial ?_
    refine vNil ?_
    change VC _ _ _ _
    refine vCond rfl (fun hb4 => ?_) (fun hb4 => ?_)
    · replace h := cnd_t hb4 h
      refine vSeq ?_
      refine vRegion ?_
      refine oVal tt rfl rfl rfl rfl rfl trivial ?_
      refine vNil ?_
      change VC _ _ _ _
      refine vRet ?_
      change ∃ _, _
      cases h
      exact ⟨[], _, rfl, trivial, rfl, (.eq rfl), rfl⟩
    · replace h := cnd_f hb4 h
      refine vSkip ?_
      change VC _ _ _ _
      refine vSeq ?_
      refine vRegion ?_
      iterate 2 refine oVal tt rfl rfl rfl rfl rfl trivial ?_
      refine vNil ?_
      change VC _ _ _ _
      refine vRet ?_
      change ∃ _, _
      cases h
      exact ⟨[], _, rfl, trivial, rfl, (.eq rfl), rfl⟩
def S_IsPinned_l1 (N : Nat) (p_0 : Pin) (k : Unit → Option (Bool)) : Nat → Int → Option (Bool)
  | 0, _ => none
  | n + 1, i13 =>
    cnd (decide (i13 < (p_0.g.bars.length : Int))) (
      grd (0 ≤ i13 ∧ i13 < (p_0.g.bars.length : Int)) <|
      (S_l2Has N p_0.ground ((p_0.g.bars.getD ((i13).toNat) (0, 0)).1)).bind fun v16 =>
      cnd v16 (
        (S_l2Has N p_0.ground ((p_0.g.bars.getD ((i13).toNat) (0, 0)).2)).bind fun v17 =>
        cnd v17 (
          some false) (
          grd (Rg64 (i13 + (1 : Int))) <|
          S_IsPinned_l1 N p_0 k n (i13 + (1 : Int)))) (
        grd (Rg64 (i13 + (1 : Int))) <|
        S_IsPinned_l1 N p_0 k n (i13 + (1 : Int)))) (
      k ())
def S_IsPinned_l2 (N : Nat) (p_0 : Pin) (k : Unit → Option (Bool)) : Nat → Int → Option (Bool)
  | 0, _ => none
  | n + 1, i19 =>
    cnd (decide (i19 < (p_0.ground.length : Int))) (
      grd (0 ≤ i19 ∧ i19 < (p_0.ground.length : Int)) <|
      cnd (decide ((p_0.ground.getD ((i19).toNat) 0) < (0 : Int))) (
        some false) (
        cnd (decide ((p_0.ground.getD ((i19).toNat) 0) ≥ p_0.g.n)) (
          some false) (
          cnd (decide (i19 > (0 : Int))) (
            grd (Rg64 (i19 - (1 : Int))) <|
            grd (0 ≤ (i19 - (1 : Int)) ∧ (i19 - (1 : Int)) < (p_0.ground.length : Int)) <|
            cnd (decide ((p_0.ground.getD (((i19 - (1 : Int))).toNat) 0) ≥ (p_0.ground.getD ((i19).toNat) 0))) (
              some false) (
              grd (Rg64 (i19 + (1 : Int))) <|
              S_IsPinned_l2 N p_0 k n (i19 + (1 : Int)))) (
            grd (Rg64 (i19 + (1 : Int))) <|
            S_IsPinned_l2 N p_0 k n (i19 + (1 : Int)))))) (
      k ())
def S_IsPinned (N : Nat) (p_0 : Pin) : Option (Bool) :=
  S_IsPinned_l2 N p_0 (fun (_ : Unit) =>
        S_IsPinned_l1 N p_0 (fun (_ : Unit) =>
              (S_l17Simple N p_0.g).bind fun v9 =>
              cnd v9 (
                cnd (decide ((p_0.ground.length : Int) ≥ (2 : Int))) (
                  cnd (decide ((p_0.g.bars.length : Int) ≤ (15 : Int))) (
                    grd (Rg64 ((2 : Int) * (p_0.ground.length : Int))) <|
                    grd (Rg64 ((p_0.g.bars.length : Int) + ((2 : Int) * (p_0.ground.length : Int)))) <|
                    grd (Rg64 (((p_0.g.bars.length : Int) + ((2 : Int) * (p_0.ground.length : Int))) - (3 : Int))) <|
                    some (decide ((((p_0.g.bars.length : Int) + ((2 : Int) * (p_0.ground.length : Int))) - (3 : Int)) ≤ (24 : Int)))) (
                    some false)) (
                  some false)) (
                some false)) N (0 : Int)) N (0 : Int)
set_option maxRecDepth 20000 in
set_option maxHeartbeats 1600000 in
theorem S_IsPinned_w (N : Nat) (p_0 : Pin) (r : Bool) (h : S_IsPinned N p_0 = some r) : PCall Try.prog 72 [pD p_0] [] (.bool r) := by
  unfold S_IsPinned at h
  refine pcall_intro (TT := TT) tt Try.func72 rfl rfl Try.ntmps72 (congrArg Array.toList Try.results72) rfl rfl fun w0 => ?_
  refine vSeq ?_
  refine vRegion ?_
  refine oBox rfl rfl rfl rfl rfl rfl rfl rfl rfl ?_
  refine oVal tt rfl rfl rfl rfl rfl trivial ?_
  refine vNil ?_
  change VC _ _ _ _
  iterate 2 refine vSeq ?_
  refine vRegion ?_
  refine oVal tt rfl rfl rfl rfl rfl trivial ?_
  refine vNil ?_
  change VC _ _ _ _
  refine vJoin (F := fun k => S_IsPinned_l2 N p_0 k) h (α := Unit) (J := fun (_ : Unit) => (⟨[(1, .ptr 1 0)], [], [(1, some [.int p_0.g.n, .ro false (.pairs p_0.g.bars), .ro false (.ints p_0.ground)])]⟩ : PS)) ?_ ?_
  · rintro ⟨⟩ h
    show VC _ _ _ (⟨[(1, .ptr 1 0)], [], [(1, some [.int p_0.g.n, .ro false (.pairs p_0.g.bars), .ro false (.ints p_0.ground)])]⟩ : PS)
    iterate 2 refine vSeq ?_
    refine vRegion ?_
    refine oVal tt rfl rfl rfl rfl rfl trivial ?_
    refine vNil ?_
    change VC _ _ _ _
    refine vJoin (F := fun k => S_IsPinned_l1 N p_0 k) h (α := Unit) (J := fun (_ : Unit) => (⟨[(1, .ptr 1 0)], [], [(1, some [.int p_0.g.n, .ro false (.pairs p_0.g.bars), .ro false (.ints p_0.ground)])]⟩ : PS)) ?_ ?_
    · rintro ⟨⟩ h
      show VC _ _ _ (⟨[(1, .ptr 1 0)], [], [(1, some [.int p_0.g.n, .ro false (.pairs p_0.g.bars), .ro false (.ints p_0.ground)])]⟩ : PS)
      refine vSeq ?_
      refine vRegion ?_
      iterate 2 refine oVal tt rfl rfl rfl rfl rfl trivial ?_
      obtain ⟨v9, hc1, h⟩ := bind_inv h
      refine oCall (S_l17Simple_w N p_0.g v9 hc1) rfl rfl rfl rfl rfl rfl rfl rfl ⟨⟨rfl, rfl, trivial⟩, trivial⟩ ?_
      refine oVal tt rfl rfl rfl rfl rfl trivial ?_
      refine oSplit rfl rfl rfl (fun hb2 => ?_) (fun hb2 => ?_)
      · replace h := cnd_t hb2 h
        iterate 4 refine oValG tt rfl rfl rfl rfl rfl hb2 rfl rfl rfl trivial ?_
        refine oPick rfl rfl rfl rfl rfl hb2 rfl ?_
        refine oVal tt rfl rfl rfl rfl rfl trivial ?_
        refine oSplit rfl rfl rfl (fun hb3 => ?_) (fun hb3 => ?_)
        · replace h := cnd_t hb3 h
          iterate 5 refine oValG tt rfl rfl rfl rfl rfl hb3 rfl rfl rfl trivial ?_
          refine oPick rfl rfl rfl rfl rfl hb3 rfl ?_
          refine oVal tt rfl rfl rfl rfl rfl trivial ?_
          refine oSplit rfl rfl rfl (fun hb4 => ?_) (fun hb4 => ?_)
          · replace h := cnd_t hb4 h
            iterate 7 refine oValG tt rfl rfl rfl rfl rfl hb4 rfl rfl rfl trivial ?_
            obtain ⟨hg5, h⟩ := grd_inv h
            refine oValG tt rfl rfl rfl rfl rfl hb4 rfl rfl rfl hg5 ?_
            obtain ⟨hg6, h⟩ := grd_inv h
            refine oValG tt rfl rfl rfl rfl rfl hb4 rfl rfl rfl hg6 ?_
            obtain ⟨hg7, h⟩ := grd_inv h
            refine oValG tt rfl rfl rfl rfl rfl hb4 rfl rfl rfl hg7 ?_
            refine oValG tt rfl rfl rfl rfl rfl hb4 rfl rfl rfl trivial ?_
            refine oPick rfl rfl rfl rfl rfl hb4 rfl ?_
            refine oVal tt rfl rfl rfl rfl rfl trivial ?_
            refine vNil ?_
            change VC _ _ _ _
            refine vRet ?_
            change ∃ _, _
            cases h
            exact ⟨[], _, rfl, trivial, rfl, (.eq rfl), rfl⟩
          · replace h := cnd_f hb4 h
            iterate 11 refine oNoT rfl rfl rfl rfl hb4 rfl rfl ?_
            refine oPickF rfl rfl rfl rfl rfl hb4 rfl ?_
            refine oVal tt rfl rfl rfl rfl rfl trivial ?_
            refine vNil ?_
            change VC _ _ _ _
            refine vRet ?_
            change ∃ _, _
            cases h
            exact ⟨[], _, rfl, trivial, rfl, (.eq rfl), rfl⟩
        · replace h := cnd_f hb3 h
          iterate 5 refine oNoT rfl rfl rfl rfl hb3 rfl rfl ?_
          refine oPickF rfl rfl rfl rfl rfl hb3 rfl ?_
          refine oVal tt rfl rfl rfl rfl rfl trivial ?_
          iterate 11 refine oNoT rfl rfl rfl rfl rfl rfl rfl ?_
          refine oPickF rfl rfl rfl rfl rfl rfl rfl ?_
          refine oVal tt rfl rfl rfl rfl rfl trivial ?_
          refine vNil ?_
          change VC _ _ _ _
          refine vRet ?_
          change ∃ _, _
          cases h
          exact ⟨[], _, rfl, trivial, rfl, (.eq rfl), rfl⟩
      · replace h := cnd_f hb2 h
        iterate 4 refine oNoT rfl rfl rfl rfl hb2 rfl rfl ?_
        refine oPickF rfl rfl rfl rfl rfl hb2 rfl ?_
        refine oVal tt rfl rfl rfl rfl rfl trivial ?_
        iterate 5 refine oNoT rfl rfl rfl rfl rfl rfl rfl ?_
        refine oPickF rfl rfl rfl rfl rfl rfl rfl ?_
        refine oVal tt rfl rfl rfl rfl rfl trivial ?_
        iterate 11 refine oNoT rfl rfl rfl rfl rfl rfl rfl ?_
        refine oPickF rfl rfl rfl rfl rfl rfl rfl ?_
        refine oVal tt rfl rfl rfl rfl rfl trivial ?_
        refine vNil ?_
        change VC _ _ _ _
        refine vRet ?_
        change ∃ _, _
        cases h
        exact ⟨[], _, rfl, trivial, rfl, (.eq rfl), rfl⟩
    · intro k h
      refine vBlock ?_
      refine vLoopS (α := Int) (fun (i13 : Int) => (⟨[(1, .ptr 1 0), (4, .int i13)], [], [(1, some [.int p_0.g.n, .ro false (.pairs p_0.g.bars), .ro false (.ints p_0.ground)])]⟩ : PS)) (S_IsPinned_l1 N p_0 k) h (En.of ⟨rfl, rfl, trivial⟩ trivial ⟨rfl, trivial⟩) (fun _ => rfl) ?_
      rintro n i13 h
      rw [S_IsPinned_l1] at h
      show VC _ _ _ (⟨[(1, .ptr 1 0), (4, .int i13)], [], [(1, some [.int p_0.g.n, .ro false (.pairs p_0.g.bars), .ro false (.ints p_0.ground)])]⟩ : PS)
      iterate 2 refine vSeq ?_
      refine vRegion ?_
      iterate 6 refine oVal tt rfl rfl rfl rfl rfl trivial ?_
      refine vNil ?_
      change VC _ _ _ _
      refine vCond rfl (fun hb8 => ?_) (fun hb8 => ?_)
      · replace h := cnd_t hb8 h
        refine vSkip ?_
        change VC _ _ _ _
        refine vSeq ?_
        refine vBlock ?_
        refine vSeq ?_
        refine vRegionD (by kernel_rfl) (by kernel_rfl) ?_
        iterate 6 refine cVal tt rfl (wNone rfl) rfl rfl rfl trivial ?_
        obtain ⟨hg9, h⟩ := grd_inv h
        refine cVal tt rfl (wNone rfl) rfl rfl rfl hg9 ?_
        iterate 2 refine cVal tt rfl (wNone rfl) rfl rfl rfl trivial ?_
        obtain ⟨v16, hc10, h⟩ := bind_inv h
        refine cCall (S_l2Has_w N p_0.ground ((p_0.g.bars.getD ((i13).toNat) (0, 0)).1) v16 hc10) rfl (wNone rfl) rfl rfl rfl rfl rfl rfl ⟨rfl, rfl, trivial⟩ ?_
        refine cVal tt rfl (wNone rfl) rfl rfl rfl trivial ?_
        refine cSplit rfl rfl rfl (fun hb11 => ?_) (fun hb11 => ?_)
        · replace h := cnd_t hb11 h
          iterate 6 refine cVal tt rfl (wSome rfl rfl rfl rfl hb11) rfl rfl rfl trivial ?_
          refine cVal tt rfl (wSome rfl rfl rfl rfl hb11) rfl rfl rfl hg9 ?_
          iterate 2 refine cVal tt rfl (wSome rfl rfl rfl rfl hb11) rfl rfl rfl trivial ?_
          obtain ⟨v17, hc12, h⟩ := bind_inv h
          refine cCall (S_l2Has_w N p_0.ground ((p_0.g.bars.getD ((i13).toNat) (0, 0)).2) v17 hc12) rfl (wSome rfl rfl rfl rfl hb11) rfl rfl rfl rfl rfl rfl ⟨rfl, rfl, trivial⟩ ?_
          refine cPickT rfl (wNone rfl) rfl rfl rfl hb11 rfl ?_
          refine cNil ?_
          change VC _ _ _ _
          refine vCond rfl (fun hb13 => ?_) (fun hb13 => ?_)
          · replace h := cnd_t hb13 h
            refine vSeq ?_
            refine vRegion ?_
            refine oVal tt rfl rfl rfl rfl rfl trivial ?_
            refine vNil ?_
            change VC _ _ _ _
            refine vRet ?_
            change ∃ _, _
            cases h
            exact ⟨[], _, rfl, trivial, rfl, (.eq rfl), rfl⟩
          · replace h := cnd_f hb13 h
            refine vSkip ?_
            change VC _ _ _ _
            refine vRegion ?_
            refine oVal tt rfl rfl rfl rfl rfl trivial ?_
            obtain ⟨hg14, h⟩ := grd_inv h
            refine oVal tt rfl rfl rfl rfl rfl hg14 ?_
            refine oVal tt rfl rfl rfl rfl rfl trivial ?_
            refine vNil ?_
            change ∃ _, _
            exact ⟨(i13 + (1 : Int)), (En.of ⟨rfl, rfl, trivial⟩ trivial ⟨rfl, trivial⟩), h⟩
        · replace h := cnd_f hb11 h
          iterate 10 refine cNoT rfl rfl rfl rfl hb11 rfl rfl ?_
          refine cPickF rfl (wNone rfl) rfl rfl rfl hb11 rfl ?_
          refine cNil ?_
          change VC _ _ _ _
          refine vCondF rfl rfl ?_
          refine vSkip ?_
          change VC _ _ _ _
          refine vRegion ?_
          refine oVal tt rfl rfl rfl rfl rfl trivial ?_
          obtain ⟨hg15, h⟩ := grd_inv h
          refine oVal tt rfl rfl rfl rfl rfl hg15 ?_
          refine oVal tt rfl rfl rfl rfl rfl trivial ?_
          refine vNil ?_
          change ∃ _, _
          exact ⟨(i13 + (1 : Int)), (En.of ⟨rfl, rfl, trivial⟩ trivial ⟨rfl, trivial⟩), h⟩
      · replace h := cnd_f hb8 h
        refine vExit ?_
        change ∃ _, _
        exact ⟨(), (En.of ⟨rfl, trivial⟩ trivial ⟨rfl, trivial⟩), h⟩
  · intro k h
    refine vBlock ?_
    refine vLoopS (α := Int) (fun (i19 : Int) => (⟨[(1, .ptr 1 0), (3, .int i19)], [], [(1, some [.int p_0.g.n, .ro false (.pairs p_0.g.bars), .ro false (.ints p_0.ground)])]⟩ : PS)) (S_IsPinned_l2 N p_0 k) h (En.of ⟨rfl, rfl, trivial⟩ trivial ⟨rfl, trivial⟩) (fun _ => rfl) ?_
    rintro n i19 h
    rw [S_IsPinned_l2] at h
    show VC _ _ _ (⟨[(1, .ptr 1 0), (3, .int i19)], [], [(1, some [.int p_0.g.n, .ro false (.pairs p_0.g.bars), .ro false (.ints p_0.ground)])]⟩ : PS)
    iterate 2 refine vSeq ?_
    refine vRegion ?_
    iterate 5 refine oVal tt rfl rfl rfl rfl rfl trivial ?_
    refine vNil ?_
    change VC _ _ _ _
    refine vCond rfl (fun hb16 => ?_) (fun hb16 => ?_)
    · replace h := cnd_t hb16 h
      refine vSkip ?_
      change VC _ _ _ _
      refine vSeq ?_
      refine vBlock ?_
      refine vSeq ?_
      refine vRegionD (by kernel_rfl) (by kernel_rfl) ?_
      iterate 3 refine cVal tt rfl (wNone rfl) rfl rfl rfl trivial ?_
      obtain ⟨hg17, h⟩ := grd_inv h
      refine cVal tt rfl (wNone rfl) rfl rfl rfl hg17 ?_
      iterate 3 refine cVal tt rfl (wNone rfl) rfl rfl rfl trivial ?_
      refine cSplit rfl rfl rfl (fun hb18 => ?_) (fun hb18 => ?_)
      · replace h := cnd_t hb18 h
        iterate 9 refine cNoF rfl rfl rfl rfl hb18 rfl rfl ?_
        refine cPickT rfl (wNone rfl) rfl rfl rfl hb18 rfl ?_
        refine cVal tt rfl (wNone rfl) rfl rfl rfl trivial ?_
        iterate 3 refine cNoF rfl rfl rfl rfl rfl rfl rfl ?_
        iterate 12 refine cNoU rfl rfl rfl rfl rfl ?_
        refine cNoF rfl rfl rfl rfl rfl rfl rfl ?_
        refine cPickT rfl (wNone rfl) rfl rfl rfl rfl rfl ?_
        refine cNil ?_
        change VC _ _ _ _
        refine vCondT rfl rfl ?_
        refine vSeq ?_
        refine vRegion ?_
        refine oVal tt rfl rfl rfl rfl rfl trivial ?_
        refine vNil ?_
        change VC _ _ _ _
        refine vRet ?_
        change ∃ _, _
        cases h
        exact ⟨[], _, rfl, trivial, rfl, (.eq rfl), rfl⟩
      · replace h := cnd_f hb18 h
        iterate 3 refine cVal tt rfl (wSome rfl rfl rfl rfl hb18) rfl rfl rfl trivial ?_
        refine cVal tt rfl (wSome rfl rfl rfl rfl hb18) rfl rfl rfl hg17 ?_
        iterate 5 refine cVal tt rfl (wSome rfl rfl rfl rfl hb18) rfl rfl rfl trivial ?_
        refine cPickF rfl (wNone rfl) rfl rfl rfl hb18 rfl ?_
        refine cVal tt rfl (wNone rfl) rfl rfl rfl trivial ?_
        refine cSplit rfl rfl rfl (fun hb19 => ?_) (fun hb19 => ?_)
        · replace h := cnd_t hb19 h
          iterate 3 refine cNoF rfl rfl rfl rfl hb19 rfl rfl ?_
          iterate 12 refine cNoU rfl rfl rfl rfl rfl ?_
          refine cNoF rfl rfl rfl rfl hb19 rfl rfl ?_
          refine cPickT rfl (wNone rfl) rfl rfl rfl hb19 rfl ?_
          refine cNil ?_
          change VC _ _ _ _
          refine vCondT rfl rfl ?_
          refine vSeq ?_
          refine vRegion ?_
          refine oVal tt rfl rfl rfl rfl rfl trivial ?_
          refine vNil ?_
          change VC _ _ _ _
          refine vRet ?_
          change ∃ _, _
          cases h
          exact ⟨[], _, rfl, trivial, rfl, (.eq rfl), rfl⟩
        · replace h := cnd_f hb19 h
          iterate 3 refine cVal tt rfl (wSome rfl rfl rfl rfl hb19) rfl rfl rfl trivial ?_
          refine cSplit rfl rfl rfl (fun hb20 => ?_) (fun hb20 => ?_)
          · replace h := cnd_t hb20 h
            iterate 3 refine cVal tt rfl (wSome rfl rfl rfl rfl hb20) rfl rfl rfl trivial ?_
            obtain ⟨hg21, h⟩ := grd_inv h
            refine cVal tt rfl (wSome rfl rfl rfl rfl hb20) rfl rfl rfl hg21 ?_
            obtain ⟨hg22, h⟩ := grd_inv h
            refine cVal tt rfl (wSome rfl rfl rfl rfl hb20) rfl rfl rfl hg22 ?_
            iterate 4 refine cVal tt rfl (wSome rfl rfl rfl rfl hb20) rfl rfl rfl trivial ?_
            refine cVal tt rfl (wSome rfl rfl rfl rfl hb20) rfl rfl rfl hg17 ?_
            iterate 2 refine cVal tt rfl (wSome rfl rfl rfl rfl hb20) rfl rfl rfl trivial ?_
            refine cPickT rfl (wSome rfl rfl rfl rfl hb19) rfl rfl rfl hb20 rfl ?_
            refine cPickF rfl (wNone rfl) rfl rfl rfl hb19 rfl ?_
            refine cNil ?_
            change VC _ _ _ _
            refine vCond rfl (fun hb23 => ?_) (fun hb23 => ?_)
            · replace h := cnd_t hb23 h
              refine vSeq ?_
              refine vRegion ?_
              refine oVal tt rfl rfl rfl rfl rfl trivial ?_
              refine vNil ?_
              change VC _ _ _ _
              refine vRet ?_
              change ∃ _, _
              cases h
              exact ⟨[], _, rfl, trivial, rfl, (.eq rfl), rfl⟩
            · replace h := cnd_f hb23 h
              refine vSkip ?_
              change VC _ _ _ _
              refine vRegion ?_
              refine oVal tt rfl rfl rfl rfl rfl trivial ?_
              obtain ⟨hg24, h⟩ := grd_inv h
              refine oVal tt rfl rfl rfl rfl rfl hg24 ?_
              refine oVal tt rfl rfl rfl rfl rfl trivial ?_
              refine vNil ?_
              change ∃ _, _
              exact ⟨(i19 + (1 : Int)), (En.of ⟨rfl, rfl, trivial⟩ trivial ⟨rfl, trivial⟩), h⟩
          · replace h := cnd_f hb20 h
            iterate 12 refine cNoT rfl rfl rfl rfl hb20 rfl rfl ?_
            refine cPickF rfl (wSome rfl rfl rfl rfl hb19) rfl rfl rfl hb20 rfl ?_
            refine cPickF rfl (wNone rfl) rfl rfl rfl hb19 rfl ?_
            refine cNil ?_
            change VC _ _ _ _
            refine vCondF rfl rfl ?_
            refine vSkip ?_
            change VC _ _ _ _
            refine vRegion ?_
            refine oVal tt rfl rfl rfl rfl rfl trivial ?_
            obtain ⟨hg25, h⟩ := grd_inv h
            refine oVal tt rfl rfl rfl rfl rfl hg25 ?_
            refine oVal tt rfl rfl rfl rfl rfl trivial ?_
            refine vNil ?_
            change ∃ _, _
            exact ⟨(i19 + (1 : Int)), (En.of ⟨rfl, rfl, trivial⟩ trivial ⟨rfl, trivial⟩), h⟩
    · replace h := cnd_f hb16 h
      refine vExit ?_
      change ∃ _, _
      exact ⟨(), (En.of ⟨rfl, trivial⟩ trivial ⟨rfl, trivial⟩), h⟩
def S_InnerPoints_l1 (N : Nat) (p_0 : Pin) (k : (List Int) → Option (List Int)) : Nat → ((List Int) × Int) → Option (List Int)
  | 0, _ => none
  | n + 1, (l17, i18) =>
    cnd (decide (i18 < p_0.g.n)) (
      (S_IsPinned N p_0).bind fun v21 =>
      cnd v21 (
        (S_l2Has N p_0.ground i18).bind fun v22 =>
        cnd (!v22) (
          grd (l17.length + 1 ≤ 4294967296) <|
          grd (Rg64 (i18 + (1 : Int))) <|
          S_InnerPoints_l1 N p_0 k n ((l17 ++ ([i18] : List Int)), (i18 + (1 : Int)))) (
          grd (Rg64 (i18 + (1 : Int))) <|
          S_InnerPoints_l1 N p_0 k n (l17, (i18 + (1 : Int))))) (
        k l17)) (
      k l17)
def S_InnerPoints (N : Nat) (p_0 : Pin) : Option (List Int) :=
  S_InnerPoints_l1 N p_0 (fun (l11 : List Int) =>
        some l11) N (([] : List Int), (0 : Int))
set_option maxRecDepth 20000 in
set_option maxHeartbeats 1600000 in
theorem S_InnerPoints_w (N : Nat) (p_0 : Pin) (r : List Int) (h : S_InnerPoints N p_0 = some r) : PCall Try.prog 74 [pD p_0] [(3, .ints r)] (.row 0 0 r.length) := by
  unfold S_InnerPoints at h
  refine pcall_intro (TT := TT) tt Try.func74 rfl rfl Try.ntmps74 (congrArg Array.toList Try.results74) rfl rfl fun w0 => ?_
  refine vSeq ?_
  refine vRegion ?_
  refine oBox rfl rfl rfl rfl rfl rfl rfl rfl rfl ?_
  refine oVal tt rfl rfl rfl rfl rfl trivial ?_
  refine vNil ?_
  change VC _ _ _ _
  refine vSeq ?_
  refine vRegion ?_
  refine oEmpty tt (wNone rfl) rfl rfl rfl rfl ?_
  refine oVal tt rfl rfl rfl rfl rfl trivial ?_
  refine vNil ?_
  change VC _ _ _ _
  iterate 2 refine vSeq ?_
  refine vRegion ?_
  refine oVal tt rfl rfl rfl rfl rfl trivial ?_
  refine vNil ?_
  change VC _ _ _ _
  refine vJoin (F := fun k => S_InnerPoints_l1 N p_0 k) h (α := List Int) (J := fun (l11 : List Int) => (⟨[(3, .row 25 0 l11.length)], [(25, some (3, .ints l11))], []⟩ : PS)) ?_ ?_
  · rintro l11 h
    show VC _ _ _ (⟨[(3, .row 25 0 l11.length)], [(25, some (3, .ints l11))], []⟩ : PS)
    refine vSeq ?_
    refine vRegion ?_
    iterate 2 refine oVal tt rfl rfl rfl rfl rfl trivial ?_
    refine vNil ?_
    change VC _ _ _ _
    refine vRet ?_
    change ∃ _, _
    cases h
    exact ⟨[25], _, rfl, ⟨rfl, trivial⟩, rfl, (.eq rfl), rfl⟩
  · intro k h
    refine vBlock ?_
    refine vNilT 3 25 3 (.ints []) rfl rfl rfl rfl ?_
    refine vLoopS (α := (List Int) × Int) (fun | (l17, i18) => (⟨[(1, .ptr 1 0), (3, .row 25 0 l17.length), (4, .int i18)], [(25, some (3, .ints l17))], [(1, some [.int p_0.g.n, .ro false (.pairs p_0.g.bars), .ro false (.ints p_0.ground)])]⟩ : PS)) (S_InnerPoints_l1 N p_0 k) h (En.of ⟨rfl, rfl, rfl, trivial⟩ ⟨rfl, trivial⟩ ⟨rfl, trivial⟩) (fun _ => rfl) ?_
    rintro n ⟨l17, i18⟩ h
    rw [S_InnerPoints_l1] at h
    show VC _ _ _ (⟨[(1, .ptr 1 0), (3, .row 25 0 l17.length), (4, .int i18)], [(25, some (3, .ints l17))], [(1, some [.int p_0.g.n, .ro false (.pairs p_0.g.bars), .ro false (.ints p_0.ground)])]⟩ : PS)
    iterate 2 refine vSeq ?_
    refine vRegion ?_
    iterate 6 refine oVal tt rfl rfl rfl rfl rfl trivial ?_
    refine oSplit rfl rfl rfl (fun hb1 => ?_) (fun hb1 => ?_)
    · replace h := cnd_t hb1 h
      refine oValG tt rfl rfl rfl rfl rfl hb1 rfl rfl rfl trivial ?_
      obtain ⟨v21, hc2, h⟩ := bind_inv h
      refine oCallG (S_IsPinned_w N p_0 v21 hc2) rfl rfl rfl rfl hb1 rfl rfl rfl rfl rfl rfl rfl ⟨⟨rfl, rfl, rfl, trivial⟩, trivial⟩ ?_
      refine oPick rfl rfl rfl rfl rfl hb1 rfl ?_
      refine vNil ?_
      change VC _ _ _ _
      refine vCond rfl (fun hb3 => ?_) (fun hb3 => ?_)
      · replace h := cnd_t hb3 h
        refine vSkip ?_
        change VC _ _ _ _
        refine vSeq ?_
        refine vBlock ?_
        refine vSeq ?_
        refine vRegion ?_
        iterate 3 refine oVal tt rfl rfl rfl rfl rfl trivial ?_
        obtain ⟨v22, hc4, h⟩ := bind_inv h
        refine oCall (S_l2Has_w N p_0.ground i18 v22 hc4) rfl rfl rfl rfl rfl rfl rfl rfl ⟨rfl, rfl, trivial⟩ ?_
        refine oVal tt rfl rfl rfl rfl rfl trivial ?_
        refine vNil ?_
        change VC _ _ _ _
        refine vCond rfl (fun hb5 => ?_) (fun hb5 => ?_)
        · replace h := cnd_t hb5 h
          refine vRegion ?_
          iterate 2 refine oVal tt rfl rfl rfl rfl rfl trivial ?_
          refine oBuild tt rfl rfl rfl rfl rfl rfl rfl rfl rfl rfl rfl ?_
          obtain ⟨hg6, h⟩ := grd_inv h
          refine oAppend tt rfl rfl rfl rfl rfl rfl rfl rfl rfl rfl rfl rfl rfl rfl rfl rfl (Nat.le_of_eq (Nat.zero_add _)) hg6 ?_
          refine oVal tt rfl rfl rfl rfl rfl trivial ?_
          refine vNil ?_
          change VC _ _ _ _
          refine vRegion ?_
          refine oVal tt rfl rfl rfl rfl rfl trivial ?_
          obtain ⟨hg7, h⟩ := grd_inv h
          refine oVal tt rfl rfl rfl rfl rfl hg7 ?_
          refine oVal tt rfl rfl rfl rfl rfl trivial ?_
          refine vNil ?_
          change ∃ _, _
          exact ⟨((l17 ++ ([i18] : List Int)), (i18 + (1 : Int))), (En.of ⟨rfl, rfl, rfl, trivial⟩ ⟨rfl, trivial⟩ ⟨rfl, trivial⟩), h⟩
        · replace h := cnd_f hb5 h
          refine vSkip ?_
          change VC _ _ _ _
          refine vRegion ?_
          refine oVal tt rfl rfl rfl rfl rfl trivial ?_
          obtain ⟨hg8, h⟩ := grd_inv h
          refine oVal tt rfl rfl rfl rfl rfl hg8 ?_
          refine oVal tt rfl rfl rfl rfl rfl trivial ?_
          refine vNil ?_
          change ∃ _, _
          exact ⟨(l17, (i18 + (1 : Int))), (En.of ⟨rfl, rfl, rfl, trivial⟩ ⟨rfl, trivial⟩ ⟨rfl, trivial⟩), h⟩
      · replace h := cnd_f hb3 h
        refine vExit ?_
        change ∃ _, _
        exact ⟨l17, (En.of ⟨rfl, trivial⟩ ⟨rfl, trivial⟩ trivial), h⟩
    · replace h := cnd_f hb1 h
      iterate 2 refine oNoT rfl rfl rfl rfl hb1 rfl rfl ?_
      refine oPickF rfl rfl rfl rfl rfl hb1 rfl ?_
      refine vNil ?_
      change VC _ _ _ _
      refine vCondF rfl rfl ?_
      refine vExit ?_
      change ∃ _, _
      exact ⟨l17, (En.of ⟨rfl, trivial⟩ ⟨rfl, trivial⟩ trivial), h⟩
def L_toPinned (N : Nat) (a_0 : Pin) : Option (Pin) :=
  (L_toGraph N a_0.g).bind fun v1 =>
  (L_toIntS N a_0.ground).bind fun v2 =>
  some (⟨⟨v1.n, v1.bars⟩, v2⟩ : Pin)
set_option maxRecDepth 20000 in
set_option maxHeartbeats 1600000 in
theorem L_toPinned_w (N : Nat) (a_0 : Pin) (r : Pin) (h : L_toPinned N a_0 = some r) : PCall Try.prog 28 [pD a_0] [(133, .pairs r.g.bars), (3, .ints r.ground)] (.agg [.int r.g.n, .row 0 0 r.g.bars.length, .row 1 0 r.ground.length]) := by
  unfold L_toPinned at h
  refine pcall_intro (TT := TT) tt Try.func28 rfl rfl Try.ntmps28 (congrArg Array.toList Try.results28) rfl rfl fun w0 => ?_
  refine vSeq ?_
  refine vRegion ?_
  refine oBox rfl rfl rfl rfl rfl rfl rfl rfl rfl ?_
  refine oAlloc tt rfl rfl rfl rfl rfl rfl rfl rfl rfl ?_
  refine vNil ?_
  change VC _ _ _ _
  refine vSeq ?_
  refine vRegion ?_
  refine oAlloc tt rfl rfl rfl rfl rfl rfl rfl rfl rfl ?_
  refine vNil ?_
  change VC _ _ _ _
  refine vSeq ?_
  refine vRegion ?_
  iterate 2 refine oVal tt rfl rfl rfl rfl rfl trivial ?_
  obtain ⟨v1, hc1, h⟩ := bind_inv h
  refine oCall (L_toGraph_w N a_0.g v1 hc1) rfl rfl rfl rfl rfl rfl rfl rfl ⟨⟨rfl, rfl, trivial⟩, trivial⟩ ?_
  refine oVal tt rfl rfl rfl rfl rfl trivial ?_
  refine oStore tt rfl rfl rfl rfl rfl rfl rfl rfl rfl rfl rfl ⟨trivial, trivial, trivial⟩ ?_
  refine vNil ?_
  change VC _ _ _ _
  refine vSeq ?_
  refine vRegion ?_
  iterate 2 refine oVal tt rfl rfl rfl rfl rfl trivial ?_
  obtain ⟨v2, hc2, h⟩ := bind_inv h
  refine oCall (L_toIntS_w N a_0.ground v2 hc2) rfl rfl rfl rfl rfl rfl rfl rfl ⟨rfl, trivial⟩ ?_
  refine oVal tt rfl rfl rfl rfl rfl trivial ?_
  refine oStore tt rfl rfl rfl rfl rfl rfl rfl rfl rfl rfl rfl ⟨trivial, trivial⟩ ?_
  refine vNil ?_
  change VC _ _ _ _
  refine vSeq ?_
  refine vRegion ?_
  refine oVal tt rfl rfl rfl rfl rfl trivial ?_
  refine oStore tt rfl rfl rfl rfl rfl rfl rfl rfl rfl rfl rfl ⟨trivial, trivial, trivial, trivial⟩ ?_
  refine vNil ?_
  change VC _ _ _ _
  refine vRet ?_
  change ∃ _, _
  cases h
  exact ⟨[1060, 1100], _, rfl, ⟨rfl, rfl, trivial⟩, rfl, (.eq rfl), rfl⟩
def G_Index_int_l1 (N : Nat) (s_0 : List Int) (v_1 : Int) (k : Unit → Option (Int)) : Nat → Int → Option (Int)
  | 0, _ => none
  | n + 1, x3 =>
    cnd (decide (x3 < (s_0.length : Int))) (
      grd (0 ≤ x3 ∧ x3 < (s_0.length : Int)) <|
      cnd (v_1 == (s_0.getD ((x3).toNat) 0)) (
        some x3) (
        grd (Rg64 (x3 + (1 : Int))) <|
        G_Index_int_l1 N s_0 v_1 k n (x3 + (1 : Int)))) (
      k ())
def G_Index_int (N : Nat) (s_0 : List Int) (v_1 : Int) : Option (Int) :=
  G_Index_int_l1 N s_0 v_1 (fun (_ : Unit) =>
        some (-1 : Int)) N (0 : Int)
set_option maxRecDepth 20000 in
set_option maxHeartbeats 1600000 in
theorem G_Index_int_w (N : Nat) (s_0 : List Int) (v_1 : Int) (r : Int) (h : G_Index_int N s_0 v_1 = some r) : PCall Try.prog 151 [.ro false (.ints s_0), .int v_1] [] (.int r) := by
  unfold G_Index_int at h
  refine pcall_intro (TT := TT) tt Try.func151 rfl rfl Try.ntmps151 (congrArg Array.toList Try.results151) rfl rfl fun w0 => ?_
  refine vSeq ?_
  refine vRegion ?_
  refine oVal tt rfl rfl rfl rfl rfl trivial ?_
  refine vNil ?_
  change VC _ _ _ _
  iterate 2 refine vSeq ?_
  refine vRegion ?_
  iterate 3 refine oVal tt rfl rfl rfl rfl rfl trivial ?_
  refine vNil ?_
  change VC _ _ _ _
  refine vJoin (F := fun k => G_Index_int_l1 N s_0 v_1 k) h (α := Unit) (J := fun (_ : Unit) => (⟨[], [], []⟩ : PS)) ?_ ?_
  · rintro ⟨⟩ h
    show VC _ _ _ (⟨[], [], []⟩ : PS)
    refine vSeq ?_
    refine vRegion ?_
    refine oVal tt rfl rfl rfl rfl rfl trivial ?_
    refine vNil ?_
    change VC _ _ _ _
    refine vRet ?_
    change ∃ _, _
    cases h
    exact ⟨[], _, rfl, trivial, rfl, (.eq rfl), rfl⟩
  · intro k h
    refine vBlock ?_
    refine vLoopS (α := Int) (fun (x3 : Int) => (⟨[(0, .ro false (.ints s_0)), (1, .int v_1), (7, .int (s_0.length : Int)), (8, .int x3)], [], []⟩ : PS)) (G_Index_int_l1 N s_0 v_1 k) h (En.of ⟨rfl, rfl, rfl, rfl, trivial⟩ trivial trivial) (fun _ => rfl) ?_
    rintro n x3 h
    rw [G_Index_int_l1] at h
    show VC _ _ _ (⟨[(0, .ro false (.ints s_0)), (1, .int v_1), (7, .int (s_0.length : Int)), (8, .int x3)], [], []⟩ : PS)
    refine vSeq ?_
    refine vRegion ?_
    refine oVal tt rfl rfl rfl rfl rfl trivial ?_
    refine vNil ?_
    change VC _ _ _ _
    refine vSeq ?_
    refine vCond rfl (fun hb1 => ?_) (fun hb1 => ?_)
    · replace h := cnd_t hb1 h
      refine vSkip ?_
      change VC _ _ _ _
      refine vSeq ?_
      refine vBlock ?_
      refine vSeq ?_
      refine vRegion ?_
      iterate 2 refine oVal tt rfl rfl rfl rfl rfl trivial ?_
      refine vNil ?_
      change VC _ _ _ _
      refine vSeq ?_
      refine vRegion ?_
      iterate 3 refine oVal tt rfl rfl rfl rfl rfl trivial ?_
      obtain ⟨hg2, h⟩ := grd_inv h
      refine oVal tt rfl rfl rfl rfl rfl hg2 ?_
      iterate 2 refine oVal tt rfl rfl rfl rfl rfl trivial ?_
      refine vNil ?_
      change VC _ _ _ _
      refine vCond rfl (fun hb3 => ?_) (fun hb3 => ?_)
      · replace h := cnd_t hb3 h
        refine vSeq ?_
        refine vRegion ?_
        iterate 2 refine oVal tt rfl rfl rfl rfl rfl trivial ?_
        refine vNil ?_
        change VC _ _ _ _
        refine vRet ?_
        change ∃ _, _
        cases h
        exact ⟨[], _, rfl, trivial, rfl, (.eq rfl), rfl⟩
      · replace h := cnd_f hb3 h
        refine vSkip ?_
        change VC _ _ _ _
        refine vRegion ?_
        obtain ⟨hg4, h⟩ := grd_inv h
        refine oVal tt rfl rfl rfl rfl rfl hg4 ?_
        refine oVal tt rfl rfl rfl rfl rfl trivial ?_
        refine vNil ?_
        change ∃ _, _
        exact ⟨(x3 + (1 : Int)), (En.of ⟨rfl, rfl, rfl, rfl, trivial⟩ trivial trivial), h⟩
    · replace h := cnd_f hb1 h
      refine vExit ?_
      change ∃ _, _
      exact ⟨(), (En.of trivial trivial trivial), h⟩
end Go.Proofs.Ytgindcgphnbnaaa

namespace Go.Proofs.Ytgindcgphnbnaaa
open Go.RowKit
set_option linter.unusedVariables false
set_option linter.unusedSimpArgs false
def G_Contains_int (N : Nat) (s_0 : List Int) (v_1 : Int) : Option (Bool) :=
  (G_Index_int N s_0 v_1).bind fun v1 =>
  some (decide (v1 ≥ (0 : Int)))
set_option maxRecDepth 20000 in
set_option maxHeartbeats 1600000 in
theorem G_Contains_int_w (N : Nat) (s_0 : List Int) (v_1 : Int) (r : Bool) (h : G_Contains_int N s_0 v_1 = some r) : PCall Try.prog 119 [.ro false (.ints s_0), .int v_1] [] (.bool r) := by
  unfold G_Contains_int at h
  refine pcall_intro (TT := TT) tt Try.func119 rfl rfl Try.ntmps119 (congrArg Array.toList Try.results119) rfl rfl fun w0 => ?_
  refine vSeq ?_
  refine vRegion ?_
  refine oVal tt rfl rfl rfl rfl rfl trivial ?_
  refine vNil ?_
  change VC _ _ _ _
  refine vSeq ?_
  refine vRegion ?_
  iterate 2 refine oVal tt rfl rfl rfl rfl rfl trivial ?_
  obtain ⟨v1, hc1, h⟩ := bind_inv h
  refine oCall (G_Index_int_w N s_0 v_1 v1 hc1) rfl rfl rfl rfl rfl rfl rfl rfl ⟨rfl, rfl, trivial⟩ ?_
  iterate 2 refine oVal tt rfl rfl rfl rfl rfl trivial ?_
  refine vNil ?_
  change VC _ _ _ _
  refine vRet ?_
  change ∃ _, _
  cases h
  exact ⟨[], _, rfl, trivial, rfl, (.eq rfl), rfl⟩
def I_IsPinned_l1 (N : Nat) (p_0 : Pin) (k : Unit → Option (Bool)) : Nat → Int → Option (Bool)
  | 0, _ => none
  | n + 1, x17 =>
    cnd (decide (x17 < (p_0.g.bars.length : Int))) (
      grd (0 ≤ x17 ∧ x17 < (p_0.g.bars.length : Int)) <|
      (G_Contains_int N p_0.ground ((p_0.g.bars.getD ((x17).toNat) (0, 0)).1)).bind fun v20 =>
      cnd v20 (
        (G_Contains_int N p_0.ground ((p_0.g.bars.getD ((x17).toNat) (0, 0)).2)).bind fun v21 =>
        cnd v21 (
          some false) (
          grd (Rg64 (x17 + (1 : Int))) <|
          I_IsPinned_l1 N p_0 k n (x17 + (1 : Int)))) (
        grd (Rg64 (x17 + (1 : Int))) <|
        I_IsPinned_l1 N p_0 k n (x17 + (1 : Int)))) (
      k ())
def I_IsPinned_l2 (N : Nat) (p_0 : Pin) (k : Unit → Option (Bool)) : Nat → Int → Option (Bool)
  | 0, _ => none
  | n + 1, x24 =>
    cnd (decide (x24 < (p_0.ground.length : Int))) (
      grd (0 ≤ x24 ∧ x24 < (p_0.ground.length : Int)) <|
      (M_Graph_has N p_0.g (p_0.ground.getD ((x24).toNat) 0)).bind fun v26 =>
      cnd (!v26) (
        some false) (
        cnd (decide (x24 > (0 : Int))) (
          grd (Rg64 (x24 - (1 : Int))) <|
          grd (0 ≤ (x24 - (1 : Int)) ∧ (x24 - (1 : Int)) < (p_0.ground.length : Int)) <|
          cnd (decide ((p_0.ground.getD (((x24 - (1 : Int))).toNat) 0) ≥ (p_0.ground.getD ((x24).toNat) 0))) (
            some false) (
            grd (Rg64 (x24 + (1 : Int))) <|
            I_IsPinned_l2 N p_0 k n (x24 + (1 : Int)))) (
          grd (Rg64 (x24 + (1 : Int))) <|
          I_IsPinned_l2 N p_0 k n (x24 + (1 : Int))))) (
      k ())
def I_IsPinned (N : Nat) (p_0 : Pin) : Option (Bool) :=
  (I_IsGraph N p_0.g).bind fun v1 =>
  cnd (!v1) (
    some false) (
    (I_hasDoubles N p_0.g).bind fun v2 =>
    cnd v2 (
      some false) (
      cnd (decide ((p_0.ground.length : Int) < (2 : Int))) (
        some false) (
        cnd (decide ((p_0.g.bars.length : Int) > (15 : Int))) (
          some false) (
          grd (Rg64 ((2 : Int) * (p_0.ground.length : Int))) <|
          grd (Rg64 ((p_0.g.bars.length : Int) + ((2 : Int) * (p_0.ground.length : Int)))) <|
          grd (Rg64 (((p_0.g.bars.length : Int) + ((2 : Int) * (p_0.ground.length : Int))) - (3 : Int))) <|
          cnd (decide ((((p_0.g.bars.length : Int) + ((2 : Int) * (p_0.ground.length : Int))) - (3 : Int)) > (24 : Int))) (
            some false) (
            I_IsPinned_l2 N p_0 (fun (_ : Unit) =>
                  I_IsPinned_l1 N p_0 (fun (_ : Unit) =>
                        some true) N (0 : Int)) N (0 : Int))))))
set_option maxRecDepth 20000 in
set_option maxHeartbeats 1600000 in
theorem I_IsPinned_w (N : Nat) (p_0 : Pin) (r : Bool) (h : I_IsPinned N p_0 = some r) : PCall Try.prog 78 [pD p_0] [] (.bool r) := by
  unfold I_IsPinned at h
  refine pcall_intro (TT := TT) tt Try.func78 rfl rfl Try.ntmps78 (congrArg Array.toList Try.results78) rfl rfl fun w0 => ?_
  refine vSeq ?_
  refine vRegion ?_
  refine oBox rfl rfl rfl rfl rfl rfl rfl rfl rfl ?_
  refine oVal tt rfl rfl rfl rfl rfl trivial ?_
  refine vNil ?_
  change VC _ _ _ _
  refine vSeq ?_
  refine vRegion ?_
  iterate 2 refine oVal tt rfl rfl rfl rfl rfl trivial ?_
  refine oAlloc tt rfl rfl rfl rfl rfl rfl rfl rfl rfl ?_
  refine oStore tt rfl rfl rfl rfl rfl rfl rfl rfl rfl rfl rfl ⟨trivial, trivial, trivial⟩ ?_
  refine vNil ?_
  change VC _ _ _ _
  iterate 2 refine vSeq ?_
  refine vRegion ?_
  refine oVal tt rfl rfl rfl rfl rfl trivial ?_
  obtain ⟨v1, hc1, h⟩ := bind_inv h
  refine oCall (I_IsGraph_w N p_0.g v1 hc1) rfl rfl rfl rfl rfl rfl rfl rfl ⟨⟨rfl, rfl, trivial⟩, trivial⟩ ?_
  iterate 2 refine oVal tt rfl rfl rfl rfl rfl trivial ?_
  refine oSplit rfl rfl rfl (fun hb2 => ?_) (fun hb2 => ?_)
  · replace h := cnd_t hb2 h
    iterate 2 refine oNoF rfl rfl rfl rfl hb2 rfl rfl ?_
    refine oPick rfl rfl rfl rfl rfl hb2 rfl ?_
    refine oVal tt rfl rfl rfl rfl rfl trivial ?_
    iterate 4 refine oNoF rfl rfl rfl rfl rfl rfl rfl ?_
    refine oPick rfl rfl rfl rfl rfl rfl rfl ?_
    refine oVal tt rfl rfl rfl rfl rfl trivial ?_
    iterate 4 refine oNoF rfl rfl rfl rfl rfl rfl rfl ?_
    refine oPick rfl rfl rfl rfl rfl rfl rfl ?_
    refine oVal tt rfl rfl rfl rfl rfl trivial ?_
    iterate 10 refine oNoF rfl rfl rfl rfl rfl rfl rfl ?_
    refine oPick rfl rfl rfl rfl rfl rfl rfl ?_
    refine vNil ?_
    change VC _ _ _ _
    refine vCondT rfl rfl ?_
    refine vSeq ?_
    refine vRegion ?_
    refine oVal tt rfl rfl rfl rfl rfl trivial ?_
    refine vNil ?_
    change VC _ _ _ _
    refine vRet ?_
    change ∃ _, _
    cases h
    exact ⟨[], _, rfl, trivial, rfl, (.eq rfl), rfl⟩
  · replace h := cnd_f hb2 h
    refine oValG tt rfl rfl rfl rfl rfl hb2 rfl rfl rfl trivial ?_
    obtain ⟨v2, hc3, h⟩ := bind_inv h
    refine oCallG (I_hasDoubles_w N p_0.g v2 hc3) rfl rfl rfl rfl hb2 rfl rfl rfl rfl rfl rfl rfl ⟨⟨rfl, rfl, trivial⟩, trivial⟩ ?_
    refine oPickF rfl rfl rfl rfl rfl hb2 rfl ?_
    refine oVal tt rfl rfl rfl rfl rfl trivial ?_
    refine oSplit rfl rfl rfl (fun hb4 => ?_) (fun hb4 => ?_)
    · replace h := cnd_t hb4 h
      iterate 4 refine oNoF rfl rfl rfl rfl hb4 rfl rfl ?_
      refine oPick rfl rfl rfl rfl rfl hb4 rfl ?_
      refine oVal tt rfl rfl rfl rfl rfl trivial ?_
      iterate 4 refine oNoF rfl rfl rfl rfl rfl rfl rfl ?_
      refine oPick rfl rfl rfl rfl rfl rfl rfl ?_
      refine oVal tt rfl rfl rfl rfl rfl trivial ?_
      iterate 10 refine oNoF rfl rfl rfl rfl rfl rfl rfl ?_
      refine oPick rfl rfl rfl rfl rfl rfl rfl ?_
      refine vNil ?_
      change VC _ _ _ _
      refine vCondT rfl rfl ?_
      refine vSeq ?_
      refine vRegion ?_
      refine oVal tt rfl rfl rfl rfl rfl trivial ?_
      refine vNil ?_
      change VC _ _ _ _
      refine vRet ?_
      change ∃ _, _
      cases h
      exact ⟨[], _, rfl, trivial, rfl, (.eq rfl), rfl⟩
    · replace h := cnd_f hb4 h
      iterate 4 refine oValG tt rfl rfl rfl rfl rfl hb4 rfl rfl rfl trivial ?_
      refine oPickF rfl rfl rfl rfl rfl hb4 rfl ?_
      refine oVal tt rfl rfl rfl rfl rfl trivial ?_
      refine oSplit rfl rfl rfl (fun hb5 => ?_) (fun hb5 => ?_)
      · replace h := cnd_t hb5 h
        iterate 4 refine oNoF rfl rfl rfl rfl hb5 rfl rfl ?_
        refine oPick rfl rfl rfl rfl rfl hb5 rfl ?_
        refine oVal tt rfl rfl rfl rfl rfl trivial ?_
        iterate 10 refine oNoF rfl rfl rfl rfl rfl rfl rfl ?_
        refine oPick rfl rfl rfl rfl rfl rfl rfl ?_
        refine vNil ?_
        change VC _ _ _ _
        refine vCondT rfl rfl ?_
        refine vSeq ?_
        refine vRegion ?_
        refine oVal tt rfl rfl rfl rfl rfl trivial ?_
        refine vNil ?_
        change VC _ _ _ _
        refine vRet ?_
        change ∃ _, _
        cases h
        exact ⟨[], _, rfl, trivial, rfl, (.eq rfl), rfl⟩
      · replace h := cnd_f hb5 h
        iterate 4 refine oValG tt rfl rfl rfl rfl rfl hb5 rfl rfl rfl trivial ?_
        refine oPickF rfl rfl rfl rfl rfl hb5 rfl ?_
        refine oVal tt rfl rfl rfl rfl rfl trivial ?_
        refine oSplit rfl rfl rfl (fun hb6 => ?_) (fun hb6 => ?_)
        · replace h := cnd_t hb6 h
          iterate 10 refine oNoF rfl rfl rfl rfl hb6 rfl rfl ?_
          refine oPick rfl rfl rfl rfl rfl hb6 rfl ?_
          refine vNil ?_
          change VC _ _ _ _
          refine vCondT rfl rfl ?_
          refine vSeq ?_
          refine vRegion ?_
          refine oVal tt rfl rfl rfl rfl rfl trivial ?_
          refine vNil ?_
          change VC _ _ _ _
          refine vRet ?_
          change ∃ _, _
          cases h
          exact ⟨[], _, rfl, trivial, rfl, (.eq rfl), rfl⟩
        · replace h := cnd_f hb6 h
          iterate 6 refine oValG tt rfl rfl rfl rfl rfl hb6 rfl rfl rfl trivial ?_
          obtain ⟨hg7, h⟩ := grd_inv h
          refine oValG tt rfl rfl rfl rfl rfl hb6 rfl rfl rfl hg7 ?_
          obtain ⟨hg8, h⟩ := grd_inv h
          refine oValG tt rfl rfl rfl rfl rfl hb6 rfl rfl rfl hg8 ?_
          obtain ⟨hg9, h⟩ := grd_inv h
          refine oValG tt rfl rfl rfl rfl rfl hb6 rfl rfl rfl hg9 ?_
          refine oValG tt rfl rfl rfl rfl rfl hb6 rfl rfl rfl trivial ?_
          refine oPickF rfl rfl rfl rfl rfl hb6 rfl ?_
          refine vNil ?_
          change VC _ _ _ _
          refine vCond rfl (fun hb10 => ?_) (fun hb10 => ?_)
          · replace h := cnd_t hb10 h
            refine vSeq ?_
            refine vRegion ?_
            refine oVal tt rfl rfl rfl rfl rfl trivial ?_
            refine vNil ?_
            change VC _ _ _ _
            refine vRet ?_
            change ∃ _, _
            cases h
            exact ⟨[], _, rfl, trivial, rfl, (.eq rfl), rfl⟩
          · replace h := cnd_f hb10 h
            refine vSkip ?_
            change VC _ _ _ _
            iterate 2 refine vSeq ?_
            refine vRegion ?_
            iterate 4 refine oVal tt rfl rfl rfl rfl rfl trivial ?_
            refine vNil ?_
            change VC _ _ _ _
            refine vJoin (F := fun k => I_IsPinned_l2 N p_0 k) h (α := Unit) (J := fun (_ : Unit) => (⟨[(1, .ptr 1 0), (3, .ptr 3 0)], [], [(1, some [.int p_0.g.n, .ro false (.pairs p_0.g.bars), .ro false (.ints p_0.ground)]), (3, some [.int p_0.g.n, .ro false (.pairs p_0.g.bars)])]⟩ : PS)) ?_ ?_
            · rintro ⟨⟩ h
              show VC _ _ _ (⟨[(1, .ptr 1 0), (3, .ptr 3 0)], [], [(1, some [.int p_0.g.n, .ro false (.pairs p_0.g.bars), .ro false (.ints p_0.ground)]), (3, some [.int p_0.g.n, .ro false (.pairs p_0.g.bars)])]⟩ : PS)
              iterate 2 refine vSeq ?_
              refine vRegion ?_
              iterate 4 refine oVal tt rfl rfl rfl rfl rfl trivial ?_
              refine vNil ?_
              change VC _ _ _ _
              refine vJoin (F := fun k => I_IsPinned_l1 N p_0 k) h (α := Unit) (J := fun (_ : Unit) => (⟨[], [], []⟩ : PS)) ?_ ?_
              · rintro ⟨⟩ h
                show VC _ _ _ (⟨[], [], []⟩ : PS)
                refine vSeq ?_
                refine vRegion ?_
                refine oVal tt rfl rfl rfl rfl rfl trivial ?_
                refine vNil ?_
                change VC _ _ _ _
                refine vRet ?_
                change ∃ _, _
                cases h
                exact ⟨[], _, rfl, trivial, rfl, (.eq rfl), rfl⟩
              · intro k h
                refine vBlock ?_
                refine vLoopS (α := Int) (fun (x17 : Int) => (⟨[(1, .ptr 1 0), (69, .ro false (.pairs p_0.g.bars)), (70, .int (p_0.g.bars.length : Int)), (71, .int x17)], [], [(1, some [.int p_0.g.n, .ro false (.pairs p_0.g.bars), .ro false (.ints p_0.ground)])]⟩ : PS)) (I_IsPinned_l1 N p_0 k) h (En.of ⟨rfl, rfl, rfl, rfl, trivial⟩ trivial ⟨rfl, trivial⟩) (fun _ => rfl) ?_
                rintro n x17 h
                rw [I_IsPinned_l1] at h
                show VC _ _ _ (⟨[(1, .ptr 1 0), (69, .ro false (.pairs p_0.g.bars)), (70, .int (p_0.g.bars.length : Int)), (71, .int x17)], [], [(1, some [.int p_0.g.n, .ro false (.pairs p_0.g.bars), .ro false (.ints p_0.ground)])]⟩ : PS)
                refine vSeq ?_
                refine vRegion ?_
                refine oVal tt rfl rfl rfl rfl rfl trivial ?_
                refine vNil ?_
                change VC _ _ _ _
                refine vSeq ?_
                refine vCond rfl (fun hb11 => ?_) (fun hb11 => ?_)
                · replace h := cnd_t hb11 h
                  refine vSkip ?_
                  change VC _ _ _ _
                  refine vSeq ?_
                  refine vBlock ?_
                  refine vSeq ?_
                  refine vRegion ?_
                  obtain ⟨hg12, h⟩ := grd_inv h
                  refine oVal tt rfl rfl rfl rfl rfl hg12 ?_
                  refine oVal tt rfl rfl rfl rfl rfl trivial ?_
                  refine oAlloc tt rfl rfl rfl rfl rfl rfl rfl rfl rfl ?_
                  refine oStore tt rfl rfl rfl rfl rfl rfl rfl rfl rfl rfl rfl ⟨trivial, trivial, trivial⟩ ?_
                  refine vNil ?_
                  change VC _ _ _ _
                  refine vSeq ?_
                  refine vRegion ?_
                  iterate 4 refine oVal tt rfl rfl rfl rfl rfl trivial ?_
                  obtain ⟨v20, hc13, h⟩ := bind_inv h
                  refine oCall (G_Contains_int_w N p_0.ground ((p_0.g.bars.getD ((x17).toNat) (0, 0)).1) v20 hc13) rfl rfl rfl rfl rfl rfl rfl rfl ⟨rfl, rfl, trivial⟩ ?_
                  refine oVal tt rfl rfl rfl rfl rfl trivial ?_
                  refine oSplit rfl rfl rfl (fun hb14 => ?_) (fun hb14 => ?_)
                  · replace h := cnd_t hb14 h
                    iterate 4 refine oValG tt rfl rfl rfl rfl rfl hb14 rfl rfl rfl trivial ?_
                    obtain ⟨v21, hc15, h⟩ := bind_inv h
                    refine oCallG (G_Contains_int_w N p_0.ground ((p_0.g.bars.getD ((x17).toNat) (0, 0)).2) v21 hc15) rfl rfl rfl rfl hb14 rfl rfl rfl rfl rfl rfl rfl ⟨rfl, rfl, trivial⟩ ?_
                    refine oPick rfl rfl rfl rfl rfl hb14 rfl ?_
                    refine vNil ?_
                    change VC _ _ _ _
                    refine vCond rfl (fun hb16 => ?_) (fun hb16 => ?_)
                    · replace h := cnd_t hb16 h
                      refine vSeq ?_
                      refine vRegion ?_
                      refine oVal tt rfl rfl rfl rfl rfl trivial ?_
                      refine vNil ?_
                      change VC _ _ _ _
                      refine vRet ?_
                      change ∃ _, _
                      cases h
                      exact ⟨[], _, rfl, trivial, rfl, (.eq rfl), rfl⟩
                    · replace h := cnd_f hb16 h
                      refine vSkip ?_
                      change VC _ _ _ _
                      refine vRegion ?_
                      obtain ⟨hg17, h⟩ := grd_inv h
                      refine oVal tt rfl rfl rfl rfl rfl hg17 ?_
                      refine oVal tt rfl rfl rfl rfl rfl trivial ?_
                      refine vNil ?_
                      change ∃ _, _
                      exact ⟨(x17 + (1 : Int)), (En.of ⟨rfl, rfl, rfl, rfl, trivial⟩ trivial ⟨rfl, trivial⟩), h⟩
                  · replace h := cnd_f hb14 h
                    iterate 5 refine oNoT rfl rfl rfl rfl hb14 rfl rfl ?_
                    refine oPickF rfl rfl rfl rfl rfl hb14 rfl ?_
                    refine vNil ?_
                    change VC _ _ _ _
                    refine vCondF rfl rfl ?_
                    refine vSkip ?_
                    change VC _ _ _ _
                    refine vRegion ?_
                    obtain ⟨hg18, h⟩ := grd_inv h
                    refine oVal tt rfl rfl rfl rfl rfl hg18 ?_
                    refine oVal tt rfl rfl rfl rfl rfl trivial ?_
                    refine vNil ?_
                    change ∃ _, _
                    exact ⟨(x17 + (1 : Int)), (En.of ⟨rfl, rfl, rfl, rfl, trivial⟩ trivial ⟨rfl, trivial⟩), h⟩
                · replace h := cnd_f hb11 h
                  refine vExit ?_
                  change ∃ _, _
                  exact ⟨(), (En.of trivial trivial trivial), h⟩
            · intro k h
              refine vBlock ?_
              refine vLoopS (α := Int) (fun (x24 : Int) => (⟨[(1, .ptr 1 0), (3, .ptr 3 0), (42, .ro false (.ints p_0.ground)), (43, .int (p_0.ground.length : Int)), (44, .int x24)], [], [(1, some [.int p_0.g.n, .ro false (.pairs p_0.g.bars), .ro false (.ints p_0.ground)]), (3, some [.int p_0.g.n, .ro false (.pairs p_0.g.bars)])]⟩ : PS)) (I_IsPinned_l2 N p_0 k) h (En.of ⟨rfl, rfl, rfl, rfl, rfl, trivial⟩ trivial ⟨rfl, rfl, trivial⟩) (fun _ => rfl) ?_
              rintro n x24 h
              rw [I_IsPinned_l2] at h
              show VC _ _ _ (⟨[(1, .ptr 1 0), (3, .ptr 3 0), (42, .ro false (.ints p_0.ground)), (43, .int (p_0.ground.length : Int)), (44, .int x24)], [], [(1, some [.int p_0.g.n, .ro false (.pairs p_0.g.bars), .ro false (.ints p_0.ground)]), (3, some [.int p_0.g.n, .ro false (.pairs p_0.g.bars)])]⟩ : PS)
              refine vSeq ?_
              refine vRegion ?_
              refine oVal tt rfl rfl rfl rfl rfl trivial ?_
              refine vNil ?_
              change VC _ _ _ _
              refine vSeq ?_
              refine vCond rfl (fun hb19 => ?_) (fun hb19 => ?_)
              · replace h := cnd_t hb19 h
                refine vSkip ?_
                change VC _ _ _ _
                refine vSeq ?_
                refine vBlock ?_
                refine vSeq ?_
                refine vRegion ?_
                refine oVal tt rfl rfl rfl rfl rfl trivial ?_
                obtain ⟨hg20, h⟩ := grd_inv h
                refine oVal tt rfl rfl rfl rfl rfl hg20 ?_
                iterate 3 refine oVal tt rfl rfl rfl rfl rfl trivial ?_
                refine vNil ?_
                change VC _ _ _ _
                refine vSeq ?_
                refine vRegion ?_
                iterate 2 refine oVal tt rfl rfl rfl rfl rfl trivial ?_
                obtain ⟨v26, hc21, h⟩ := bind_inv h
                refine oCall (M_Graph_has_w N p_0.g (p_0.ground.getD ((x24).toNat) 0) v26 hc21) rfl rfl rfl rfl rfl rfl rfl rfl ⟨⟨rfl, rfl, trivial⟩, rfl, trivial⟩ ?_
                iterate 2 refine oVal tt rfl rfl rfl rfl rfl trivial ?_
                refine oSplit rfl rfl rfl (fun hb22 => ?_) (fun hb22 => ?_)
                · replace h := cnd_t hb22 h
                  iterate 3 refine oNoF rfl rfl rfl rfl hb22 rfl rfl ?_
                  iterate 8 refine oNoU rfl rfl rfl rfl rfl ?_
                  refine oNoF rfl rfl rfl rfl hb22 rfl rfl ?_
                  refine oPick rfl rfl rfl rfl rfl hb22 rfl ?_
                  refine vNil ?_
                  change VC _ _ _ _
                  refine vCondT rfl rfl ?_
                  refine vSeq ?_
                  refine vRegion ?_
                  refine oVal tt rfl rfl rfl rfl rfl trivial ?_
                  refine vNil ?_
                  change VC _ _ _ _
                  refine vRet ?_
                  change ∃ _, _
                  cases h
                  exact ⟨[], _, rfl, trivial, rfl, (.eq rfl), rfl⟩
                · replace h := cnd_f hb22 h
                  iterate 3 refine oValG tt rfl rfl rfl rfl rfl hb22 rfl rfl rfl trivial ?_
                  refine oSplit rfl rfl rfl (fun hb23 => ?_) (fun hb23 => ?_)
                  · replace h := cnd_t hb23 h
                    iterate 3 refine oValG tt rfl rfl rfl rfl rfl hb23 rfl rfl rfl trivial ?_
                    obtain ⟨hg24, h⟩ := grd_inv h
                    refine oValG tt rfl rfl rfl rfl rfl hb23 rfl rfl rfl hg24 ?_
                    obtain ⟨hg25, h⟩ := grd_inv h
                    refine oValG tt rfl rfl rfl rfl rfl hb23 rfl rfl rfl hg25 ?_
                    iterate 3 refine oValG tt rfl rfl rfl rfl rfl hb23 rfl rfl rfl trivial ?_
                    refine oPickGT rfl rfl rfl rfl hb22 rfl rfl rfl rfl hb23 rfl ?_
                    refine oPickF rfl rfl rfl rfl rfl hb22 rfl ?_
                    refine vNil ?_
                    change VC _ _ _ _
                    refine vCond rfl (fun hb26 => ?_) (fun hb26 => ?_)
                    · replace h := cnd_t hb26 h
                      refine vSeq ?_
                      refine vRegion ?_
                      refine oVal tt rfl rfl rfl rfl rfl trivial ?_
                      refine vNil ?_
                      change VC _ _ _ _
                      refine vRet ?_
                      change ∃ _, _
                      cases h
                      exact ⟨[], _, rfl, trivial, rfl, (.eq rfl), rfl⟩
                    · replace h := cnd_f hb26 h
                      refine vSkip ?_
                      change VC _ _ _ _
                      refine vRegion ?_
                      obtain ⟨hg27, h⟩ := grd_inv h
                      refine oVal tt rfl rfl rfl rfl rfl hg27 ?_
                      refine oVal tt rfl rfl rfl rfl rfl trivial ?_
                      refine vNil ?_
                      change ∃ _, _
                      exact ⟨(x24 + (1 : Int)), (En.of ⟨rfl, rfl, rfl, rfl, rfl, trivial⟩ trivial ⟨rfl, rfl, trivial⟩), h⟩
                  · replace h := cnd_f hb23 h
                    iterate 8 refine oNoT rfl rfl rfl rfl hb23 rfl rfl ?_
                    refine oPickGF rfl rfl rfl rfl hb22 rfl rfl rfl rfl hb23 rfl ?_
                    refine oPickF rfl rfl rfl rfl rfl hb22 rfl ?_
                    refine vNil ?_
                    change VC _ _ _ _
                    refine vCondF rfl rfl ?_
                    refine vSkip ?_
                    change VC _ _ _ _
                    refine vRegion ?_
                    obtain ⟨hg28, h⟩ := grd_inv h
                    refine oVal tt rfl rfl rfl rfl rfl hg28 ?_
                    refine oVal tt rfl rfl rfl rfl rfl trivial ?_
                    refine vNil ?_
                    change ∃ _, _
                    exact ⟨(x24 + (1 : Int)), (En.of ⟨rfl, rfl, rfl, rfl, rfl, trivial⟩ trivial ⟨rfl, rfl, trivial⟩), h⟩
              · replace h := cnd_f hb19 h
                refine vExit ?_
                change ∃ _, _
                exact ⟨(), (En.of ⟨rfl, rfl, trivial⟩ trivial ⟨rfl, rfl, trivial⟩), h⟩
def M_Pinned_isInner (N : Nat) (p_0 : Pin) (v_1 : Int) : Option (Bool) :=
  (M_Graph_has N p_0.g v_1).bind fun v1 =>
  cnd v1 (
    (G_Contains_int N p_0.ground v_1).bind fun v2 =>
    some (!v2)) (
    some false)
set_option maxRecDepth 20000 in
set_option maxHeartbeats 1600000 in
theorem M_Pinned_isInner_w (N : Nat) (p_0 : Pin) (v_1 : Int) (r : Bool) (h : M_Pinned_isInner N p_0 v_1 = some r) : PCall Try.prog 134 [pD p_0, .int v_1] [] (.bool r) := by
  unfold M_Pinned_isInner at h
  refine pcall_intro (TT := TT) tt Try.func134 rfl rfl Try.ntmps134 (congrArg Array.toList Try.results134) rfl rfl fun w0 => ?_
  refine vSeq ?_
  refine vRegion ?_
  refine oBox rfl rfl rfl rfl rfl rfl rfl rfl rfl ?_
  refine oVal tt rfl rfl rfl rfl rfl trivial ?_
  refine vNil ?_
  change VC _ _ _ _
  refine vSeq ?_
  refine vRegion ?_
  iterate 3 refine oVal tt rfl rfl rfl rfl rfl trivial ?_
  obtain ⟨v1, hc1, h⟩ := bind_inv h
  refine oCall (M_Graph_has_w N p_0.g v_1 v1 hc1) rfl rfl rfl rfl rfl rfl rfl rfl ⟨⟨rfl, rfl, trivial⟩, rfl, trivial⟩ ?_
  refine oVal tt rfl rfl rfl rfl rfl trivial ?_
  refine oSplit rfl rfl rfl (fun hb2 => ?_) (fun hb2 => ?_)
  · replace h := cnd_t hb2 h
    iterate 3 refine oValG tt rfl rfl rfl rfl rfl hb2 rfl rfl rfl trivial ?_
    obtain ⟨v2, hc3, h⟩ := bind_inv h
    refine oCallG (G_Contains_int_w N p_0.ground v_1 v2 hc3) rfl rfl rfl rfl hb2 rfl rfl rfl rfl rfl rfl rfl ⟨rfl, rfl, trivial⟩ ?_
    refine oValG tt rfl rfl rfl rfl rfl hb2 rfl rfl rfl trivial ?_
    refine oPick rfl rfl rfl rfl rfl hb2 rfl ?_
    refine oVal tt rfl rfl rfl rfl rfl trivial ?_
    refine vNil ?_
    change VC _ _ _ _
    refine vRet ?_
    change ∃ _, _
    cases h
    exact ⟨[], _, rfl, trivial, rfl, (.eq rfl), rfl⟩
  · replace h := cnd_f hb2 h
    iterate 5 refine oNoT rfl rfl rfl rfl hb2 rfl rfl ?_
    refine oPickF rfl rfl rfl rfl rfl hb2 rfl ?_
    refine oVal tt rfl rfl rfl rfl rfl trivial ?_
    refine vNil ?_
    change VC _ _ _ _
    refine vRet ?_
    change ∃ _, _
    cases h
    exact ⟨[], _, rfl, trivial, rfl, (.eq rfl), rfl⟩
def I_InnerPoints_l1 (N : Nat) (p_0 : Pin) (k : (List Int) → Option (List Int)) : Nat → ((List Int) × Int) → Option (List Int)
  | 0, _ => none
  | n + 1, (l12, x13) =>
    cnd (decide (x13 < p_0.g.n)) (
      (G_Contains_int N p_0.ground x13).bind fun v15 =>
      cnd (!v15) (
        grd (l12.length + 1 ≤ 4294967296) <|
        grd (Rg64 (x13 + (1 : Int))) <|
        I_InnerPoints_l1 N p_0 k n ((l12 ++ ([x13] : List Int)), (x13 + (1 : Int)))) (
        grd (Rg64 (x13 + (1 : Int))) <|
        I_InnerPoints_l1 N p_0 k n (l12, (x13 + (1 : Int))))) (
      k l12)
def I_InnerPoints (N : Nat) (p_0 : Pin) : Option (List Int) :=
  (I_IsPinned N p_0).bind fun v1 =>
  cnd (!v1) (
    some ([] : List Int)) (
    I_InnerPoints_l1 N p_0 (fun (l8 : List Int) =>
          some l8) N (([] : List Int), (0 : Int)))
set_option maxRecDepth 20000 in
set_option maxHeartbeats 1600000 in
theorem I_InnerPoints_w (N : Nat) (p_0 : Pin) (r : List Int) (h : I_InnerPoints N p_0 = some r) : PCall Try.prog 79 [pD p_0] [(3, .ints r)] (.row 0 0 r.length) := by
  unfold I_InnerPoints at h
  refine pcall_intro (TT := TT) tt Try.func79 rfl rfl Try.ntmps79 (congrArg Array.toList Try.results79) rfl rfl fun w0 => ?_
  refine vSeq ?_
  refine vRegion ?_
  refine oBox rfl rfl rfl rfl rfl rfl rfl rfl rfl ?_
  refine oVal tt rfl rfl rfl rfl rfl trivial ?_
  refine vNil ?_
  change VC _ _ _ _
  refine vSeq ?_
  refine vRegion ?_
  refine oEmpty tt (wNone rfl) rfl rfl rfl rfl ?_
  refine oVal tt rfl rfl rfl rfl rfl trivial ?_
  refine vNil ?_
  change VC _ _ _ _
  iterate 2 refine vSeq ?_
  refine vRegion ?_
  refine oVal tt rfl rfl rfl rfl rfl trivial ?_
  obtain ⟨v1, hc1, h⟩ := bind_inv h
  refine oCall (I_IsPinned_w N p_0 v1 hc1) rfl rfl rfl rfl rfl rfl rfl rfl ⟨⟨rfl, rfl, rfl, trivial⟩, trivial⟩ ?_
  refine oVal tt rfl rfl rfl rfl rfl trivial ?_
  refine vNil ?_
  change VC _ _ _ _
  refine vCond rfl (fun hb2 => ?_) (fun hb2 => ?_)
  · replace h := cnd_t hb2 h
    refine vSeq ?_
    refine vRegion ?_
    iterate 2 refine oVal tt rfl rfl rfl rfl rfl trivial ?_
    refine vNil ?_
    change VC _ _ _ _
    refine vNilT 2 9001 3 (.ints []) rfl rfl rfl rfl ?_
    refine vRet ?_
    change ∃ _, _
    cases h
    exact ⟨[9001], _, rfl, ⟨rfl, trivial⟩, rfl, (.eq rfl), rfl⟩
  · replace h := cnd_f hb2 h
    refine vSkip ?_
    change VC _ _ _ _
    iterate 2 refine vSeq ?_
    refine vRegion ?_
    iterate 4 refine oVal tt rfl rfl rfl rfl rfl trivial ?_
    refine vNil ?_
    change VC _ _ _ _
    refine vJoin (F := fun k => I_InnerPoints_l1 N p_0 k) h (α := List Int) (J := fun (l8 : List Int) => (⟨[(3, .row 24 0 l8.length)], [(24, some (3, .ints l8))], []⟩ : PS)) ?_ ?_
    · rintro l8 h
      show VC _ _ _ (⟨[(3, .row 24 0 l8.length)], [(24, some (3, .ints l8))], []⟩ : PS)
      refine vSeq ?_
      refine vRegion ?_
      iterate 2 refine oVal tt rfl rfl rfl rfl rfl trivial ?_
      refine vNil ?_
      change VC _ _ _ _
      refine vRet ?_
      change ∃ _, _
      cases h
      exact ⟨[24], _, rfl, ⟨rfl, trivial⟩, rfl, (.eq rfl), rfl⟩
    · intro k h
      refine vBlock ?_
      refine vNilT 3 24 3 (.ints []) rfl rfl rfl rfl ?_
      refine vLoopS (α := (List Int) × Int) (fun | (l12, x13) => (⟨[(1, .ptr 1 0), (3, .row 24 0 l12.length), (12, .int p_0.g.n), (13, .int x13)], [(24, some (3, .ints l12))], [(1, some [.int p_0.g.n, .ro false (.pairs p_0.g.bars), .ro false (.ints p_0.ground)])]⟩ : PS)) (I_InnerPoints_l1 N p_0 k) h (En.of ⟨rfl, rfl, rfl, rfl, trivial⟩ ⟨rfl, trivial⟩ ⟨rfl, trivial⟩) (fun _ => rfl) ?_
      rintro n ⟨l12, x13⟩ h
      rw [I_InnerPoints_l1] at h
      show VC _ _ _ (⟨[(1, .ptr 1 0), (3, .row 24 0 l12.length), (12, .int p_0.g.n), (13, .int x13)], [(24, some (3, .ints l12))], [(1, some [.int p_0.g.n, .ro false (.pairs p_0.g.bars), .ro false (.ints p_0.ground)])]⟩ : PS)
      refine vSeq ?_
      refine vRegion ?_
      refine oVal tt rfl rfl rfl rfl rfl trivial ?_
      refine vNil ?_
      change VC _ _ _ _
      refine vSeq ?_
      refine vCond rfl (fun hb3 => ?_) (fun hb3 => ?_)
      · replace h := cnd_t hb3 h
        refine vSkip ?_
        change VC _ _ _ _
        refine vSeq ?_
        refine vBlock ?_
        refine vSeq ?_
        refine vRegion ?_
        iterate 2 refine oVal tt rfl rfl rfl rfl rfl trivial ?_
        refine vNil ?_
        change VC _ _ _ _
        refine vSeq ?_
        refine vRegion ?_
        iterate 3 refine oVal tt rfl rfl rfl rfl rfl trivial ?_
        obtain ⟨v15, hc4, h⟩ := bind_inv h
        refine oCall (G_Contains_int_w N p_0.ground x13 v15 hc4) rfl rfl rfl rfl rfl rfl rfl rfl ⟨rfl, rfl, trivial⟩ ?_
        refine oVal tt rfl rfl rfl rfl rfl trivial ?_
        refine vNil ?_
        change VC _ _ _ _
        refine vCond rfl (fun hb5 => ?_) (fun hb5 => ?_)
        · replace h := cnd_t hb5 h
          refine vRegion ?_
          iterate 2 refine oVal tt rfl rfl rfl rfl rfl trivial ?_
          refine oBuild tt rfl rfl rfl rfl rfl rfl rfl rfl rfl rfl rfl ?_
          obtain ⟨hg6, h⟩ := grd_inv h
          refine oAppend tt rfl rfl rfl rfl rfl rfl rfl rfl rfl rfl rfl rfl rfl rfl rfl rfl (Nat.le_of_eq (Nat.zero_add _)) hg6 ?_
          refine oVal tt rfl rfl rfl rfl rfl trivial ?_
          refine vNil ?_
          change VC _ _ _ _
          refine vRegion ?_
          obtain ⟨hg7, h⟩ := grd_inv h
          refine oVal tt rfl rfl rfl rfl rfl hg7 ?_
          refine oVal tt rfl rfl rfl rfl rfl trivial ?_
          refine vNil ?_
          change ∃ _, _
          exact ⟨((l12 ++ ([x13] : List Int)), (x13 + (1 : Int))), (En.of ⟨rfl, rfl, rfl, rfl, trivial⟩ ⟨rfl, trivial⟩ ⟨rfl, trivial⟩), h⟩
        · replace h := cnd_f hb5 h
          refine vSkip ?_
          change VC _ _ _ _
          refine vRegion ?_
          obtain ⟨hg8, h⟩ := grd_inv h
          refine oVal tt rfl rfl rfl rfl rfl hg8 ?_
          refine oVal tt rfl rfl rfl rfl rfl trivial ?_
          refine vNil ?_
          change ∃ _, _
          exact ⟨(l12, (x13 + (1 : Int))), (En.of ⟨rfl, rfl, rfl, rfl, trivial⟩ ⟨rfl, trivial⟩ ⟨rfl, trivial⟩), h⟩
      · replace h := cnd_f hb3 h
        refine vExit ?_
        change ∃ _, _
        exact ⟨l12, (En.of ⟨rfl, trivial⟩ ⟨rfl, trivial⟩ trivial), h⟩
def L_eqPinned (N : Nat) (a_0 : Pin) (b_1 : Pin) : Option (Bool) :=
  (L_eqGraph N a_0.g b_1.g).bind fun v1 =>
  cnd (!v1) (
    some false) (
    (L_eqIntS N a_0.ground b_1.ground).bind fun v2 =>
    cnd (!v2) (
      some false) (
      some true))
set_option maxRecDepth 20000 in
set_option maxHeartbeats 1600000 in
theorem L_eqPinned_w (N : Nat) (a_0 : Pin) (b_1 : Pin) (r : Bool) (h : L_eqPinned N a_0 b_1 = some r) : PCall Try.prog 31 [pD a_0, pD b_1] [] (.bool r) := by
  unfold L_eqPinned at h
  refine pcall_intro (TT := TT) tt Try.func31 rfl rfl Try.ntmps31 (congrArg Array.toList Try.results31) rfl rfl fun w0 => ?_
  refine vSeq ?_
  refine vRegion ?_
  iterate 2 refine oBox rfl rfl rfl rfl rfl rfl rfl rfl rfl ?_
  refine oVal tt rfl rfl rfl rfl rfl trivial ?_
  refine vNil ?_
  change VC _ _ _ _
  iterate 2 refine vSeq ?_
  refine vRegion ?_
  iterate 4 refine oVal tt rfl rfl rfl rfl rfl trivial ?_
  obtain ⟨v1, hc1, h⟩ := bind_inv h
  refine oCall (L_eqGraph_w N a_0.g b_1.g v1 hc1) rfl rfl rfl rfl rfl rfl rfl rfl ⟨⟨rfl, rfl, trivial⟩, ⟨rfl, rfl, trivial⟩, trivial⟩ ?_
  refine oVal tt rfl rfl rfl rfl rfl trivial ?_
  refine vNil ?_
  change VC _ _ _ _
  refine vCond rfl (fun hb2 => ?_) (fun hb2 => ?_)
  · replace h := cnd_t hb2 h
    refine vSeq ?_
    refine vRegion ?_
    refine oVal tt rfl rfl rfl rfl rfl trivial ?_
    refine vNil ?_
    change VC _ _ _ _
    refine vRet ?_
    change ∃ _, _
    cases h
    exact ⟨[], _, rfl, trivial, rfl, (.eq rfl), rfl⟩
  · replace h := cnd_f hb2 h
    refine vSkip ?_
    change VC _ _ _ _
    iterate 2 refine vSeq ?_
    refine vRegion ?_
    iterate 4 refine oVal tt rfl rfl rfl rfl rfl trivial ?_
    obtain ⟨v2, hc3, h⟩ := bind_inv h
    refine oCall (L_eqIntS_w N a_0.ground b_1.ground v2 hc3) rfl rfl rfl rfl rfl rfl rfl rfl ⟨rfl, rfl, trivial⟩ ?_
    refine oVal tt rfl rfl rfl rfl rfl trivial ?_
    refine vNil ?_
    change VC _ _ _ _
    refine vCond rfl (fun hb4 => ?_) (fun hb4 => ?_)
    · replace h := cnd_t hb4 h
      refine vSeq ?_
      refine vRegion ?_
      refine oVal tt rfl rfl rfl rfl rfl trivial ?_
      refine vNil ?_
      change VC _ _ _ _
      refine vRet ?_
      change ∃ _, _
      cases h
      exact ⟨[], _, rfl, trivial, rfl, (.eq rfl), rfl⟩
    · replace h := cnd_f hb4 h
      refine vSkip ?_
      change VC _ _ _ _
      refine vSeq ?_
      refine vRegion ?_
      refine oVal tt rfl rfl rfl rfl rfl trivial ?_
      refine vNil ?_
      change VC _ _ _ _
      refine vRet ?_
      change ∃ _, _
      cases h
      exact ⟨[], _, rfl, trivial, rfl, (.eq rfl), rfl⟩
end Go.Proofs.Ytgindcgphnbnaaa

namespace Go.Proofs.Ytgindcgphnbnaaa
set_option linter.unusedVariables false
set_option linter.unusedSimpArgs false
variable (N : Nat)
/-- what is left behind n -/
def szv (left : Int) (n : Nat) : Int := if left < n then -1 else left - n
theorem szv_big {left : Int} {n : Nat} (h : left < n) : szv left n = -1 := if_pos h
theorem szv_ok {left : Int} {n : Nat} (h : ¬ left < n) : szv left n = left - n := if_neg h
abbrev B63 (n : Nat) : Prop := n ≤ 9223372036854775807

theorem szIntS_s {a : List Int} (ha : B63 a.length) {left : Int} (h0 : 0 ≤ left) (h1 : left ≤ 1048576) : L_szIntS N a left = some (szv left a.length) := by
  unfold L_szIntS
  by_cases h : left < a.length
  · rw [szv_big h]; simp (disch := omega) only [Int.toNat_natCast, tk0, List.length_cons, List.length_nil, grd_pos, grd_T, grd_R, cnd_dt, cnd_df, cnd_true, cnd_false, Option.bind_some]
  · rw [szv_ok h]; simp (disch := omega) only [Int.toNat_natCast, tk0, List.length_cons, List.length_nil, grd_pos, grd_T, grd_R, cnd_dt, cnd_df, cnd_true, cnd_false, Option.bind_some]
theorem toIntS_l {a : List Int} (ha : a.length ≤ 1048576) (k : List Int → Option (List Int)) : ∀ n i : Nat, i ≤ a.length → a.length < n + i → L_toIntS_l1 N a k n (cpy a 0 i, (i : Int)) = k a := by
  intro n
  induction n with
  | zero => intro i h1 h2; omega
  | succ n ih =>
    intro i h1 h2
    have hl := cpy_len a 0 i
    rw [L_toIntS_l1]
    by_cases hi : i < a.length
    · simp (disch := omega) only [Int.toNat_natCast, tk0, List.length_cons, List.length_nil, grd_pos, grd_T, grd_R, cnd_dt, cnd_df, cnd_true, cnd_false, Option.bind_some, List.length_replicate, hl]
      rw [cpy_set a 0 0 i hi rfl]
      exact ih (i + 1) (by omega) (by omega)
    · simp (disch := omega) only [Int.toNat_natCast, tk0, List.length_cons, List.length_nil, grd_pos, grd_T, grd_R, cnd_dt, cnd_df, cnd_true, cnd_false, Option.bind_some]
      obtain rfl : i = a.length := by omega
      rw [cpy_full]
theorem toIntS_s (hN : 4000000 ≤ N) {a : List Int} (ha : a.length ≤ 1048576) : L_toIntS N a = some a := by
  unfold L_toIntS
  have h := toIntS_l N ha (fun l9 => grd ((List.replicate (((a.length : Int)).toNat) (0 : Int)).length = l9.length) <| some l9) N 0 (by omega) (by omega)
  simp only [Int.toNat_natCast, cpy_zero] at h ⊢
  simp (disch := omega) only [Int.toNat_natCast, tk0, List.length_cons, List.length_nil, grd_pos, grd_T, grd_R, cnd_dt, cnd_df, cnd_true, cnd_false, Option.bind_some]
  refine h.trans ?_
  simp (disch := omega) only [Int.toNat_natCast, tk0, List.length_cons, List.length_nil, grd_pos, grd_T, grd_R, cnd_dt, cnd_df, cnd_true, cnd_false, Option.bind_some, cpy_len]
theorem eqIntS_l {a : List Int} (ha : a.length ≤ 1048576) (k : Unit → Option Bool) : ∀ n i : Nat, i ≤ a.length → a.length < n + i → L_eqIntS_l1 N a a k n (i : Int) = k () := by
  intro n
  induction n with
  | zero => intro i h1 h2; omega
  | succ n ih =>
    intro i h1 h2
    rw [L_eqIntS_l1]
    by_cases hi : i < a.length
    · simp (disch := omega) only [Int.toNat_natCast, tk0, List.length_cons, List.length_nil, grd_pos, grd_T, grd_R, cnd_dt, cnd_df, cnd_true, cnd_false, Option.bind_some, bne_self_eq_false]
      exact ih (i + 1) (by omega) (by omega)
    · simp (disch := omega) only [Int.toNat_natCast, tk0, List.length_cons, List.length_nil, grd_pos, grd_T, grd_R, cnd_dt, cnd_df, cnd_true, cnd_false, Option.bind_some]
theorem eqIntS_s (hN : 4000000 ≤ N) {a : List Int} (ha : a.length ≤ 1048576) : L_eqIntS N a a = some true := by
  unfold L_eqIntS
  simp (disch := omega) only [Int.toNat_natCast, tk0, List.length_cons, List.length_nil, grd_pos, grd_T, grd_R, cnd_dt, cnd_df, cnd_true, cnd_false, Option.bind_some, bne_self_eq_false]
  exact eqIntS_l N ha (fun _ => some true) N 0 (by omega) (by omega)
theorem szBarS_s {a : List (Int × Int)} (ha : B63 a.length) {left : Int} (h0 : 0 ≤ left) (h1 : left ≤ 1048576) : L_szBarS N a left = some (szv left a.length) := by
  unfold L_szBarS
  by_cases h : left < a.length
  · rw [szv_big h]; simp (disch := omega) only [Int.toNat_natCast, tk0, List.length_cons, List.length_nil, grd_pos, grd_T, grd_R, cnd_dt, cnd_df, cnd_true, cnd_false, Option.bind_some]
  · rw [szv_ok h]; simp (disch := omega) only [Int.toNat_natCast, tk0, List.length_cons, List.length_nil, grd_pos, grd_T, grd_R, cnd_dt, cnd_df, cnd_true, cnd_false, Option.bind_some]
theorem toBar_s (x : Int × Int) : L_toBar N x = some x := rfl
theorem toBarS_l {a : List (Int × Int)} (ha : a.length ≤ 1048576) (k : List (Int × Int) → Option (List (Int × Int))) : ∀ n i : Nat, i ≤ a.length → a.length < n + i → L_toBarS_l1 N a k n (cpy a (0, 0) i, (i : Int)) = k a := by
  intro n
  induction n with
  | zero => intro i h1 h2; omega
  | succ n ih =>
    intro i h1 h2
    have hl := cpy_len a (0, 0) i
    rw [L_toBarS_l1]
    by_cases hi : i < a.length
    · simp (disch := omega) only [Int.toNat_natCast, tk0, List.length_cons, List.length_nil, grd_pos, grd_T, grd_R, cnd_dt, cnd_df, cnd_true, cnd_false, Option.bind_some, List.length_replicate, hl, toBar_s]
      rw [set_pair _ _ _ _ (by omega), cpy_set a (0, 0) (0, 0) i hi rfl]
      exact ih (i + 1) (by omega) (by omega)
    · simp (disch := omega) only [Int.toNat_natCast, tk0, List.length_cons, List.length_nil, grd_pos, grd_T, grd_R, cnd_dt, cnd_df, cnd_true, cnd_false, Option.bind_some]
      obtain rfl : i = a.length := by omega
      rw [cpy_full]
theorem toBarS_s (hN : 4000000 ≤ N) {a : List (Int × Int)} (ha : a.length ≤ 1048576) : L_toBarS N a = some a := by
  unfold L_toBarS
  have h := toBarS_l N ha (fun l9 => grd ((List.replicate (((a.length : Int)).toNat) ((0, 0) : Int × Int)).length = l9.length) <| some l9) N 0 (by omega) (by omega)
  simp only [Int.toNat_natCast, cpy_zero] at h ⊢
  simp (disch := omega) only [Int.toNat_natCast, tk0, List.length_cons, List.length_nil, grd_pos, grd_T, grd_R, cnd_dt, cnd_df, cnd_true, cnd_false, Option.bind_some]
  refine h.trans ?_
  simp (disch := omega) only [Int.toNat_natCast, tk0, List.length_cons, List.length_nil, grd_pos, grd_T, grd_R, cnd_dt, cnd_df, cnd_true, cnd_false, Option.bind_some, cpy_len]
theorem eqBar_s (x : Int × Int) : L_eqBar N x x = some true := by
  unfold L_eqBar
  simp (disch := omega) only [Int.toNat_natCast, tk0, List.length_cons, List.length_nil, grd_pos, grd_T, grd_R, cnd_dt, cnd_df, cnd_true, cnd_false, Option.bind_some, bne_self_eq_false]
theorem eqBarS_l {a : List (Int × Int)} (ha : a.length ≤ 1048576) (k : Unit → Option Bool) : ∀ n i : Nat, i ≤ a.length → a.length < n + i → L_eqBarS_l1 N a a k n (i : Int) = k () := by
  intro n
  induction n with
  | zero => intro i h1 h2; omega
  | succ n ih =>
    intro i h1 h2
    rw [L_eqBarS_l1]
    by_cases hi : i < a.length
    · simp (disch := omega) only [Int.toNat_natCast, tk0, List.length_cons, List.length_nil, grd_pos, grd_T, grd_R, cnd_dt, cnd_df, cnd_true, cnd_false, Option.bind_some, bne_self_eq_false, eqBar_s, Bool.not_true]
      exact ih (i + 1) (by omega) (by omega)
    · simp (disch := omega) only [Int.toNat_natCast, tk0, List.length_cons, List.length_nil, grd_pos, grd_T, grd_R, cnd_dt, cnd_df, cnd_true, cnd_false, Option.bind_some]
theorem eqBarS_s (hN : 4000000 ≤ N) {a : List (Int × Int)} (ha : a.length ≤ 1048576) : L_eqBarS N a a = some true := by
  unfold L_eqBarS
  simp (disch := omega) only [Int.toNat_natCast, tk0, List.length_cons, List.length_nil, grd_pos, grd_T, grd_R, cnd_dt, cnd_df, cnd_true, cnd_false, Option.bind_some, bne_self_eq_false]
  exact eqBarS_l N ha (fun _ => some true) N 0 (by omega) (by omega)
abbrev lnGraph (a : Grf) : Nat := a.bars.length
abbrev BGraph (a : Grf) : Prop := B63 a.bars.length
theorem szGraph_s {a : Grf} (ha : BGraph a) {left : Int} (h0 : 0 ≤ left) (h1 : left ≤ 1048576) : L_szGraph N a left = some (szv left (lnGraph a)) := by
  unfold L_szGraph
  rw [szBarS_s N ha h0 h1]
  by_cases h : left < a.bars.length
  · rw [szv_big h]; simp (disch := omega) only [Int.toNat_natCast, tk0, List.length_cons, List.length_nil, grd_pos, grd_T, grd_R, cnd_dt, cnd_df, cnd_true, cnd_false, Option.bind_some]
  · rw [szv_ok h]; simp (disch := omega) only [Int.toNat_natCast, tk0, List.length_cons, List.length_nil, grd_pos, grd_T, grd_R, cnd_dt, cnd_df, cnd_true, cnd_false, Option.bind_some]
theorem toGraph_s (hN : 4000000 ≤ N) {a : Grf} (ha : lnGraph a ≤ 1048576) : L_toGraph N a = some a := by
  unfold L_toGraph
  rw [toBarS_s N hN (a := a.bars) (by have := ha; simp only [lnGraph] at this; omega)]
  rfl
theorem eqGraph_s (hN : 4000000 ≤ N) {a : Grf} (ha : lnGraph a ≤ 1048576) : L_eqGraph N a a = some true := by
  unfold L_eqGraph
  rw [eqBarS_s N hN (a := a.bars) (by have := ha; simp only [lnGraph] at this; omega)]
  simp only [bne_self_eq_false]; rfl
abbrev lnRaise (a : Rse) : Nat := a.bars.length
abbrev BRaise (a : Rse) : Prop := B63 a.bars.length
theorem szRaise_s {a : Rse} (ha : BRaise a) {left : Int} (h0 : 0 ≤ left) (h1 : left ≤ 1048576) : L_szRaise N a left = some (szv left (lnRaise a)) := by
  unfold L_szRaise
  rw [szIntS_s N ha h0 h1]
  by_cases h : left < a.bars.length
  · rw [szv_big h]; simp (disch := omega) only [Int.toNat_natCast, tk0, List.length_cons, List.length_nil, grd_pos, grd_T, grd_R, cnd_dt, cnd_df, cnd_true, cnd_false, Option.bind_some]
  · rw [szv_ok h]; simp (disch := omega) only [Int.toNat_natCast, tk0, List.length_cons, List.length_nil, grd_pos, grd_T, grd_R, cnd_dt, cnd_df, cnd_true, cnd_false, Option.bind_some]
theorem toRaise_s (hN : 4000000 ≤ N) {a : Rse} (ha : lnRaise a ≤ 1048576) : L_toRaise N a = some a := by
  unfold L_toRaise
  rw [toIntS_s N hN (a := a.bars) (by have := ha; simp only [lnRaise] at this; omega)]
  rfl
theorem eqRaise_s (hN : 4000000 ≤ N) {a : Rse} (ha : lnRaise a ≤ 1048576) : L_eqRaise N a a = some true := by
  unfold L_eqRaise
  rw [eqIntS_s N hN (a := a.bars) (by have := ha; simp only [lnRaise] at this; omega)]
  simp only [bne_self_eq_false]; rfl
abbrev lnPinned (a : Pin) : Nat := a.g.bars.length + a.ground.length
abbrev BPinned (a : Pin) : Prop := B63 a.g.bars.length ∧ B63 a.ground.length
theorem szPinned_s {a : Pin} (ha : BPinned a) {left : Int} (h0 : 0 ≤ left) (h1 : left ≤ 1048576) : L_szPinned N a left = some (szv left (lnPinned a)) := by
  unfold L_szPinned
  have e : lnPinned a = (lnGraph a.g) + a.ground.length := rfl
  rw [szGraph_s N ha.1 h0 h1]
  by_cases h : left < (lnGraph a.g)
  · rw [szv_big h, szv_big (by omega)]; simp (disch := omega) only [Int.toNat_natCast, tk0, List.length_cons, List.length_nil, grd_pos, grd_T, grd_R, cnd_dt, cnd_df, cnd_true, cnd_false, Option.bind_some]
  · rw [szv_ok h]
    simp (disch := omega) only [Int.toNat_natCast, tk0, List.length_cons, List.length_nil, grd_pos, grd_T, grd_R, cnd_dt, cnd_df, cnd_true, cnd_false, Option.bind_some]
    rw [szIntS_s N ha.2 (by omega) (by omega)]
    by_cases h' : left - (lnGraph a.g) < a.ground.length
    · rw [szv_big h', szv_big (by omega)]; simp (disch := omega) only [Int.toNat_natCast, tk0, List.length_cons, List.length_nil, grd_pos, grd_T, grd_R, cnd_dt, cnd_df, cnd_true, cnd_false, Option.bind_some]
    · rw [szv_ok h', szv_ok (by omega)]
      simp (disch := omega) only [Int.toNat_natCast, tk0, List.length_cons, List.length_nil, grd_pos, grd_T, grd_R, cnd_dt, cnd_df, cnd_true, cnd_false, Option.bind_some]
      congr 1; omega
theorem toPinned_s (hN : 4000000 ≤ N) {a : Pin} (ha : lnPinned a ≤ 1048576) : L_toPinned N a = some a := by
  unfold L_toPinned
  rw [toGraph_s N hN (a := a.g) (by have := ha; simp only [lnPinned] at this; simp only [lnGraph]; omega), Option.bind_some, toIntS_s N hN (a := a.ground) (by have := ha; simp only [lnPinned] at this; omega)]
  rfl
theorem eqPinned_s (hN : 4000000 ≤ N) {a : Pin} (ha : lnPinned a ≤ 1048576) : L_eqPinned N a a = some true := by
  unfold L_eqPinned
  rw [eqGraph_s N hN (a := a.g) (by have := ha; simp only [lnPinned] at this; simp only [lnGraph]; omega), Option.bind_some, eqIntS_s N hN (a := a.ground) (by have := ha; simp only [lnPinned] at this; omega)]
  rfl
abbrev lnFramework (a : Frm) : Nat := a.g.bars.length + a.places.length
abbrev lnLinkage (a : Lnk) : Nat := a.f.g.bars.length + a.f.places.length + a.ground.length
end Go.Proofs.Ytgindcgphnbnaaa

namespace Go.Proofs.Ytgindcgphnbnaaa
open Go.RowKit
set_option linter.unusedVariables false
set_option linter.unusedSimpArgs false
end Go.Proofs.Ytgindcgphnbnaaa

namespace Go.Proofs.Ytgindcgphnbnaaa
open Go.RowKit
set_option linter.unusedVariables false
set_option linter.unusedSimpArgs false
end Go.Proofs.Ytgindcgphnbnaaa

namespace Go.Proofs.Ytgindcgphnbnaaa
open Go.RowKit
set_option linter.unusedVariables false
set_option linter.unusedSimpArgs false
end Go.Proofs.Ytgindcgphnbnaaa

namespace Go.Proofs.Ytgindcgphnbnaaa
open Go.RowKit
set_option linter.unusedVariables false
set_option linter.unusedSimpArgs false
end Go.Proofs.Ytgindcgphnbnaaa

namespace Go.Proofs.Ytgindcgphnbnaaa
set_option linter.unusedVariables false
set_option linter.unusedSimpArgs false
variable {N : Nat}
end Go.Proofs.Ytgindcgphnbnaaa

namespace Go.Proofs.Ytgindcgphnbnaaa
set_option linter.unusedVariables false
set_option linter.unusedSimpArgs false
variable {R σ : Type}
/-- a search: goes on while ok -/
theorem srchA {F : Nat → Int → Option R} {len : Nat} {ok : Nat → Bool} {bad fin : Option R}
    (hs : ∀ n i : Nat, i < len → (∀ j, j < i → ok j = true) → F (n + 1) (i : Int) = cnd (ok i) (F n ((i + 1 : Nat) : Int)) bad) (hf : ∀ n : Nat, (∀ j, j < len → ok j = true) → F (n + 1) (len : Int) = fin) :
    ∀ n i : Nat, i ≤ len → len < n + i → (∀ j, j < i → ok j = true) → F n (i : Int) = cnd ((List.range len).all ok) fin bad := by
  intro n
  induction n with
  | zero => intro i h1 h2; omega
  | succ n ih =>
    intro i h1 h2 h3
    by_cases hi : i < len
    · rw [hs n i hi h3]
      cases ho : ok i with
      | true =>
        exact ih (i + 1) (by omega) (by omega) fun j hj => by
          rcases Nat.lt_or_ge j i with h | h
          · exact h3 j h
          · rw [show j = i by omega]; exact ho
      | false =>
        have : (List.range len).all ok = false := by
          rw [List.all_eq_false]; exact ⟨i, by simpa using hi, by simp [ho]⟩
        rw [this]; rfl
    · obtain rfl : i = len := by omega
      rw [hf n h3]
      have : (List.range i).all ok = true := by
        rw [List.all_eq_true]; intro j hj; exact h3 j (by simpa using hj)
      rw [this]; rfl
theorem srch {F : Nat → Int → Option R} {N len : Nat} {ok : Nat → Bool} {bad fin : Option R} (hN : len < N)
    (hs : ∀ n i : Nat, i < len → (∀ j, j < i → ok j = true) → F (n + 1) (i : Int) = cnd (ok i) (F n ((i + 1 : Nat) : Int)) bad) (hf : ∀ n : Nat, (∀ j, j < len → ok j = true) → F (n + 1) (len : Int) = fin) :
    F N (0 : Int) = cnd ((List.range len).all ok) fin bad :=
  srchA hs hf N 0 (by omega) (by omega) (by omega)
/-- a search that begins at 1 -/
theorem srch1 {F : Nat → Int → Option R} {N len : Nat} {ok : Nat → Bool} {bad fin : Option R} (hN : len + 1 < N) (h0 : ok 0 = true)
    (hs : ∀ n i : Nat, 0 < i → i < len → F (n + 1) (i : Int) = cnd (ok i) (F n ((i + 1 : Nat) : Int)) bad) (hf : ∀ n i : Nat, len ≤ i → F (n + 1) (i : Int) = fin) :
    F N (1 : Int) = cnd ((List.range len).all ok) fin bad := by
  have key : ∀ n i : Nat, 0 < i → i ≤ len + 1 → len + 1 < n + i → (∀ j, j < i → j < len → ok j = true) → F n (i : Int) = cnd ((List.range len).all ok) fin bad := by
    intro n
    induction n with
    | zero => intro i h1 h2 h3 h4; omega
    | succ n ih =>
      intro i h1 h4 h2 h3
      by_cases hi : i < len
      · rw [hs n i h1 hi]
        cases ho : ok i with
        | true =>
          exact ih (i + 1) (by omega) (by omega) (by omega) fun j hj hl => by
            rcases Nat.lt_or_ge j i with h | h
            · exact h3 j h hl
            · rw [show j = i by omega]; exact ho
        | false =>
          have : (List.range len).all ok = false := by
            rw [List.all_eq_false]; exact ⟨i, by simpa using hi, by simp [ho]⟩
          rw [this]; rfl
      · rw [hf n i (by omega)]
        have : (List.range len).all ok = true := by
          rw [List.all_eq_true]; intro j hj; exact h3 j (by have := List.mem_range.1 hj; omega) (by simpa using hj)
        rw [this]; rfl
  exact key N 1 (by omega) (by omega) (by omega) fun j hj _ => by rw [show j = 0 by omega]; exact h0
/-- a folding whose states are known -/
theorem foldA {F : Nat → σ × Int → Option R} {len : Nat} {st : Nat → σ} {fin : Option R} (hs : ∀ n i : Nat, i < len → F (n + 1) (st i, (i : Int)) = F n (st (i + 1), ((i + 1 : Nat) : Int))) (hf : ∀ n : Nat, F (n + 1) (st len, (len : Int)) = fin) :
    ∀ n i : Nat, i ≤ len → len < n + i → F n (st i, (i : Int)) = fin := by
  intro n
  induction n with
  | zero => intro i h1 h2; omega
  | succ n ih =>
    intro i h1 h2
    by_cases hi : i < len
    · rw [hs n i hi]; exact ih (i + 1) (by omega) (by omega)
    · obtain rfl : i = len := by omega
      exact hf n
theorem fold {F : Nat → σ × Int → Option R} {N len : Nat} {st : Nat → σ} {fin : Option R} (hN : len < N) (hs : ∀ n i : Nat, i < len → F (n + 1) (st i, (i : Int)) = F n (st (i + 1), ((i + 1 : Nat) : Int))) (hf : ∀ n : Nat, F (n + 1) (st len, (len : Int)) = fin) :
    F N (st 0, (0 : Int)) = fin := foldA hs hf N 0 (by omega) (by omega)
/-- two ways of the same choice -/
theorem cnd_congr {α : Type} {a b : Bool} (h : a = b) (x y : α) : cnd a x y = cnd b x y := by rw [h]
theorem cnd_congr' {α : Type} {a b : Bool} (h : a = !b) (x y : α) : cnd a x y = cnd b y x := by subst h; cases b <;> rfl
theorem succ_cast (i : Nat) : ((i : Int) + 1) = ((i + 1 : Nat) : Int) := rfl
theorem range_all_not_contains (l : List Int) (x : Int) : ((List.range l.length).all fun i => !(l.getD i 0 == x)) = !l.contains x := by
  rw [Bool.eq_iff_iff, List.all_eq_true]
  simp only [List.mem_range, Bool.not_eq_true', beq_eq_false_iff_ne, List.contains_eq_mem, decide_eq_false_iff_not]
  constructor
  · intro h hx
    obtain ⟨i, hi, he⟩ := List.mem_iff_getElem.1 hx
    exact h i hi (by simp [List.getD_eq_getElem?_getD, hi, he])
  · intro h i hi he
    exact h (List.mem_iff_getElem.2 ⟨i, hi, by simpa [List.getD_eq_getElem?_getD, hi] using he⟩)
end Go.Proofs.Ytgindcgphnbnaaa

namespace Go.Proofs.Ytgindcgphnbnaaa
set_option linter.unusedVariables false
set_option linter.unusedSimpArgs false
variable (N : Nat)
theorem l1In_s (x lo hi : Int) : S_l1In N x lo hi = some (inB x lo hi) := by
  unfold S_l1In inB
  rw [cnd_some]
  show some (cnd (decide (lo ≤ x)) _ _) = _
  cases decide (lo ≤ x) <;> rfl
theorem within_s (x lo hi : Int) : I_within N x lo hi = some (inB x lo hi) := by
  unfold I_within inB
  rw [cnd_some]
  show some (cnd (decide (lo ≤ x)) _ _) = _
  cases decide (lo ≤ x) <;> rfl
theorem l2Has_s (hN : 4000000 ≤ N) {l : List Int} (hl : l.length ≤ 3000000) (x : Int) : S_l2Has N l x = some (l.contains x) := by
  unfold S_l2Has
  refine (srch (len := l.length) (ok := fun i => !(l.getD i 0 == x)) (bad := some true) (fin := some false) (by omega) ?_ ?_).trans ?_
  · intro n i hi _
    rw [S_l2Has_l1]
    simp (disch := omega) only [Int.toNat_natCast, tk0, List.length_cons, List.length_nil, grd_pos, grd_T, grd_R, cnd_dt, cnd_df, cnd_true, cnd_false, Option.bind_some, cnd_not, succ_cast]
  · intro n _
    rw [S_l2Has_l1]
    simp (disch := omega) only [Int.toNat_natCast, tk0, List.length_cons, List.length_nil, grd_pos, grd_T, grd_R, cnd_dt, cnd_df, cnd_true, cnd_false, Option.bind_some]
  · rw [range_all_not_contains, cnd_some]; cases l.contains x <;> rfl
theorem indexInt_l (hN : 4000000 ≤ N) {l : List Int} (hl : l.length ≤ 3000000) (x : Int) : ∀ n i : Nat, i ≤ l.length → l.length < n + i → ∃ r : Int, G_Index_int_l1 N l x (fun _ => some (-1)) n (i : Int) = some r ∧ (decide (r ≥ 0) = (l.drop i).contains x) := by
  intro n
  induction n with
  | zero => intro i h1 h2; omega
  | succ n ih =>
    intro i h1 h2
    rw [G_Index_int_l1]
    by_cases hi : i < l.length
    · simp (disch := omega) only [Int.toNat_natCast, tk0, List.length_cons, List.length_nil, grd_pos, grd_T, grd_R, cnd_dt, cnd_df, cnd_true, cnd_false, Option.bind_some]
      rw [List.drop_eq_getElem_cons hi, List.contains_cons]
      have e : l.getD i 0 = l[i] := by simp [List.getD_eq_getElem?_getD, hi]
      rw [e]
      cases h : x == l[i] with
      | true => exact ⟨i, rfl, by simp⟩
      | false =>
        obtain ⟨r, h1, h2⟩ := ih (i + 1) (by omega) (by omega)
        exact ⟨r, h1, by rw [h2]; rfl⟩
    · simp (disch := omega) only [Int.toNat_natCast, tk0, List.length_cons, List.length_nil, grd_pos, grd_T, grd_R, cnd_dt, cnd_df, cnd_true, cnd_false, Option.bind_some]
      exact ⟨-1, rfl, by rw [List.drop_eq_nil_of_le (by omega)]; rfl⟩
theorem contains_s (hN : 4000000 ≤ N) {l : List Int} (hl : l.length ≤ 3000000) (x : Int) : G_Contains_int N l x = some (l.contains x) := by
  unfold G_Contains_int G_Index_int
  obtain ⟨r, h1, h2⟩ := indexInt_l N hN hl x N 0 (by omega) (by omega)
  rw [show (0 : Int) = ((0 : Nat) : Int) from rfl, h1]
  show some (decide (r ≥ 0)) = _
  rw [h2]; rfl
theorem l2After_s (a b : Int × Int) : S_l2After N a b = some (barLeB a b) := by
  unfold S_l2After barLeB
  simp only [cnd_some]
  cases decide (a.1 < b.1) <;> cases a.1 == b.1 <;> rfl
theorem compareInts_s (a b : Int) : I_compareInts N a b = some (cmpI a b) := by
  unfold I_compareInts cmpI
  by_cases h : a < b
  · simp (disch := omega) only [Int.toNat_natCast, tk0, List.length_cons, List.length_nil, grd_pos, grd_T, grd_R, cnd_dt, cnd_df, cnd_true, cnd_false, Option.bind_some, if_pos h]
  · by_cases h' : b < a
    · simp (disch := omega) only [Int.toNat_natCast, tk0, List.length_cons, List.length_nil, grd_pos, grd_T, grd_R, cnd_dt, cnd_df, cnd_true, cnd_false, Option.bind_some, if_neg h, if_pos h', gt_iff_lt]
    · simp (disch := omega) only [Int.toNat_natCast, tk0, List.length_cons, List.length_nil, grd_pos, grd_T, grd_R, cnd_dt, cnd_df, cnd_true, cnd_false, Option.bind_some, if_neg h, if_neg h', gt_iff_lt]
theorem compareBars_s (a b : Int × Int) : I_compareBars N a b = some (cmpBar a b) := by
  unfold I_compareBars cmpBar
  simp only [compareInts_s, Option.bind_some]
  by_cases h : cmpI a.1 b.1 = 0
  · rw [if_pos h, cnd_nef h]
  · rw [if_neg h, cnd_net h]
theorem cmpBar_gt (a b : Int × Int) : decide (cmpBar a b > 0) = !barLeB a b := by
  have := cmpBar_pos a b
  cases h : barLeB a b with
  | true => rw [h] at this; simp at this; simp; omega
  | false => rw [h] at this; simp at this; simp; omega
theorem isGraphS_s (hN : 4000000 ≤ N) {g : Grf} : S_IsGraph N g = some (isGraph g) := by
  unfold S_IsGraph isGraph
  rw [l1In_s, Option.bind_some, cnd_not]
  cases h1 : inB g.n 1 8 with
  | false => rfl
  | true =>
    by_cases h2 : g.bars.length ≤ 24
    · simp (disch := omega) only [Int.toNat_natCast, tk0, List.length_cons, List.length_nil, grd_pos, grd_T, grd_R, cnd_dt, cnd_df, cnd_true, cnd_false, Option.bind_some]
      refine (srch (len := g.bars.length) (ok := barAt g.n g.bars) (bad := some false) (fin := some true) (by omega) ?_ ?_).trans ?_
      · intro n i hi _
        rw [S_IsGraph_l1]
        by_cases h0 : i = 0
        · subst h0
          simp (disch := omega) only [Int.toNat_natCast, tk0, List.length_cons, List.length_nil, grd_pos, grd_T, grd_R, cnd_dt, cnd_df, cnd_true, cnd_false, Option.bind_some, l2After_s, cnd_or, cnd_and, succ_cast]
          refine cnd_congr' ?_ _ _
          simp only [barAt, barOkB]
          rw [Bool.eq_iff_iff]; simp; omega
        · simp (disch := omega) only [Int.toNat_natCast, tk0, List.length_cons, List.length_nil, grd_pos, grd_T, grd_R, cnd_dt, cnd_df, cnd_true, cnd_false, Option.bind_some, l2After_s, cnd_or, cnd_and, succ_cast, show ((i : Int) - 1).toNat = i - 1 from by omega]
          refine cnd_congr' ?_ _ _
          simp only [barAt, barOkB, decide_eq_false h0, Bool.false_or]
          cases barLeB (g.bars.getD (i - 1) (0, 0)) (g.bars.getD i (0, 0)) <;> (rw [Bool.eq_iff_iff]; simp; try omega)
      · intro n _
        rw [S_IsGraph_l1]
        simp (disch := omega) only [Int.toNat_natCast, tk0, List.length_cons, List.length_nil, grd_pos, grd_T, grd_R, cnd_dt, cnd_df, cnd_true, cnd_false, Option.bind_some]
      · rw [cnd_some, cnd_bool]; simp [h2]
    · simp (disch := omega) only [Int.toNat_natCast, tk0, List.length_cons, List.length_nil, grd_pos, grd_T, grd_R, cnd_dt, cnd_df, cnd_true, cnd_false, Option.bind_some]
      simp [h2]
theorem isGraphI_s (hN : 4000000 ≤ N) {g : Grf} : I_IsGraph N g = some (isGraph g) := by
  unfold I_IsGraph isGraph
  rw [within_s, Option.bind_some, cnd_not]
  cases h1 : inB g.n 1 8 with
  | false => rfl
  | true =>
    by_cases h2 : g.bars.length ≤ 24
    · simp (disch := omega) only [Int.toNat_natCast, tk0, List.length_cons, List.length_nil, grd_pos, grd_T, grd_R, cnd_dt, cnd_df, cnd_true, cnd_false, Option.bind_some]
      refine (srch (len := g.bars.length) (ok := barAt g.n g.bars) (bad := some false) (fin := some true) (by omega) ?_ ?_).trans ?_
      · intro n i hi _
        rw [I_IsGraph_l1]
        by_cases h0 : i = 0
        · subst h0
          simp (disch := omega) only [Int.toNat_natCast, tk0, List.length_cons, List.length_nil, grd_pos, grd_T, grd_R, cnd_dt, cnd_df, cnd_true, cnd_false, Option.bind_some, compareBars_s, cmpBar_gt, cnd_or, cnd_and, succ_cast]
          refine cnd_congr' ?_ _ _
          simp only [barAt, barOkB]
          rw [Bool.eq_iff_iff]; simp; omega
        · simp (disch := omega) only [Int.toNat_natCast, tk0, List.length_cons, List.length_nil, grd_pos, grd_T, grd_R, cnd_dt, cnd_df, cnd_true, cnd_false, Option.bind_some, compareBars_s, cmpBar_gt, cnd_or, cnd_and, succ_cast, show ((i : Int) - 1).toNat = i - 1 from by omega]
          refine cnd_congr' ?_ _ _
          simp only [barAt, barOkB, decide_eq_false h0, Bool.false_or]
          cases barLeB (g.bars.getD (i - 1) (0, 0)) (g.bars.getD i (0, 0)) <;> (rw [Bool.eq_iff_iff]; simp; try omega)
      · intro n _
        rw [I_IsGraph_l1]
        simp (disch := omega) only [Int.toNat_natCast, tk0, List.length_cons, List.length_nil, grd_pos, grd_T, grd_R, cnd_dt, cnd_df, cnd_true, cnd_false, Option.bind_some]
      · rw [cnd_some, cnd_bool]; simp [h2]
    · simp (disch := omega) only [Int.toNat_natCast, tk0, List.length_cons, List.length_nil, grd_pos, grd_T, grd_R, cnd_dt, cnd_df, cnd_true, cnd_false, Option.bind_some]
      simp [h2]
end Go.Proofs.Ytgindcgphnbnaaa

namespace Go.Proofs.Ytgindcgphnbnaaa
set_option linter.unusedVariables false
set_option linter.unusedSimpArgs false
variable (N : Nat)
theorem all_not_dbl (l : List (Int × Int)) : ((List.range l.length).all fun i => !doubleAt l i) = !hasDbl l := by
  simp only [hasDbl, List.not_any_eq_all_not]
theorem pair_eq (a b : Int × Int) : ((a.1 == b.1) && (a.2 == b.2)) = (a == b) := by
  obtain ⟨x, y⟩ := a; obtain ⟨u, v⟩ := b; rfl
theorem hasDoubles_s (hN : 4000000 ≤ N) {g : Grf} (hb : g.bars.length ≤ 3000000) : I_hasDoubles N g = some (hasDbl g.bars) := by
  unfold I_hasDoubles
  refine (srch1 (len := g.bars.length) (ok := fun i => !doubleAt g.bars i) (bad := some true) (fin := some false) (by omega) rfl ?_ ?_).trans ?_
  · intro n i h0 hi
    rw [I_hasDoubles_l1]
    simp (disch := omega) only [Int.toNat_natCast, tk0, List.length_cons, List.length_nil, grd_pos, grd_T, grd_R, cnd_dt, cnd_df, cnd_true, cnd_false, Option.bind_some, succ_cast, pair_eq, show ((i : Int) - 1).toNat = i - 1 from by omega]
    refine cnd_congr' ?_ _ _
    simp [doubleAt, h0]
  · intro n i hi
    rw [I_hasDoubles_l1]
    simp (disch := omega) only [Int.toNat_natCast, tk0, List.length_cons, List.length_nil, grd_pos, grd_T, grd_R, cnd_dt, cnd_df, cnd_true, cnd_false, Option.bind_some]
  · rw [all_not_dbl, cnd_some]; cases hasDbl g.bars <;> rfl
theorem l17Simple_s (hN : 4000000 ≤ N) {g : Grf} (hb : g.bars.length ≤ 3000000) : S_l17Simple N g = some (isSimple g) := by
  unfold S_l17Simple isSimple
  refine (srch1 (len := g.bars.length) (ok := fun i => !doubleAt g.bars i) (bad := some false) (fin := some (isGraph g)) (by omega) rfl ?_ ?_).trans ?_
  · intro n i h0 hi
    rw [S_l17Simple_l1]
    simp (disch := omega) only [Int.toNat_natCast, tk0, List.length_cons, List.length_nil, grd_pos, grd_T, grd_R, cnd_dt, cnd_df, cnd_true, cnd_false, Option.bind_some, succ_cast, pair_eq, show ((i : Int) - 1).toNat = i - 1 from by omega]
    refine cnd_congr' ?_ _ _
    simp [doubleAt, h0]
  · intro n i hi
    rw [S_l17Simple_l1]
    simp (disch := omega) only [Int.toNat_natCast, tk0, List.length_cons, List.length_nil, grd_pos, grd_T, grd_R, cnd_dt, cnd_df, cnd_true, cnd_false, Option.bind_some, isGraphS_s N hN]
  · rw [all_not_dbl, cnd_some]; cases hasDbl g.bars <;> cases isGraph g <;> rfl
theorem ghas_s {g : Grf} (h : 0 ≤ g.n) (h' : g.n ≤ 1048576) (x : Int) : M_Graph_has N g x = some (inB x 0 (g.n - 1)) := by
  unfold M_Graph_has
  rw [w64_id (by omega) (by omega)]
  simp (disch := omega) only [Int.toNat_natCast, tk0, List.length_cons, List.length_nil, grd_pos, grd_T, grd_R, cnd_dt, cnd_df, cnd_true, cnd_false, Option.bind_some, within_s]
theorem range_all_none (gr : List Int) (l : List (Int × Int)) : ((List.range l.length).all fun i => !bothIn gr (l.getD i (0, 0))) = noneIn gr l := by
  rw [Bool.eq_iff_iff, noneIn, List.all_eq_true, List.all_eq_true]
  simp only [List.mem_range]
  constructor
  · intro h p hp
    obtain ⟨i, hi, rfl⟩ := List.getElem_of_mem hp
    simpa [List.getD_eq_getElem?_getD, hi] using h i hi
  · intro h i hi
    have := h l[i] (List.getElem_mem hi)
    simpa [List.getD_eq_getElem?_getD, hi] using this
theorem isPinned_n {p : Pin} (h : isGraph p.g = true) : 1 ≤ p.g.n ∧ p.g.n ≤ 8 ∧ p.g.bars.length ≤ 24 := by
  have := isGraph_parts h; omega
theorem isPinnedI_s (hN : 4000000 ≤ N) {p : Pin} (hb : p.g.bars.length ≤ 3000000) (hg : p.ground.length ≤ 3000000) : I_IsPinned N p = some (isPinned p) := by
  unfold I_IsPinned isPinned
  rw [isGraphI_s N hN, Option.bind_some, cnd_not]
  cases h1 : isGraph p.g with
  | false => rfl
  | true =>
    obtain ⟨hn1, hn2, hbl⟩ := isPinned_n h1
    rw [cnd_true, hasDoubles_s N hN hb, Option.bind_some]
    cases h2 : hasDbl p.g.bars with
    | true => rfl
    | false =>
      rw [cnd_false]
      by_cases h3 : 2 ≤ p.ground.length
      · by_cases h4 : p.g.bars.length ≤ 15
        · by_cases h5 : p.g.bars.length + 2 * p.ground.length ≤ 27
          · simp (disch := omega) only [Int.toNat_natCast, tk0, List.length_cons, List.length_nil, grd_pos, grd_T, grd_R, cnd_dt, cnd_df, cnd_true, cnd_false, Option.bind_some]
            refine (srch (len := p.ground.length) (ok := ascAt p.g.n p.ground) (bad := some false) (fin := some (noneIn p.ground p.g.bars)) (by omega) ?_ ?_).trans ?_
            · intro n i hi _
              rw [I_IsPinned_l2]
              by_cases h0 : i = 0
              · subst h0
                simp (disch := omega) only [Int.toNat_natCast, tk0, List.length_cons, List.length_nil, grd_pos, grd_T, grd_R, cnd_dt, cnd_df, cnd_true, cnd_false, Option.bind_some, ghas_s N (by omega : 0 ≤ p.g.n) (by omega), cnd_not, succ_cast]
                refine cnd_congr ?_ _ _
                simp [ascAt]
              · simp (disch := omega) only [Int.toNat_natCast, tk0, List.length_cons, List.length_nil, grd_pos, grd_T, grd_R, cnd_dt, cnd_df, cnd_true, cnd_false, Option.bind_some, ghas_s N (by omega : 0 ≤ p.g.n) (by omega), succ_cast, cnd_or, show ((i : Int) - 1).toNat = i - 1 from by omega]
                refine cnd_congr' ?_ _ _
                simp only [ascAt, decide_eq_false h0, Bool.false_or]
                cases inB (p.ground.getD i 0) 0 (p.g.n - 1) <;> (rw [Bool.eq_iff_iff]; simp)
            · intro n _
              rw [I_IsPinned_l2]
              simp (disch := omega) only [Int.toNat_natCast, tk0, List.length_cons, List.length_nil, grd_pos, grd_T, grd_R, cnd_dt, cnd_df, cnd_true, cnd_false, Option.bind_some]
              refine (srch (len := p.g.bars.length) (ok := fun i => !bothIn p.ground (p.g.bars.getD i (0, 0))) (bad := some false) (fin := some true) (by omega) ?_ ?_).trans ?_
              · intro n i hi _
                rw [I_IsPinned_l1]
                simp (disch := omega) only [Int.toNat_natCast, tk0, List.length_cons, List.length_nil, grd_pos, grd_T, grd_R, cnd_dt, cnd_df, cnd_true, cnd_false, Option.bind_some, contains_s N hN hg, succ_cast, cnd_and]
                refine cnd_congr' ?_ _ _
                simp [bothIn]
              · intro n _
                rw [I_IsPinned_l1]
                simp (disch := omega) only [Int.toNat_natCast, tk0, List.length_cons, List.length_nil, grd_pos, grd_T, grd_R, cnd_dt, cnd_df, cnd_true, cnd_false, Option.bind_some]
              · rw [range_all_none, cnd_some, cnd_bool]
            · rw [cnd_some, show (List.range p.ground.length).all (ascAt p.g.n p.ground) = asc p.g.n p.ground from rfl]
              simp only [decide_eq_true h3, decide_eq_true h4, decide_eq_true h5]
              cases asc p.g.n p.ground <;> cases noneIn p.ground p.g.bars <;> rfl
          · simp (disch := omega) only [Int.toNat_natCast, tk0, List.length_cons, List.length_nil, grd_pos, grd_T, grd_R, cnd_dt, cnd_df, cnd_true, cnd_false, Option.bind_some]
            simp [h5]
        · simp (disch := omega) only [Int.toNat_natCast, tk0, List.length_cons, List.length_nil, grd_pos, grd_T, grd_R, cnd_dt, cnd_df, cnd_true, cnd_false, Option.bind_some]
          simp [h4]
      · simp (disch := omega) only [Int.toNat_natCast, tk0, List.length_cons, List.length_nil, grd_pos, grd_T, grd_R, cnd_dt, cnd_df, cnd_true, cnd_false, Option.bind_some]
        simp [h3]
theorem isPinnedS_s (hN : 4000000 ≤ N) {p : Pin} (hb : p.g.bars.length ≤ 3000000) (hg : p.ground.length ≤ 3000000) : S_IsPinned N p = some (isPinned p) := by
  unfold S_IsPinned
  refine (srch (len := p.ground.length) (ok := ascAt p.g.n p.ground) (bad := some false) (fin := cnd (noneIn p.ground p.g.bars) (some (isSimple p.g && decide (2 ≤ p.ground.length) && decide (p.g.bars.length ≤ 15) && decide (p.g.bars.length + 2 * p.ground.length ≤ 27))) (some false)) (by omega) ?_ ?_).trans ?_
  · intro n i hi _
    rw [S_IsPinned_l2]
    by_cases h0 : i = 0
    · subst h0
      simp (disch := omega) only [Int.toNat_natCast, tk0, List.length_cons, List.length_nil, grd_pos, grd_T, grd_R, cnd_dt, cnd_df, cnd_true, cnd_false, Option.bind_some, cnd_or, succ_cast]
      refine cnd_congr' ?_ _ _
      simp only [ascAt, inB]
      rw [Bool.eq_iff_iff]; simp; omega
    · simp (disch := omega) only [Int.toNat_natCast, tk0, List.length_cons, List.length_nil, grd_pos, grd_T, grd_R, cnd_dt, cnd_df, cnd_true, cnd_false, Option.bind_some, succ_cast, cnd_or, show ((i : Int) - 1).toNat = i - 1 from by omega]
      refine cnd_congr' ?_ _ _
      simp only [ascAt, inB, decide_eq_false h0, Bool.false_or]
      rw [Bool.eq_iff_iff]; simp; omega
  · intro n _
    rw [S_IsPinned_l2]
    simp (disch := omega) only [Int.toNat_natCast, tk0, List.length_cons, List.length_nil, grd_pos, grd_T, grd_R, cnd_dt, cnd_df, cnd_true, cnd_false, Option.bind_some]
    refine (srch (len := p.g.bars.length) (ok := fun i => !bothIn p.ground (p.g.bars.getD i (0, 0))) (bad := some false) (fin := some (isSimple p.g && decide (2 ≤ p.ground.length) && decide (p.g.bars.length ≤ 15) && decide (p.g.bars.length + 2 * p.ground.length ≤ 27))) (by omega) ?_ ?_).trans ?_
    · intro n i hi _
      rw [S_IsPinned_l1]
      simp (disch := omega) only [Int.toNat_natCast, tk0, List.length_cons, List.length_nil, grd_pos, grd_T, grd_R, cnd_dt, cnd_df, cnd_true, cnd_false, Option.bind_some, l2Has_s N hN hg, succ_cast, cnd_and]
      refine cnd_congr' ?_ _ _
      simp [bothIn]
    · intro n _
      rw [S_IsPinned_l1]
      simp (disch := omega) only [Int.toNat_natCast, tk0, List.length_cons, List.length_nil, grd_pos, grd_T, grd_R, cnd_dt, cnd_df, cnd_true, cnd_false, Option.bind_some, l17Simple_s N hN hb]
      simp only [cnd_some]
      congr 1
      rw [show decide ((p.ground.length : Int) ≥ 2) = decide (2 ≤ p.ground.length) from by rw [Bool.eq_iff_iff]; simp; omega, show decide ((p.g.bars.length : Int) ≤ 15) = decide (p.g.bars.length ≤ 15) from by rw [Bool.eq_iff_iff]; simp; omega,
        show decide ((p.g.bars.length : Int) + 2 * (p.ground.length : Int) - 3 ≤ 24) = decide (p.g.bars.length + 2 * p.ground.length ≤ 27) from by rw [Bool.eq_iff_iff]; simp; omega]
      cases isSimple p.g <;> cases decide (2 ≤ p.ground.length) <;> cases decide (p.g.bars.length ≤ 15) <;> rfl
    · rw [range_all_none]
  · rw [show (List.range p.ground.length).all (ascAt p.g.n p.ground) = asc p.g.n p.ground from rfl]
    simp only [cnd_some]
    congr 1
    unfold isPinned isSimple
    cases asc p.g.n p.ground <;> cases noneIn p.ground p.g.bars <;> simp [cnd]
end Go.Proofs.Ytgindcgphnbnaaa
