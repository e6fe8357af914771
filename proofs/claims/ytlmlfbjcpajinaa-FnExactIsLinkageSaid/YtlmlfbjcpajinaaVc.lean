/- The operations that only reckon and read. No program in sight. -/
import Derived.Test.YtlmlfbjcpajinaaVb
namespace Go.Proofs.Ytlmlfbjcpajinaa
open Go.RowKit
set_option linter.unusedSimpArgs false
set_option linter.unusedVariables false

/-- What is told of a type: a struct (offsets and sizes of its fields, its zero's cells) · a slice (element type, kind, bytes of an element) · another one (its zero). -/
inductive Ty where
  | st (offs : List (Nat × Nat)) (zs : List Value)
  | sl (e : TypeId) (k : Sq) (bytes : Nat)
  | sc (z : Value)
def Sq.zero1 : Sq → List Value
  | .ints _ => [.int .i64 0] | .pairs _ => [.int .i64 0, .int .i64 0] | .bools _ => [.bool false] | .raises _ => [.int .i64 0, .slice none 0 0] | .strs _ => [.string ByteArray.empty]
  | _ => [.slice none 0 0]
def TyOK (P : Program) (t : TypeId) : Ty → Prop
  | .st offs zs => (∃ fs, P.underlying t = some (.struct fs) ∧ ∀ (f : Nat) o, offs[f]? = some o → ∃ (fd : Field) (i : TypeInfo), fs[f]? = some fd ∧ fd.offset = o.1 ∧ P.info? fd.type = some i ∧ i.size = o.2 ∧ o.2 ≠ 0) ∧
      (∃ i, P.info? t = some i ∧ i.size = zs.length ∧ i.zero = some (.agg zs.toArray)) ∧ ∀ v ∈ zs, v.oneCell' = true
  | .sl e k bytes => P.underlying t = some (.slice e) ∧ (∃ i, P.info? t = some i ∧ i.size = 1 ∧ i.zero = some (.slice none 0 0)) ∧
      ∃ i, P.info? e = some i ∧ i.size = k.sz ∧ i.bytes = bytes ∧ ∃ z, i.zero = some z ∧ z.cells = k.zero1.toArray
  | .sc z => (∃ d, P.underlying t = some d ∧ (∀ fs, d ≠ .struct fs) ∧ ∀ k e, d ≠ .array k e) ∧ (∃ i, P.info? t = some i ∧ i.size = 1 ∧ i.zero = some z) ∧ z.oneCell' = true
/-- equality of plain values, decided -/
def vEq : Value → Value → Bool
  | .int .i64 a, .int .i64 b => a == b
  | .bool a, .bool b => a == b
  | .slice none 0 0, .slice none 0 0 => true
  | .string a, .string b => a.data.toList == b.data.toList
  | _, _ => false
theorem vEq_ok {a b : Value} (h : vEq a b = true) : a = b := by
  unfold vEq at h
  split at h <;> simp at h
  · subst h; rfl
  · subst h; rfl
  · rfl
  · rename_i x y
    cases x; cases y; simp at h; simp [h]
def vEqL : List Value → List Value → Bool
  | [], [] => true
  | a :: l, b :: m => vEq a b && vEqL l m
  | _, _ => false
theorem vEqL_ok : ∀ {a b : List Value}, vEqL a b = true → a = b
  | [], [], _ => rfl
  | a :: l, b :: m, h => by simp [vEqL] at h; rw [vEq_ok h.1, vEqL_ok h.2]
  | [], _ :: _, h => by simp [vEqL] at h
  | _ :: _, [], h => by simp [vEqL] at h
def tyB (P : Program) (t : TypeId) : Ty → Bool
  | .st offs zs => (match P.underlying t with
      | some (.struct fs) => offs.zipIdx.all fun (o, f) => match fs[f]? with
        | some fd => fd.offset == o.1 && (match P.info? fd.type with | some i => i.size == o.2 && o.2 != 0 | none => false)
        | none => false
      | _ => false) && (match P.info? t with
      | some i => i.size == zs.length && (match i.zero with | some (.agg z) => vEqL z.toList zs | _ => false)
      | none => false) && zs.all Value.oneCell'
  | .sl e k bytes => (match P.underlying t with | some (.slice e') => e' == e | _ => false) && (match P.info? t with
      | some i => i.size == 1 && (match i.zero with | some z => vEq z (.slice none 0 0) | _ => false)
      | none => false) && (match P.info? e with
      | some i => i.size == k.sz && i.bytes == bytes && (match i.zero with | some z => vEqL z.cells.toList k.zero1 | none => false)
      | none => false)
  | .sc z => (match P.underlying t with | some (.struct _) => false | some (.array _ _) => false | some _ => true | none => false) && (match P.info? t with
      | some i => i.size == 1 && (match i.zero with | some z' => vEq z' z | none => false)
      | none => false) && z.oneCell'
theorem tyB_ok {P : Program} {t : TypeId} {y : Ty} (h : tyB P t y = true) : TyOK P t y := by
  cases y with
  | st offs zs =>
    simp only [tyB, Bool.and_eq_true] at h
    obtain ⟨⟨h1, h2⟩, h3⟩ := h
    refine ⟨?_, ?_, by simpa using h3⟩
    · split at h1
      · rename_i fs hfs
        refine ⟨fs, hfs, fun f o ho => ?_⟩
        rw [List.all_eq_true] at h1
        have := h1 (o, f) (by rw [List.mem_zipIdx_iff_getElem?]; exact ho)
        simp only at this
        split at this
        · rename_i fd hfd
          simp only [Bool.and_eq_true, beq_iff_eq] at this
          obtain ⟨h5, h6⟩ := this
          split at h6
          · rename_i i hi
            simp only [Bool.and_eq_true, beq_iff_eq] at h6
            exact ⟨fd, i, hfd, h5, hi, h6.1, by simpa using h6.2⟩
          all_goals cases h6
        all_goals cases this
      all_goals cases h1
    · split at h2
      · rename_i i hi
        simp only [Bool.and_eq_true, beq_iff_eq] at h2
        obtain ⟨h5, h6⟩ := h2
        split at h6
        · rename_i z hz
          refine ⟨i, hi, h5, ?_⟩
          rw [hz, ← vEqL_ok h6]
        all_goals cases h6
      all_goals cases h2
  | sl e k bytes =>
    simp only [tyB, Bool.and_eq_true] at h
    obtain ⟨⟨h1, h2⟩, h3⟩ := h
    refine ⟨?_, ?_, ?_⟩
    · split at h1
      · rename_i e' he
        simp at h1; rw [he, h1]
      all_goals cases h1
    · split at h2
      · rename_i i hi
        simp only [Bool.and_eq_true, beq_iff_eq] at h2
        obtain ⟨h5, h6⟩ := h2
        split at h6
        · rename_i z hz
          exact ⟨i, hi, h5, by rw [hz, vEq_ok h6]⟩
        all_goals cases h6
      all_goals cases h2
    · split at h3
      · rename_i i hi
        simp only [Bool.and_eq_true, beq_iff_eq] at h3
        obtain ⟨⟨h5, h5'⟩, h6⟩ := h3
        split at h6
        · rename_i z hz
          exact ⟨i, hi, h5, h5', z, hz, by rw [← vEqL_ok h6]⟩
        all_goals cases h6
      all_goals cases h3
  | sc z =>
    simp only [tyB, Bool.and_eq_true] at h
    obtain ⟨⟨h1, h2⟩, h3⟩ := h
    refine ⟨?_, ?_, h3⟩
    · split at h1
      · cases h1
      · cases h1
      · rename_i d h7 h8 h9
        exact ⟨d, h9, fun fs he => h7 fs he, fun k e he => h8 k e he⟩
      all_goals cases h1
    · split at h2
      · rename_i i hi
        simp only [Bool.and_eq_true, beq_iff_eq] at h2
        obtain ⟨h5, h6⟩ := h2
        split at h6
        · rename_i z' hz
          exact ⟨i, hi, h5, by rw [hz, vEq_ok h6]⟩
        all_goals cases h6
      all_goals cases h2
def TTOK (P : Program) (TT : List (Nat × Ty)) : Prop := ∀ t y, look TT t = some y → TyOK P t y
theorem tt_ok {P : Program} {TT : List (Nat × Ty)} (h : (TT.all fun p => tyB P p.1 p.2) = true) : TTOK P TT := fun t y hl => by
  rw [List.all_eq_true] at h
  exact tyB_ok (h _ (look_mem hl))

/-! ### values -/
section
variable {M : Mp} {A : Bool → Nat → Prop} {w : World}
theorem VR.int_inv {n : Int} {v : Value} (h : VR M A w (.int n) v) : v = .int .i64 n := by cases h; rfl
theorem VR.bool_inv {b : Bool} {v : Value} (h : VR M A w (.bool b) v) : v = .bool b := by cases h; rfl
theorem VR.val_inv {u v : Value} (h : VR M A w (.val u) v) : v = u := by cases h; rfl
theorem VR.nil_inv {v : Value} (h : VR M A w .nil v) : v = .slice none 0 0 := by cases h; rfl
theorem VR.agg_inv {l : List D} {v : Value} (h : VR M A w (.agg l) v) : ∃ us : Array Value, v = .agg us ∧ l.length = us.size ∧ ∀ i d, l[i]? = some d → VR M A w d (us.getD i undef) := by
  cases h with | agg _ us hl h => exact ⟨us, rfl, hl, h⟩
theorem VR.tup_inv {l : List D} {v : Value} (h : VR M A w (.tup l) v) : ∃ us : Array Value, v = .tuple us ∧ l.length = us.size ∧ ∀ i d, l[i]? = some d → VR M A w d (us.getD i undef) := by
  cases h with | tup _ us hl h => exact ⟨us, rfl, hl, h⟩
/-- a datum of one cell -/
def D.one : D → Bool
  | .int _ | .bool _ | .val _ | .nil | .ro _ _ | .row _ _ _ | .ptr _ _ => true
  | _ => false
theorem VR.one {d : D} {v : Value} (h : VR M A w d v) (hd : d.one = true) : v.oneCell' = true := by
  cases h <;> first | rfl | assumption | (simp [D.one] at hd)
theorem cells_one {v : Value} (h : v.oneCell' = true) : v.cells = #[v] := by cases v <;> first | rfl | (simp [Value.oneCell'] at h)
def D.cells : D → List D
  | .agg l => l
  | d => [d]
/-- data that can lie in memory -/
def D.flat : D → Bool
  | .agg l => l.all D.one
  | d => d.one
theorem VR.cells {d : D} {v : Value} (h : VR M A w d v) (hd : d.flat = true) : d.cells.length = v.cells.size ∧ (∀ i x, d.cells[i]? = some x → VR M A w x (v.cells.getD i undef)) ∧ ∀ u ∈ v.cells.toList, u.oneCell' = true := by
  cases d with
  | agg l =>
    obtain ⟨us, rfl, hl, hv⟩ := h.agg_inv
    refine ⟨hl, hv, fun u hu => ?_⟩
    obtain ⟨i, hi, rfl⟩ := List.getElem_of_mem hu
    simp only [Value.cells, Array.length_toList] at hi
    have h1 : l[i]? = some l[i] := List.getElem?_eq_getElem (by omega)
    have := hv i _ h1
    simp only [D.flat, List.all_eq_true] at hd
    have h2 := this.one (hd _ (List.getElem_mem _))
    simp only [Array.getD, hi, dif_pos] at h2
    simpa [Value.cells] using h2
  | _ =>
    have h1 := h.one hd
    rw [cells_one h1]
    refine ⟨rfl, fun i x hx => ?_, fun u hu => by simp at hu; subst hu; exact h1⟩
    rcases i with _ | i
    · simp [D.cells] at hx; subst hx; exact h
    · simp [D.cells] at hx
end

def Rg64 (x : Int) : Prop := -9223372036854775808 ≤ x ∧ x ≤ 9223372036854775807
theorem R64_wrap {x : Int} (h : Rg64 x) : IntKind.i64.wrap x = x := IntWalk.i64_in _ (by unfold Rg64 at h; omega)
def andI (a b : Int) : Int := IntKind.i64.wrap ((BitVec.ofInt 64 a &&& BitVec.ofInt 64 b).toNat : Int)
def orI (a b : Int) : Int := IntKind.i64.wrap ((BitVec.ofInt 64 a ||| BitVec.ofInt 64 b).toNat : Int)
def shrI (a b : Int) : Int := a.fdiv (2 ^ (min b.toNat 64))
def evalBin (op : BinOp) : D → D → Option (Prop × D)
  | .int a, .int b => match op with
    | .add => some (Rg64 (a + b), .int (a + b))
    | .sub => some (Rg64 (a - b), .int (a - b))
    | .mul => some (Rg64 (a * b), .int (a * b))
    | .quo => some (b ≠ 0 ∧ Rg64 (a.tdiv b), .int (a.tdiv b))
    | .rem => some (b ≠ 0, .int (a.tmod b))
    | .and => some (True, .int (andI a b))
    | .or => some (True, .int (orI a b))
    | .shl => some (0 ≤ b ∧ b < 64 ∧ Rg64 (a * 2 ^ b.toNat), .int (a * 2 ^ b.toNat))
    | .shr => some (0 ≤ b, .int (shrI a b))
    | .eql => some (True, .bool (a == b))
    | .neq => some (True, .bool (a != b))
    | .lss => some (True, .bool (decide (a < b)))
    | .leq => some (True, .bool (decide (a ≤ b)))
    | .gtr => some (True, .bool (decide (a > b)))
    | .geq => some (True, .bool (decide (a ≥ b)))
    | _ => none
  | _, _ => none
theorem evalBin_ok {P : Program} {M : Mp} {A : Bool → Nat → Prop} {w : World} {op : BinOp} {t : TypeId} {x y : Operand} {dx dy d : D} {ob : Prop} {vx vy : Value} (h : evalBin op dx dy = some (ob, d)) (ho : ob)
    (hx : VR M A w dx vx) (hy : VR M A w dy vy) : ∃ v, (do eqGuard op t x y vx vy; binOp op t vx vy : Sem Value).run P w = .ok v w ∧ VR M A w d v := by
  cases dx <;> first | (simp [evalBin] at h; done) | skip
  cases dy <;> first | (simp [evalBin] at h; done) | skip
  rename_i a b
  have e1 := hx.int_inv
  have e2 := hy.int_inv
  subst e1 e2
  simp only [evalBin] at h
  split at h <;> simp only [Option.some.injEq, Prod.mk.injEq, reduceCtorEq] at h <;> obtain ⟨rfl, rfl⟩ := h
  · exact ⟨_, by simp [eqGuard, binOp, Op.intArith, go_sem] <;> rfl, by rw [R64_wrap ho]; exact .int _⟩
  · exact ⟨_, by simp [eqGuard, binOp, Op.intArith, go_sem] <;> rfl, by rw [R64_wrap ho]; exact .int _⟩
  · exact ⟨_, by simp [eqGuard, binOp, Op.intArith, go_sem] <;> rfl, by rw [R64_wrap ho]; exact .int _⟩
  · obtain ⟨h1, h2⟩ := ho
    exact ⟨_, by simp [eqGuard, binOp, Op.intDiv, go_sem, h1] <;> rfl, by rw [R64_wrap h2]; exact .int _⟩
  · exact ⟨_, by simp [eqGuard, binOp, Op.intDiv, go_sem, ho] <;> rfl, .int _⟩
  · exact ⟨_, by simp [eqGuard, binOp, Op.intBits, go_sem, IntKind.bits] <;> rfl, .int _⟩
  · exact ⟨_, by simp [eqGuard, binOp, Op.intBits, go_sem, IntKind.bits] <;> rfl, .int _⟩
  · obtain ⟨h1, h2, h3⟩ := ho
    have h4 : ¬ b < 0 := by omega
    have h5 : min b.toNat 64 = b.toNat := by omega
    exact ⟨_, by simp [eqGuard, binOp, Op.shift, go_sem, h4, IntKind.bits, h5] <;> rfl, by rw [R64_wrap h3]; exact .int _⟩
  · have h4 : ¬ b < 0 := by omega
    exact ⟨_, by simp [eqGuard, binOp, Op.shift, go_sem, h4, IntKind.bits] <;> rfl, .int _⟩
  all_goals exact ⟨_, by simp [eqGuard, binOp, Op.intCmp, go_sem] <;> rfl, .bool _⟩
end Go.Proofs.Ytlmlfbjcpajinaa
