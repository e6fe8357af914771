/- The rules again, with every state written out. No program in sight. -/
import Derived.Test.YtlmlfbjcpajinaaVn
namespace Go.Proofs.Ytlmlfbjcpajinaa
open Go.RowKit Go.Deep
set_option linter.unusedSimpArgs false
set_option linter.unusedVariables false

/-! ### forcing: each is the identity, but its evaluation writes its argument out -/
def fcQ {α : Type} (q : Sq) (k : Sq → α) : α := match q with
  | .ints l => k (.ints l) | .pairs l => k (.pairs l) | .bools l => k (.bools l) | .intss l => k (.intss l) | .pairss l => k (.pairss l) | .boolss l => k (.boolss l) | .raises l => k (.raises l) | .strs l => k (.strs l)
theorem fcQ_eq {α : Type} (q : Sq) (k : Sq → α) : fcQ q k = k q := by cases q <;> rfl
def lenK {α : Type} (q : Sq) (k : Nat → α) : α := match q with
  | .ints l => k l.length | .pairs l => k l.length | .bools l => k l.length | .intss l => k l.length | .pairss l => k l.length | .boolss l => k l.length | .raises l => k l.length | .strs l => k l.length
theorem lenK_eq {α : Type} (q : Sq) (k : Nat → α) : lenK q k = k q.len := by cases q <;> rfl
def fcS {α : Type} (d : D) (k : D → α) : α := match d with
  | .dead => k .dead | .int n => k (.int n) | .bool b => k (.bool b) | .val v => k (.val v) | .nil => k .nil | .ro f q => fcQ q fun q => k (.ro f q) | .row r o n => k (.row r o n) | .ptr b o => k (.ptr b o)
  | .eptr r i o => k (.eptr r i o) | .rptr f q i o => fcQ q fun q => k (.rptr f q i o) | .agg l => k (.agg l) | .tup l => k (.tup l)
theorem fcS_eq {α : Type} (d : D) (k : D → α) : fcS d k = k d := by cases d <;> simp [fcS, fcQ_eq]
def fcL {α : Type} : List D → (List D → α) → α
  | [], k => k []
  | d :: l, k => fcS d fun d => fcL l fun l => k (d :: l)
theorem fcL_eq {α : Type} : ∀ (l : List D) (k : List D → α), fcL l k = k l
  | [], _ => rfl
  | d :: l, k => by simp only [fcL, fcS_eq, fcL_eq l]
def fcA {α : Type} (d : D) (k : D → α) : α := match d with
  | .agg l => fcL l fun l => k (.agg l)
  | d => fcS d k
theorem fcA_eq {α : Type} (d : D) (k : D → α) : fcA d k = k d := by cases d <;> simp [fcA, fcL_eq, fcS_eq]
def fcAL {α : Type} : List D → (List D → α) → α
  | [], k => k []
  | d :: l, k => fcA d fun d => fcAL l fun l => k (d :: l)
theorem fcAL_eq {α : Type} : ∀ (l : List D) (k : List D → α), fcAL l k = k l
  | [], _ => rfl
  | d :: l, k => by simp only [fcAL, fcA_eq, fcAL_eq l]
def fcD {α : Type} (d : D) (k : D → α) : α := match d with
  | .tup l => fcAL l fun l => k (.tup l)
  | d => fcA d k
theorem fcD_eq {α : Type} (d : D) (k : D → α) : fcD d k = k d := by cases d <;> simp [fcD, fcAL_eq, fcA_eq]

def evalF (TT : List (Nat × Ty)) (s : PS) : Op → Option (Prop × D)
  | .move x | .assign x => fcD (s.ev x) fun d => some (True, d)
  | .call c => match c.callee, c.args.toList, c.argTypes.toList with
    | .builtin .len, [x], [t] => match look TT t, s.ev x with
      | some (.sl _ _ _), .ro _ q => lenK q fun n => some (True, .int n)
      | some (.sl _ _ _), .row r _ n => (match s.r r with | some _ => some (True, .int n) | none => none)
      | some (.sl _ _ _), .nil => some (True, .int 0)
      | _, _ => none
    | _, _, _ => match evalV TT s (.call c) with | some (ob, d) => fcD d fun d => some (ob, d) | none => none
  | op => match evalV TT s op with | some (ob, d) => fcD d fun d => some (ob, d) | none => none
theorem evalF_ok {TT : List (Nat × Ty)} {s : PS} {op : Op} {r : Prop × D} (h : evalF TT s op = some r) : evalV TT s op = some r := by
  have gen : ∀ op, (match evalV TT s op with | some (ob, d) => fcD d fun d => some (ob, d) | none => none) = some r → evalV TT s op = some r := fun op h => by
    split at h
    · rename_i ob d he; rw [fcD_eq] at h; rw [he, h]
    · cases h
  unfold evalF at h
  split at h
  · rw [fcD_eq] at h; exact h
  · rw [fcD_eq] at h; exact h
  · rename_i c
    split at h
    · rename_i x t e1 e2 e3
      simp only [evalV, e1, e2, e3]
      split at h
      · rename_i hy hx; rw [lenK_eq] at h; simp only [hy, hx]; exact h
      · rename_i hy hx
        split at h
        · rename_i hr; simp only [hy, hx, hr]; exact h
        · cases h
      · rename_i hy hx; simp only [hy, hx]; exact h
      · cases h
    · exact gen _ h
  · exact gen _ h

/-! ### the state written out -/
def nfT : List (Nat × D) → Option (List (Nat × D))
  | [] => some []
  | (k, d) :: l => fcD d fun d => match nfT l with | some l => some ((k, d) :: l) | none => none
theorem nfT_ok : ∀ {l l' : List (Nat × D)}, nfT l = some l' → l' = l
  | [], l', h => by simp [nfT] at h; exact h
  | (k, d) :: l, l', h => by
    simp only [nfT, fcD_eq] at h
    split at h
    · rename_i m hm; cases h; rw [nfT_ok hm]
    · cases h
def nfR : List (Nat × Option (TypeId × Sq)) → Option (List (Nat × Option (TypeId × Sq)))
  | [] => some []
  | (k, none) :: l => (match nfR l with | some l => some ((k, none) :: l) | none => none)
  | (k, some (e, q)) :: l => fcQ q fun q => match nfR l with | some l => some ((k, some (e, q)) :: l) | none => none
theorem nfR_ok : ∀ {l l' : List (Nat × Option (TypeId × Sq))}, nfR l = some l' → l' = l
  | [], l', h => by simp [nfR] at h; exact h
  | (k, none) :: l, l', h => by
    simp only [nfR] at h
    split at h
    · rename_i m hm; cases h; rw [nfR_ok hm]
    · cases h
  | (k, some (e, q)) :: l, l', h => by
    simp only [nfR, fcQ_eq] at h
    split at h
    · rename_i m hm; cases h; rw [nfR_ok hm]
    · cases h
def nfB : List (Nat × Option (List D)) → Option (List (Nat × Option (List D)))
  | [] => some []
  | (k, none) :: l => (match nfB l with | some l => some ((k, none) :: l) | none => none)
  | (k, some cs) :: l => fcL cs fun cs => match nfB l with | some l => some ((k, some cs) :: l) | none => none
theorem nfB_ok : ∀ {l l' : List (Nat × Option (List D))}, nfB l = some l' → l' = l
  | [], l', h => by simp [nfB] at h; exact h
  | (k, none) :: l, l', h => by
    simp only [nfB] at h
    split at h
    · rename_i m hm; cases h; rw [nfB_ok hm]
    · cases h
  | (k, some cs) :: l, l', h => by
    simp only [nfB, fcL_eq] at h
    split at h
    · rename_i m hm; cases h; rw [nfB_ok hm]
    · cases h
def nf (s : PS) : Option PS := match nfT s.tmp, nfR s.row, nfB s.box with | some a, some b, some c => some ⟨a, b, c⟩ | _, _, _ => none
theorem nf_ok {s s' : PS} (h : nf s = some s') : s' = s := by
  unfold nf at h
  split at h
  · rename_i a b c h1 h2 h3
    cases h
    rw [nfT_ok h1, nfR_ok h2, nfB_ok h3]
  · cases h
section
variable {C : Cx} {ops : Array Oper} {K : PS → Prop} {o : Oper} {rest : List Oper} {s s' : PS} {TT : List (Nat × Ty)} {tm : List (Nat × D)} {rw' : List (Nat × Option (TypeId × Sq))} {bx : List (Nat × Option (List D))}
theorem vNf (hn : nf s = some s') (h : VO C ops K rest s') : VO C ops K rest s := by rw [← nf_ok hn]; exact h
def isV : Op → Bool
  | .move _ | .assign _ | .pick .. | .binOp .. | .unOp .. | .load .. | .fieldAddr .. | .indexAddr .. | .slice .. | .extract .. => true
  | .call c => match c.callee with | .builtin .len | .builtin .min | .builtin .max => true | _ => false
  | _ => false
/-- the rule for what only reckons and reads -/
theorem oVal (hT : TTOK C.P TT) (hi : isV o.op = true) (hg : o.guard = none) {t : Nat} (hd : o.dst = some t) (hn : Nat.blt t C.n = true) {ob : Prop} {d : D} (hv : evalF TT ⟨tm, rw', bx⟩ o.op = some (ob, d)) (hob : ob) (h : VO C ops K rest ⟨(t, d) :: tm, rw', bx⟩) : VO C ops K (o :: rest) ⟨tm, rw', bx⟩ :=
  vOp hg (sVal hT (evalF_ok hv) (by rw [hd]; exact hn) hob (by rw [hd]; exact h))
theorem oValG (hT : TTOK C.P TT) (hi : isV o.op = true) {j y : Nat} {want b : Bool} (hg : o.guard = some (j, want)) (hgd : gdst ops j = some y) (hy : Nat.blt y C.n = true) (hs : (PS.t ⟨tm, rw', bx⟩ y) = .bool b) (hb : b = want) {t : Nat} (hd : o.dst = some t) (hn : Nat.blt t C.n = true) {ob : Prop} {d : D}
    (hv : evalF TT ⟨tm, rw', bx⟩ o.op = some (ob, d)) (hob : ob) (h : VO C ops K rest ⟨(t, d) :: tm, rw', bx⟩) : VO C ops K (o :: rest) ⟨tm, rw', bx⟩ :=
  vOpG hg hgd hy hs hb (sVal hT (evalF_ok hv) (by rw [hd]; exact hn) hob (by rw [hd]; exact h))
theorem oNo {j y : Nat} {want b : Bool} (hg : o.guard = some (j, want)) (hgd : gdst ops j = some y) (hy : Nat.blt y C.n = true) (hs : (PS.t ⟨tm, rw', bx⟩ y) = .bool b) (hb : b = !want) {t : Nat} (hd : o.dst = some t) (hn : Nat.blt t C.n = true)
    (h : VO C ops K rest ⟨(t, .tup []) :: tm, rw', bx⟩) : VO C ops K (o :: rest) ⟨tm, rw', bx⟩ :=
  vNo hg hgd hy hs hb (by rw [hd]; exact hn) (by rw [hd]; exact h)
theorem oNoU {j y : Nat} {want : Bool} (hg : o.guard = some (j, want)) (hgd : gdst ops j = some y) (hs : (PS.t ⟨tm, rw', bx⟩ y) = .tup []) {t : Nat} (hd : o.dst = some t) (hn : Nat.blt t C.n = true)
    (h : VO C ops K rest ⟨(t, .tup []) :: tm, rw', bx⟩) : VO C ops K (o :: rest) ⟨tm, rw', bx⟩ :=
  vNoU hg hgd hs (by rw [hd]; exact hn) (by rw [hd]; exact h)
theorem oPick (hg : o.guard = none) {c x y : Operand} {b : Bool} (hop : o.op = .pick c x y) (hc : (PS.ev ⟨tm, rw', bx⟩ c) = .bool b) {t : Nat} (hd : o.dst = some t) (hn : Nat.blt t C.n = true) {d : D} (hb : b = true) (hx : (fcD (PS.ev ⟨tm, rw', bx⟩ x) some) = some d)
    (h : VO C ops K rest ⟨(t, d) :: tm, rw', bx⟩) : VO C ops K (o :: rest) ⟨tm, rw', bx⟩ := by
  rw [fcD_eq] at hx
  cases hx
  exact vOp hg (sPickT hop hc hb (by rw [hd]; exact hn) (by rw [hd]; exact h))
theorem oPickF (hg : o.guard = none) {c x y : Operand} {b : Bool} (hop : o.op = .pick c x y) (hc : (PS.ev ⟨tm, rw', bx⟩ c) = .bool b) {t : Nat} (hd : o.dst = some t) (hn : Nat.blt t C.n = true) {d : D} (hb : b = false) (hx : (fcD (PS.ev ⟨tm, rw', bx⟩ y) some) = some d)
    (h : VO C ops K rest ⟨(t, d) :: tm, rw', bx⟩) : VO C ops K (o :: rest) ⟨tm, rw', bx⟩ := by
  rw [fcD_eq] at hx
  cases hx
  exact vOp hg (sPickF hop hc hb (by rw [hd]; exact hn) (by rw [hd]; exact h))
theorem oBox (hg : o.guard = none) {t : TypeId} {x : Operand} {b : Nat} {d : D} {cs : List D} (hop : o.op = .box t x) (hd : o.dst = some b) (hx : (fcD (PS.ev ⟨tm, rw', bx⟩ x) some) = some d) (hfl : d.flat = true) (hcs : (fcL d.cells some) = some cs) (hn : Nat.blt b C.n = true) (hf : frB ⟨tm, rw', bx⟩ (fun y => Nat.beq y b) noB = true)
    (hm : (cs.all fun d => !mentS (fun y => Nat.beq y b) noB d) = true) (h : VO C ops K rest ⟨(b, .ptr b 0) :: tm, rw', (b, some cs) :: bx⟩) : VO C ops K (o :: rest) ⟨tm, rw', bx⟩ := by
  rw [fcD_eq] at hx
  rw [fcL_eq] at hcs
  cases hx
  cases hcs
  exact vOp hg (sBox hop hd rfl hfl hn (frB_ok hf) hm h)
theorem oAlloc (hT : TTOK C.P TT) (hg : o.guard = none) {t : TypeId} {b : Nat} {y : Ty} {cs : List D} (hop : o.op = .alloc t) (hd : o.dst = some b) (hy : look TT t = some y) (hcs : (fcL (zeroD y).cells some) = some cs) (hn : Nat.blt b C.n = true) (hf : frB ⟨tm, rw', bx⟩ (fun y => Nat.beq y b) noB = true)
    (hfl : (zeroD y).flat = true) (hm : (cs.all fun d => !mentS (fun y => Nat.beq y b) noB d) = true) (h : VO C ops K rest ⟨(b, .ptr b 0) :: tm, rw', (b, some cs) :: bx⟩) : VO C ops K (o :: rest) ⟨tm, rw', bx⟩ := by
  rw [fcL_eq] at hcs
  cases hcs
  exact vOp hg (sAlloc hT hop hd hy hn (frB_ok hf) hfl hm h)
theorem oStore (hT : TTOK C.P TT) (hg : o.guard = none) {t : TypeId} {p x : Operand} {y : Ty} {dp d : D} {ob : Prop} {s1 : PS} (hop : o.op = .store t p x) (hd : o.dst = none) (hy : look TT t = some y) (hp : (PS.ev ⟨tm, rw', bx⟩ p) = dp) (hx : (fcD (PS.ev ⟨tm, rw', bx⟩ x) some) = some d) (hfl : d.flat = true)
    (hsz : Nat.beq d.cells.length (tySize y) = true) (hw : wrL ⟨tm, rw', bx⟩ dp 0 d.cells = some (ob, s1)) (hnf : nf s1 = some s') (hlive : Live ⟨tm, rw', bx⟩ dp) (hob : ob) (h : VO C ops K rest s') : VO C ops K (o :: rest) ⟨tm, rw', bx⟩ := by
  rw [fcD_eq] at hx
  cases hx
  exact vOp hg (sStore hT hop hd hy hp rfl hfl hsz hw hlive hob (vNf hnf h))
theorem oBuild (hT : TTOK C.P TT) (hg : o.guard = none) {t e : TypeId} {k q q' : Sq} {by' m b : Nat} {parts : Array (Nat × Operand)} {ds : List D} (hop : o.op = .buildSlice t m parts) (hd : o.dst = some b) (hy : look TT t = some (.sl e k by')) (hp : partsD ⟨tm, rw', bx⟩ 0 parts.toList = some ds)
    (hm : Nat.beq ds.length m = true) (hq : k.ofL ds = some q) (hbig : Nat.ble (m * k.sz) 16777216 = true) (hn : Nat.blt b C.n = true) (hf : frB ⟨tm, rw', bx⟩ noB (isR b) = true) (hq' : fcQ q some = some q') (h : VO C ops K rest ⟨(b, .row b 0 m) :: tm, (b, some (e, q')) :: rw', bx⟩) : VO C ops K (o :: rest) ⟨tm, rw', bx⟩ := by
  rw [fcQ_eq] at hq'
  cases hq'
  exact vOp hg (sBuildSlice hT hop hd hy hp hm hq hbig hn (frB_ok hf) h)
theorem oMake (hT : TTOK C.P TT) (hg : o.guard = none) {t e : TypeId} {k q : Sq} {by' b m : Nat} {x y : Operand} {n : Int} (hop : o.op = .makeSlice t x y) (hd : o.dst = some b) (hy : look TT t = some (.sl e k by')) (hx : (PS.ev ⟨tm, rw', bx⟩ x) = .int n) (hyy : (PS.ev ⟨tm, rw', bx⟩ y) = .int n)
    (hb : Nat.ble by' 32 = true) (hn : Nat.blt b C.n = true) (hf : frB ⟨tm, rw', bx⟩ noB (isR b) = true) (hq : fcQ (k.zeros n.toNat) some = some q) (hm : lenK (k.zeros n.toNat) some = some m) (hob : 0 ≤ n ∧ n ≤ 4294967296) (h : VO C ops K rest ⟨(b, .row b 0 m) :: tm, (b, some (e, q)) :: rw', bx⟩) : VO C ops K (o :: rest) ⟨tm, rw', bx⟩ := by
  rw [fcQ_eq] at hq
  rw [lenK_eq] at hm
  cases hq
  cases hm
  exact vOp hg (sMake hT hop hd hy hx hyy hb hn (frB_ok hf) hob h)
theorem oAppend (hT : TTOK C.P TT) (hg : o.guard = none) {t e : TypeId} {k q q2 q' q'' : Sq} {by' b r m m' : Nat} {x y : Operand} {dy : D} {ob : Prop} (hop : o.op = .call { callee := .builtin .append, args := #[x, y], argTypes := #[t, t] }) (hd : o.dst = some b) (hy : look TT t = some (.sl e k by'))
    (hx : (PS.ev ⟨tm, rw', bx⟩ x) = .row r 0 m) (hr : (PS.r ⟨tm, rw', bx⟩ r) = some (e, q)) (hk : Nat.beq k.sz q.sz = true) (hyy : (PS.ev ⟨tm, rw', bx⟩ y) = dy) (hs : srcSq ⟨tm, rw', bx⟩ dy = some (ob, q2)) (happ : q.app q2 = some q') (hb : Nat.ble by' 32 = true) (hn : Nat.blt b C.n = true)
    (hq' : fcQ q' some = some q'') (hm' : lenK q' some = some m') (hnf : nf ⟨(b, .row r 0 m') :: (PS.kill ⟨tm, rw', bx⟩ r).tmp, (r, some (e, q'')) :: rw', (PS.kill ⟨tm, rw', bx⟩ r).box⟩ = some s') (hm : m = q.len) (hob : ob) (hbd : q.len + q2.len ≤ 4294967296) (h : VO C ops K rest s') : VO C ops K (o :: rest) ⟨tm, rw', bx⟩ := by
  rw [fcQ_eq] at hq'
  rw [lenK_eq] at hm'
  cases hq'
  cases hm'
  exact vOp hg (sAppend hT hop hd hy hx hr hk hyy hs happ hb hn hm hob hbd (vNf hnf h))
theorem oAppendP (hT : TTOK C.P TT) (hg : o.guard = none) {t e : TypeId} {k q q2 q' q'' : Sq} {by' b r m m' : Nat} {x y : Operand} {dy : D} {ob : Prop} (hop : o.op = .call { callee := .builtin .append, args := #[x, y], argTypes := #[t, t] }) (hd : o.dst = some b) (hy : look TT t = some (.sl e k by'))
    (hx : (PS.ev ⟨tm, rw', bx⟩ x) = .row r 0 m) (hr : (PS.r ⟨tm, rw', bx⟩ r) = some (e, q)) (hk : Nat.beq k.sz q.sz = true) (hyy : (PS.ev ⟨tm, rw', bx⟩ y) = dy) (hs : srcSq ⟨tm, rw', bx⟩ dy = some (ob, q2)) (happ : (q.take m).app q2 = some q') (hb : Nat.ble by' 32 = true) (hn : Nat.blt b C.n = true)
    (hq' : fcQ q' some = some q'') (hm' : lenK q' some = some m') (hnf : nf ⟨(b, .row r 0 m') :: (PS.kill ⟨tm, rw', bx⟩ r).tmp, (r, some (e, q'')) :: rw', (PS.kill ⟨tm, rw', bx⟩ r).box⟩ = some s') (hm : m ≤ q.len) (hob : ob) (hbd : m + q2.len ≤ 4294967296) (h : VO C ops K rest s') : VO C ops K (o :: rest) ⟨tm, rw', bx⟩ := by
  rw [fcQ_eq] at hq'
  rw [lenK_eq] at hm'
  cases hq'
  cases hm'
  exact vOp hg (sAppendP hT hop hd hy hx hr hk hyy hs happ hb hn hm hob hbd (vNf hnf h))
theorem oAppendNil (hT : TTOK C.P TT) (hg : o.guard = none) {t e : TypeId} {k q2 q' q'' : Sq} {by' b m' : Nat} {x y : Operand} {dy : D} {ob : Prop} (hop : o.op = .call { callee := .builtin .append, args := #[x, y], argTypes := #[t, t] }) (hd : o.dst = some b) (hy : look TT t = some (.sl e k by'))
    (hx : (PS.ev ⟨tm, rw', bx⟩ x) = .nil) (hk0 : Nat.beq k.len 0 = true) (hf : frB ⟨tm, rw', bx⟩ noB (isR b) = true) (hyy : (PS.ev ⟨tm, rw', bx⟩ y) = dy) (hs : srcSq ⟨tm, (b, some (e, k)) :: rw', bx⟩ dy = some (ob, q2)) (happ : k.app q2 = some q') (hb : Nat.ble by' 32 = true) (hn : Nat.blt b C.n = true)
    (hq' : fcQ q' some = some q'') (hm' : lenK q' some = some m') (hnf : nf ⟨(b, .row b 0 m') :: (PS.kill ⟨tm, rw', bx⟩ b).tmp, (b, some (e, q'')) :: (b, some (e, k)) :: rw', (PS.kill ⟨tm, rw', bx⟩ b).box⟩ = some s') (hob : ob) (hbd : q2.len ≤ 4294967296) (h : VO C ops K rest s') : VO C ops K (o :: rest) ⟨tm, rw', bx⟩ := by
  rw [fcQ_eq] at hq'
  rw [lenK_eq] at hm'
  cases hq'
  cases hm'
  exact vOp hg (sAppendNil hT hop hd hy hx hk0 (frB_ok hf) hyy hs happ hb hn hob hbd (vNf hnf h))
theorem oFreeze {t r m : Nat} {e : TypeId} {q : Sq} (ht : (PS.t ⟨tm, rw', bx⟩ t) = .row r 0 m) (hr : (PS.r ⟨tm, rw', bx⟩ r) = some (e, q)) (hnf : nf ⟨(t, .ro true q) :: (PS.kill ⟨tm, rw', bx⟩ r).tmp, (r, none) :: rw', (PS.kill ⟨tm, rw', bx⟩ r).box⟩ = some s') (hm : m = q.len) (h : VO C ops K rest s') : VO C ops K rest ⟨tm, rw', bx⟩ :=
  vFreeze ht hr hm (vNf hnf h)
theorem oCall {f : FuncId} {args : Array Operand} {ts : Array TypeId} {ds : List D} {rows : List (TypeId × Sq)} {d : D} (hp : PCall C.P f ds rows d) (hg : o.guard = none) (hop : o.op = .call { callee := .value (.func f), args := args, argTypes := ts }) {b : Nat} (hd : o.dst = some b) (hn : Nat.blt b C.n = true)
    (hno : (ds.all noIds) = true) (hf : frB ⟨tm, rw', bx⟩ noB (fun r => (look (nrL (rowB b) rows) r).isSome) = true) (hm : ment (fun _ => true) (fun r => (look (nrL (rowB b) rows) r).isNone) (ren id (fun j => rowB b + j) d) = false)
    (hnf : nf ⟨(b, ren id (fun j => rowB b + j) d) :: tm, nrL (rowB b) rows ++ rw', bx⟩ = some s') (hfit : fits ⟨tm, rw', bx⟩ args.toList ds) (h : VO C ops K rest s') : VO C ops K (o :: rest) ⟨tm, rw', bx⟩ :=
  vOp hg (sCall hop hp (by rw [hd]; exact hn) hfit hno (by rw [hd]; exact frB_ok hf) (by rw [hd]; exact hm) (by rw [hd]; exact vNf hnf h))
theorem oCallG {f : FuncId} {args : Array Operand} {ts : Array TypeId} {ds : List D} {rows : List (TypeId × Sq)} {d : D} (hp : PCall C.P f ds rows d) {j y : Nat} {want b' : Bool} (hg : o.guard = some (j, want)) (hgd : gdst ops j = some y) (hy : Nat.blt y C.n = true) (hs : (PS.t ⟨tm, rw', bx⟩ y) = .bool b') (hb : b' = want)
    (hop : o.op = .call { callee := .value (.func f), args := args, argTypes := ts }) {b : Nat} (hd : o.dst = some b) (hn : Nat.blt b C.n = true)
    (hno : (ds.all noIds) = true) (hf : frB ⟨tm, rw', bx⟩ noB (fun r => (look (nrL (rowB b) rows) r).isSome) = true) (hm : ment (fun _ => true) (fun r => (look (nrL (rowB b) rows) r).isNone) (ren id (fun j => rowB b + j) d) = false)
    (hnf : nf ⟨(b, ren id (fun j => rowB b + j) d) :: tm, nrL (rowB b) rows ++ rw', bx⟩ = some s') (hfit : fits ⟨tm, rw', bx⟩ args.toList ds) (h : VO C ops K rest s') : VO C ops K (o :: rest) ⟨tm, rw', bx⟩ :=
  vOpG hg hgd hy hs hb (sCall hop hp (by rw [hd]; exact hn) hfit hno (by rw [hd]; exact frB_ok hf) (by rw [hd]; exact hm) (by rw [hd]; exact vNf hnf h))
end
end Go.Proofs.Ytlmlfbjcpajinaa
