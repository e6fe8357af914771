/- Texts that the proof needs, put together: M13 M14 G71 G83 Qg Ph Pj Pk Qh G81 Qi G82 G84. -/
import Derived.Test.YtmoamglpocjhgaaBH3
import Derived.Test.YtmoamglpocjhgaaBH4
import Derived.Test.YtmoamglpocjhgaaBH5
import Derived.Test.YtmoamglpocjhgaaBH6
set_option linter.unusedVariables false
set_option linter.unusedSimpArgs false
namespace Go.Proofs.Ytmoamglpocjhgaa
open Go.RowKit Go.Deep
theorem fam_get {q : Sq} (hq : q.deep = true) {k : Nat} (hk : k < q.len) : (famOf q).get k = some (q.nn k) := by rw [famOf_get hq, if_pos hk]
section
variable {C : Cx} {tm : List (Nat × D)} {rw' : List (Nat × Option (TypeId × Sq))} {bx : List (Nat × Option (List D))} {s' : PS}
end
theorem Rel.newFamN {C : Cx} {tm : List (Nat × D)} {rw' : List (Nat × Option (TypeId × Sq))} {bx : List (Nat × Option (List D))} {M : Mp} {a : Act} {w : World} (h : Rel C.w0 C.O0 C.n M ⟨tm, rw', bx⟩ a w) (F : Nat) (te : TypeId) (fq : Fq) (h0 : ∀ k c, fq.get k = some c → c.len = 0) (hl : lone ⟨tm, rw', bx⟩ 999999 F = true) (hl2 : PS.r ⟨tm, rw', bx⟩ 999999 = none) (hN : PS.r ⟨tm, rw', bx⟩ (FK + F) = none) (hO : ∀ u, C.O0.fr (FK + F) ≠ some u)
  (hF : F < 4294967296) : ∃ M' : Mp, Rel C.w0 C.O0 C.n M' ⟨(PS.killX ⟨tm, rw', bx⟩ 999999).tmp, (FK + F, some (te, .fam fq)) :: rw', (PS.killX ⟨tm, rw', bx⟩ 999999).box⟩ a w ∧ ∀ k c, fq.get k = some c → M'.γ (inn F k) = some none := by
 let M' : Mp := ⟨M.β, fun x => if x = FK + F then some none else if Nat.ble BIG x = true ∧ unF x = F ∧ (fq.get (unK x)).isSome = true then some none else M.γ x⟩
 have hMi : ∀ G k, G < 4294967296 → G ≠ F → M'.γ (inn G k) = M.γ (inn G k) := fun G k hG hne => by
  have : inn G k ≠ FK + F := fun e => by have h1 := inn_hi G k; rw [e, fk_lo hF] at h1; cases h1
  have h2 : unF (inn G k) ≠ F := by rw [unF_inn, Nat.mod_eq_of_lt hG]; exact hne
  simp [M', this, h2]
 have hMF : ∀ x, Nat.ble BIG x = false → x ≠ FK + F → M'.γ x = M.γ x := fun x h1 h2 => by simp only [M', h1, h2, if_false]; simp
 have hsub : ∀ x k c z, M'.γ x = some (some (k, c, z)) → M.γ x = some (some (k, c, z)) := fun x k c z hx => by
  simp only [M'] at hx
  split at hx
  ·cases hx
  ·split at hx
   ·cases hx
   ·exact hx
 have hown : ∀ k, M'.owned k → M.owned k := by
  rintro k (⟨b, hb⟩ | ⟨y, c, z, hy⟩)
  ·exact .inl ⟨b, hb⟩
  ·exact .inr ⟨y, c, z, hsub _ _ _ _ hy⟩
 have hA : ∀ f b, b < w.heap.size → Ow (Fs C.w0 C.O0) M f b → Ow (Fs C.w0 C.O0) M' f b ∧ b < w.heap.size ∧ w.heap[b]? = w.heap[b]? := fun f b h1 h2 => ⟨⟨fun h3 => h2.1 (hown b h3), h2.2⟩, h1, rfl⟩
 have hγ' : ∀ x y, x ≠ 999999 → notF x = true → M'.γ x = some y → M.γ x = some y := fun x y _ h2 h3 => by
  rw [hMF x (notF_big h2) (fun e => fk_ne hF h2 e.symm)] at h3
  exact h3
 refine ⟨M', ?_, fun k c hc => by
  have h1 : inn F k ≠ FK + F := fun e => by have h1 := inn_hi F k; rw [e, fk_lo hF] at h1; cases h1
  have h2 : unF (inn F k) = F := by rw [unF_inn, Nat.mod_eq_of_lt hF]
  simp [M', h1, h2, inn_hi, unK_inn, hc]⟩
 refine h.remap 999999 F hF (fun _ => rfl) (fun x k c z hx => ⟨x, hsub _ _ _ _ hx⟩) (fun x y k c z c' z' h1 h2 => h.inj2 _ _ _ _ _ _ _ (hsub _ _ _ _ h1) (hsub _ _ _ _ h2)) hγ' (fun x y h1 h2 h3 h4 => ?_) (.inl (by decide)) (fun u u' h1 _ => absurd h1 (hO u)) (fun G k y h1 h2 h3 => by rw [← hMi G k h1 h2]; exact h3) (fun t => ?_) (fun b => ?_) (fun x e q hx => ?_) fun x hx => ?_
 ·rw [hMF x h3 h1] at h4
  exact h4
 ·have : PS.t ⟨(PS.killX ⟨tm, rw', bx⟩ 999999).tmp, (FK + F, some (te, .fam fq)) :: rw', (PS.killX ⟨tm, rw', bx⟩ 999999).box⟩ t = klX 999999 (PS.t ⟨tm, rw', bx⟩ t) := PS.t_killX ⟨tm, rw', bx⟩ 999999 t
  rw [this]
  exact VR.klX hA hγ' (fun _ _ h => h) (h.tmp t)
 ·exact PS.b_killX ⟨tm, rw', bx⟩ 999999 b
 ·rw [PS.r_app (s := ⟨tm, rw', bx⟩) (l := [(FK + F, some (te, .fam fq))]) rfl, look_one', look_one'] at hx
  cases hbx : Nat.ble BIG x with
  | true =>
   rw [hbx] at hx
   have hxf : x ≠ FK + F := fun e => by rw [e, fk_lo hF] at hbx; cases hbx
   by_cases hu : FK + F = FK + unF x
   ·simp only [hu, if_true, famr] at hx
    split at hx
    ·rename_i c hc
     cases hx
     have hu' : unF x = F := by omega
     exact .inr (.inl ⟨by simp [M', hxf, hbx, hu', hc], h0 _ _ hc⟩)
    ·cases hx
   ·have hu' : unF x ≠ F := fun e => hu (by rw [e])
    have hMx : M'.γ x = M.γ x := by simp [M', hxf, hu']
    simp only [hu, if_false] at hx
    refine .inl ⟨hx, hMx, fun G hG => ?_⟩
    rcases lone_ok hl hx hG with h1 | h1
    ·rw [h1, hl2] at hx; cases hx
    ·exact h1
  | false =>
   rw [hbx] at hx
   by_cases hxf : FK + F = x
   ·subst hxf
    simp only [if_true] at hx
    cases hx
    exact .inr (.inl ⟨by simp [M'], rfl⟩)
   ·simp only [hxf, if_false] at hx
    refine .inl ⟨hx, hMF x hbx (Ne.symm hxf), fun G hG => ?_⟩
    rcases lone_ok hl hx hG with h1 | h1
    ·rw [h1, hl2] at hx; cases hx
    ·exact h1
 ·rw [PS.r_app (s := ⟨tm, rw', bx⟩) (l := [(FK + F, some (te, .fam fq))]) rfl, look_one', look_one'] at hx
  cases hbx : Nat.ble BIG x with
  | true =>
   rw [hbx] at hx
   have hxf : x ≠ FK + F := fun e => by rw [e, fk_lo hF] at hbx; cases hbx
   by_cases hu : FK + F = FK + unF x
   ·simp only [hu, if_true, famr] at hx
    split at hx
    ·cases hx
    ·rename_i hc
     have hMx : M'.γ x = M.γ x := by simp [M', hxf, hc]
     rw [hMx]
     refine h.rown x ?_
     rw [PS.r_hi _ hbx, PS.inn_r, ← hu, hN]; rfl
   ·have hu' : unF x ≠ F := fun e => hu (by rw [e])
    have hMx : M'.γ x = M.γ x := by simp [M', hxf, hu']
    rw [hMx]
    simp only [hu, if_false] at hx; exact h.rown x hx
  | false =>
   rw [hbx] at hx
   by_cases hxf : FK + F = x
   ·simp only [hxf, if_true] at hx; cases hx
   ·simp only [hxf, if_false] at hx
    rw [hMF x hbx (Ne.symm hxf)]
    exact h.rown x hx
theorem Rel.newRowW {w0 : World} {O0 : Hd} {n : Nat} {M : Mp} {s : PS} {a : Act} {w w' : World} (h : Rel w0 O0 n M s a w) {r m : Nat} {e : TypeId} {q : Sq} {cur : Array Value} (hq : q.len = m) (hm : m ≤ maxLen) (hc : cur.size = m * q.sz) (g1 : w'.heap[w.heap.size]? = some (.cells cur e (0, 0))) (ho : w'.os = w.os) (htp : w'.tape = w.tape) (hou : w'.output = w.output) (hsi : w.heap.size ≤ w'.heap.size) (hbl : ∀ k, k < w.heap.size → w'.heap[k]? = w.heap[k]?)
  (hv : ∀ i j d, i < m → (q.relem i)[j]? = some d → VR M (Ow (Fs w0 O0) M) w d (cur.getD (i * q.sz + j) undef)) (hf : Fresh s noB (isR r)) (hlo : r < 1000000) :
  ∃ M', Rel w0 O0 n M' (s.setR r (some (e, q))) a w' ∧ VR M' (Ow (Fs w0 O0) M') w' (.row r 0 m) (.slice (some ⟨w.heap.size, 0, none⟩) m m) := by
 have hF := notF_lo hlo
 let M' : Mp := ⟨M.β, fun x => if x = r then some (some (w.heap.size, m, q.sz)) else M.γ x⟩
 have m1 : M'.γ r = some (some (w.heap.size, m, q.sz)) := by simp [M']
 have m2 : ∀ x, x ≠ r → M'.γ x = M.γ x := fun x hx => by simp [M', hx]
 have hown : ∀ k, M'.owned k → M.owned k ∨ k = w.heap.size := by
  rintro k (⟨x, hx⟩ | ⟨y, c, z, hy⟩)
  ·exact .inl (.inl ⟨x, hx⟩)
  ·by_cases hyr : y = r
   ·rw [hyr, m1] at hy; cases hy; exact .inr rfl
   ·rw [m2 y hyr] at hy; exact .inl (.inr ⟨y, c, z, hy⟩)
 have hA : ∀ f k, k < w.heap.size → Ow (Fs w0 O0) M f k → Ow (Fs w0 O0) M' f k ∧ k < w'.heap.size ∧ w'.heap[k]? = w.heap[k]? := fun f k h1 h2 =>
  ⟨⟨fun h3 => by rcases hown k h3 with h4 | h4; exact h2.1 h4; omega, h2.2⟩, by omega, hbl k h1⟩
 have hγ : ∀ x y, isR r x = false → M'.γ x = some y → M.γ x = some y := fun x y h1 h2 => by
  rw [m2 x (fun e => by subst e; simp [isR, Nat.beq_refl] at h1)] at h2; exact h2
 have hrb := notF_big hF
 have hbig : ∀ x y, BIG ≤ x → M'.γ x = some y → M.γ x = some y := fun x y hx h2 => by
  rw [m2 x (fun e => by rw [← e, Nat.ble_eq_true_of_le hx] at hrb; cases hrb)] at h2; exact h2
 have hno : ∀ y c z, M.γ y ≠ some (some (w.heap.size, c, z)) := fun y c z hy => by have := h.lt _ (.inr ⟨y, c, z, hy⟩); omega
 refine ⟨M', ⟨?_, h.dfr, h.sz, fun t => ?_, fun x ds hx => ?_, fun x hx => h.boxn x hx, fun x e' p hx => ?_, fun x hx => ?_, fun k hk => ?_, h.inj1, fun x y k c z c' z' h1 h2 => ?_, fun x y k c z h1 h2 => ?_, h.nle, h.fxb, fun x u u' h1 h2 => ?_⟩, ?_⟩
 ·exact h.fr.step ho htp hou hsi fun k h1 _ => hbl k (Nat.lt_of_lt_of_le h1 h.fr.size)
 ·exact VR.new (b := noB) (r := isR r) hA hγ (fun _ _ _ h => h) (hf.t t) (h.tmp t) (hi := fun _ => hbig)
 ·obtain ⟨k, cur', e', h1, h2, h3, h4⟩ := h.box x ds hx
  have hlt := (Array.getElem?_eq_some_iff.1 h2).1
  exact ⟨k, cur', e', h1, (hbl k hlt).trans h2, h3, fun j d hd => VR.newS (b := noB) (r := isR r) hA hγ (fun _ _ _ h => h) (hf.b _ _ hx d (List.mem_of_getElem? hd)) (h4 j d hd) (hi := fun _ => hbig)⟩
 ·rw [PS.r_setR _ _ _ _ hF] at hx
  by_cases hxr : r = x
  ·subst hxr
   rw [if_pos rfl] at hx
   cases hx
   exact .inr ⟨w.heap.size, m, cur, m1, g1, by omega, hm, hc, fun i j d hi hd => (hv i j d (by omega) hd).relem_any hd hA hbig⟩
  ·rw [if_neg hxr] at hx
   rcases h.row x e' p hx with ⟨h1, h2⟩ | ⟨g, cap, cur', h1, h2, h3, h4, h5, h6⟩
   ·exact .inl ⟨(m2 x (Ne.symm hxr)).trans h1, h2⟩
   ·have hlt := (Array.getElem?_eq_some_iff.1 h2).1
    exact .inr ⟨g, cap, cur', (m2 x (Ne.symm hxr)).trans h1, (hbl g hlt).trans h2, h3, h4, h5, fun i j d hi hd => (h6 i j d hi hd).relem_any hd hA hbig⟩
 ·rw [PS.r_setR _ _ _ _ hF] at hx
  by_cases hxr : r = x
  ·rw [if_pos hxr] at hx; cases hx
  ·rw [if_neg hxr] at hx; exact (m2 x (Ne.symm hxr)).trans (h.rown x hx)
 ·rcases hown k hk with h1 | rfl
  ·exact h.low k h1
  ·exact .inl h.fr.size
 ·by_cases hx : x = r
  ·by_cases hy : y = r
   ·rw [hx, hy]
   ·rw [hx, m1] at h1; cases h1; rw [m2 y hy] at h2; exact absurd h2 (hno _ _ _)
  ·by_cases hy : y = r
   ·rw [hy, m1] at h2; cases h2; rw [m2 x hx] at h1; exact absurd h1 (hno _ _ _)
   ·rw [m2 x hx] at h1; rw [m2 y hy] at h2; exact h.inj2 _ _ _ _ _ _ _ h1 h2
 ·by_cases hy : y = r
  ·rw [hy, m1] at h2; cases h2
   have := h.lt _ (.inl ⟨x, h1⟩); omega
  ·rw [m2 y hy] at h2; exact h.inj3 _ _ _ _ _ h1 h2
 ·have h3 := (O0.lor x u h1).1
  rw [m2 x (by omega)] at h2
  exact h.fxr x u u' h1 h2
 ·exact .row _ _ _ _ rfl fun x hx => by rw [m1] at hx; cases hx; exact ⟨by omega, _, by rw [Nat.sub_zero], fun _ => by rw [Nat.zero_mul]⟩
def kD (k q : Sq) : Bool := match k, q with
 | .intss _, .intss _ | .pairss _, .pairss _ | .boolss _, .boolss _ | .raises _, .raises _ => true
 | _, _ => false
structure ZeroD (q : Sq) (m : Nat) : Prop where
 deep : q.deep = true
 len : q.len = m
 inner : ∀ i, i < q.len → (q.nn i).len = 0
 fst : ∀ (i j : Nat) (x : Int), i < q.len → (q.elem true i)[j]? = some (D.int x) → x = 0
theorem zeroB (m : Nat) : ZeroD (.boolss (List.replicate m ([] : List Bool))) m := ⟨rfl, by simp [Sq.len], fun i hi => by simp only [Sq.len, List.length_replicate] at hi; simp [Sq.nn, Sq.len, hi], fun i j x hi hx => by rcases j with _ | j <;> simp [Sq.elem] at hx⟩
section
variable {C : Cx} {ops : Array Oper} {K : PS → Prop} {o : Oper} {rest : List Oper} {s : PS} {TT : List (Nat × Ty)} {tm : List (Nat × D)} {rw' : List (Nat × Option (TypeId × Sq))} {bx : List (Nat × Option (List D))}
theorem oMakeD (F : Nat) (te : TypeId) (q : Sq) (hT : TTOK C.P TT) (hg : o.guard = none) {t e : TypeId} {k : Sq} {by' b : Nat} {x y : Operand} {n : Int} (hop : o.op = .makeSlice t x y) (hd : o.dst = some b) (hy : look TT t = some (.sl e k by')) (hx : (PS.ev ⟨tm, rw', bx⟩ x) = .int n) (hyy : (PS.ev ⟨tm, rw', bx⟩ y) = .int n)
  (hb : Nat.ble by' 32 = true) (hn : Nat.blt b C.n = true) (hk : kD k q = true) (hl : lone ⟨tm, rw', bx⟩ 999999 F = true) (hl2 : PS.r ⟨tm, rw', bx⟩ 999999 = none) (hN : PS.r ⟨tm, rw', bx⟩ (FK + F) = none) (hO : ∀ u, C.O0.fr (FK + F) ≠ some u)
  (hf : frB ⟨(PS.killX ⟨tm, rw', bx⟩ 999999).tmp, (FK + F, some (te, dF q)) :: rw', (PS.killX ⟨tm, rw', bx⟩ 999999).box⟩ noB (isR b) = true) {m : Nat} {s' : PS} (hm : m = q.len) (hnf : nf ⟨(b, .row b 0 m) :: (PS.killX ⟨tm, rw', bx⟩ 999999).tmp, (b, some (e, dR F q)) :: (FK + F, some (te, dF q)) :: rw', (PS.killX ⟨tm, rw', bx⟩ 999999).box⟩ = some s')
  (hz : ZeroD q n.toNat) (hob : 0 ≤ n ∧ n ≤ 4294967296) (h : VO C ops K rest s') (hF : Nat.blt F 4294967296 = true := by rfl) : VO C ops K (o :: rest) ⟨tm, rw', bx⟩ := by
 refine vOp hg ⟨fun M a w Q K' hr hk' => ?_⟩
 subst hm
 have hty := hT t _ hy
 obtain ⟨hu, _, i, hi, hsz, hby, z, hz0, hzc⟩ := hty
 have e1 := hr.ev x
 have e2 := hr.ev y
 rw [hx] at e1
 rw [hyy] at e2
 have hb' := Nat.le_of_ble_eq_true hb
 rw [Nat.blt_eq] at hF
 obtain ⟨m, rfl⟩ : ∃ m : Nat, n = (m : Int) := ⟨n.toNat, by omega⟩
 have hmm : m ≤ 4294967296 := by omega
 obtain ⟨w', hrun, hown, hgr⟩ := run_make_full (P := C.P) w w.heap.size t e i z k.sz hu hi hz0 hsz .i64 .i64 m (by rw [hby]; have := Nat.mul_le_mul hb' hmm; omega) (by unfold maxLen; omega) (Nat.le_refl _)
 have hzs : z.cells.size = k.sz := by rw [hzc]; cases k <;> rfl
 have hheap : ∃ cur, w'.heap[w.heap.size]? = some (.cells cur e (0, 0)) ∧ cur.size = m * k.sz ∧ cur.toList = (madeCells z.cells (m * k.sz)).toList := by
  rcases hown.2 with ⟨h1, _⟩ | ⟨g, cap, cur, h1, _, h2, h3, h4, h5, h6⟩
  ·cases h1
  ·cases h1
   refine ⟨cur, h2, h5, ?_⟩
   rw [← h6, List.take_of_length_le (by simp [h5])]
 obtain ⟨cur, g1, g2, g3⟩ := hheap
 rw [Int.toNat_natCast] at hz
 obtain ⟨z0, z1, z2, z3⟩ := hz
 have hks : k.sz = q.sz := by
  cases k <;> cases q <;> first | rfl | (cases hk; done)
 obtain ⟨M1, hr1, hi1⟩ := hr.newFamN F te (famOf q) (fun j c hc => by
  rw [famOf_get z0] at hc
  split at hc
  ·rename_i hj; cases hc; exact z2 j hj
  ·cases hc) hl hl2 hN hO hF
 rw [← dF_fam] at hr1
 obtain ⟨M', h1, h2⟩ := hr1.newRowW (r := b) (m := m) (e := e) (q := dR F q) (cur := cur) (w' := w') (by rw [dR_len]; exact z1) (by unfold maxLen; omega) (by rw [dR_sz, ← hks]; exact g2) g1 hgr.os hgr.tape hgr.output hgr.size (fun k hk => hgr.block k hk (by simp)) (fun i j d hi hd => by
  have hj : j < k.sz := by rw [hks, ← dR_sz F q, ← Sq.relem_len (dR F q) i]; exact (List.getElem?_eq_some_iff.1 hd).1
  have hlt : i * k.sz + j < m * k.sz := by
   have : (i + 1) * k.sz ≤ m * k.sz := Nat.mul_le_mul_right _ hi
   rw [Nat.add_mul, Nat.one_mul] at this; omega
  have hget : cur.getD (i * (dR F q).sz + j) undef = k.zero1.toArray.getD j undef := by
   have hc : cur = madeCells z.cells (m * k.sz) := by rw [← Array.toList_inj]; exact g3
   have hzz : k.zero1.toArray.size = k.sz := by rw [← hzc, hzs]
   rw [dR_sz, ← hks, hc, ← hzc]
   have hmod : (i * k.sz + j) % k.sz = j := by rw [Nat.mul_comm, Nat.mul_add_mod, Nat.mod_eq_of_lt hj]
   simp [madeCells, hlt, hzs, hmod, hj]
  rw [hget]
  have hi' : i < q.len := by rw [z1]; exact hi
  have hin : ∀ n, n = 0 → VR M1 (Ow (Fs C.w0 C.O0) M1) w (.irow F i n) (.slice none 0 0) := fun n hn0 => .irow _ _ _ _ rfl fun x hx => by
   rw [hi1 i (q.nn i) (by rw [famOf_get z0, if_pos hi'])] at hx
   cases hx
   exact ⟨⟨none, rfl⟩, hn0, rfl⟩
  have hlen0 := z2 i hi'
  rcases dR_relem z0 hi' hd with ⟨rfl, h5⟩ | ⟨x, rfl, h5⟩
  ·have : k.zero1.toArray.getD j undef = .slice none 0 0 := by
    cases k <;> cases q <;> first | (cases hk; done) | skip
    case raises.raises => rcases j with _ | _ | j <;> first | rfl | (simp [Sq.elem] at h5; done) | (exfalso; simp [Sq.sz] at hj; done) | (exfalso; simp [Sq.sz] at hj; omega)
    all_goals (rcases j with _ | j <;> first | rfl | (exfalso; simp [Sq.sz] at hj; done) | (exfalso; simp [Sq.sz] at hj; omega))
   rw [this]
   exact hin _ hlen0
  ·have hx0 := z3 i j x hi' (h5 true)
   subst hx0
   have : k.zero1.toArray.getD j undef = .int .i64 0 := by
    cases k <;> cases q <;> first | (cases hk; done) | skip
    case raises.raises => rcases j with _ | _ | j <;> first | rfl | (simp [Sq.elem] at h5; done)
    all_goals (rcases j with _ | j <;> simp [Sq.elem] at h5)
   rw [this]
   exact .int 0) (frB_ok hf) (by have h1000 := hr.nle; rw [Nat.blt_eq] at hn; omega)
 have hrun' : (execOp a.eval o).run C.P w = .ok (.value (.slice (some ⟨w.heap.size, 0, none⟩) m m)) w' := by
  unfold execOp
  rw [hop]
  simp only [Sem.run_bind, e1.int_inv, e2.int_inv, hrun, Result.andThen_ok]
  rfl
 unfold Oper.wp
 rw [hrun']
 refine hk' M' _ _ _ (vNf hnf h) ?_
 rw [hd, z1]
 exact h1.put (o := some b) hn h2
end
end Go.Proofs.Ytmoamglpocjhgaa
namespace Go.Proofs.Ytmoamglpocjhgaa
open Go.RowKit Go.Deep
section
variable {C : Cx} {ops : Array Oper} {K : PS → Prop} {o : Oper} {rest : List Oper} {TT : List (Nat × Ty)} {tm : List (Nat × D)} {rw' : List (Nat × Option (TypeId × Sq))} {bx : List (Nat × Option (List D))} {cr B : List Nat} {j : Nat}
end
end Go.Proofs.Ytmoamglpocjhgaa
namespace Go.Proofs.Ytmoamglpocjhgaa
open Go.RowKit Go.Deep
def S_l21Reach_l1 (N : Nat) (p_0 : Pin) (l75 : List Int) (k : (List Int) → Option (List Int)) : Nat → ((List Int) × Int) → Option (List Int)
 | 0, _ => none
 | n + 1, (l86, u87) =>
  cnd (decide (u87 < p_0.g.n)) (
   (S_l2Has N l75 u87).bind fun v89 =>
   cnd v89 (
    grd (l86.length + 1 ≤ 4294967296) <|
    grd (Rg64 (u87 + (1 : Int))) <|
    S_l21Reach_l1 N p_0 l75 k n ((l86 ++ ([u87] : List Int)), (u87 + (1 : Int)))) (
    grd (Rg64 (u87 + (1 : Int))) <|
    S_l21Reach_l1 N p_0 l75 k n (l86, (u87 + (1 : Int))))) (
   k l86)
def S_l21Reach_l3 (N : Nat) (p_0 : Pin) (owner_1 : List Int) (k116 : Int) (k : (List Int) → Option (List Int)) : Nat → ((List Int) × Int) → Option (List Int)
 | 0, _ => none
 | n + 1, (l157, i158) =>
  cnd (decide (i158 < (owner_1.length : Int))) (
   grd (0 ≤ i158 ∧ i158 < (owner_1.length : Int)) <|
   grd (0 ≤ k116 ∧ k116 < (l157.length : Int)) <|
   cnd ((owner_1.getD ((i158).toNat) 0) == (l157.getD ((k116).toNat) 0)) (
    grd (0 ≤ i158 ∧ i158 < (p_0.g.bars.length : Int)) <|
    (S_l4Other N (p_0.g.bars.getD ((i158).toNat) (0, 0)) (owner_1.getD ((i158).toNat) 0)).bind fun v162 =>
    (S_l2Has N l157 v162).bind fun v163 =>
    cnd (!v163) (
     (S_l2Has N p_0.ground v162).bind fun v164 =>
     cnd (!v164) (
      grd (l157.length + 1 ≤ 4294967296) <|
      grd (Rg64 (i158 + (1 : Int))) <|
      S_l21Reach_l3 N p_0 owner_1 k116 k n ((l157 ++ ([v162] : List Int)), (i158 + (1 : Int)))) (
      grd (Rg64 (i158 + (1 : Int))) <|
      S_l21Reach_l3 N p_0 owner_1 k116 k n (l157, (i158 + (1 : Int))))) (
     grd (Rg64 (i158 + (1 : Int))) <|
     S_l21Reach_l3 N p_0 owner_1 k116 k n (l157, (i158 + (1 : Int))))) (
    grd (Rg64 (i158 + (1 : Int))) <|
    S_l21Reach_l3 N p_0 owner_1 k116 k n (l157, (i158 + (1 : Int))))) (
   k l157)
def S_l21Reach_l2 (N : Nat) (p_0 : Pin) (owner_1 : List Int) (k : (List Int) → Option (List Int)) : Nat → ((List Int) × Int) → Option (List Int)
 | 0, _ => none
 | n + 1, (l115, k116) =>
  cnd (decide (k116 < (l115.length : Int))) (
   S_l21Reach_l3 N p_0 owner_1 k116 (fun (l152 : List Int) =>
      grd (Rg64 (k116 + (1 : Int))) <|
      S_l21Reach_l2 N p_0 owner_1 k n (l152, (k116 + (1 : Int)))) N (l115, (0 : Int))) (
   k l115)
def S_l21Reach (N : Nat) (p_0 : Pin) (owner_1 : List Int) (v_2 : Int) : Option (List Int) :=
 S_l21Reach_l2 N p_0 owner_1 (fun (l75 : List Int) =>
    S_l21Reach_l1 N p_0 l75 (fun (l82 : List Int) =>
       some l82) N (([] : List Int), (0 : Int))) N (([v_2] : List Int), (0 : Int))
set_option maxRecDepth 20000 in
set_option maxHeartbeats 1600000 in
theorem S_l21Reach_w (N : Nat) (p_0 : Pin) (owner_1 : List Int) (v_2 : Int) (r : List Int) (h : S_l21Reach N p_0 owner_1 v_2 = some r) : PCall Try.prog 53 [pD p_0, .ro false (.ints owner_1), .int v_2] [(3, .ints r)] (.row 0 0 r.length) := by
 unfold S_l21Reach at h
 refine pcall_intro (TT := TT) tt Try.func53 rfl rfl Try.ntmps53 (congrArg Array.toList Try.results53) rfl rfl fun w0 => ?_
 refine vSeq ?_
 refine vRegion ?_
 refine oBox rfl rfl rfl rfl rfl rfl rfl rfl rfl ?_
 refine oVal tt rfl rfl rfl rfl rfl trivial ?_
 refine vNil ?_
 change VC _ _ _ _
 refine vSeq ?_
 refine vRegion ?_
 refine oVal tt rfl rfl rfl rfl rfl trivial ?_
 refine oBuild tt rfl rfl rfl rfl rfl rfl rfl rfl rfl rfl rfl ?_
 refine oVal tt rfl rfl rfl rfl rfl trivial ?_
 refine vNil ?_
 change VC _ _ _ _
 iterate 2 refine vSeq ?_
 refine vRegion ?_
 refine oVal tt rfl rfl rfl rfl rfl trivial ?_
 refine vNil ?_
 change VC _ _ _ _
 refine vJoin (F := fun k => S_l21Reach_l2 N p_0 owner_1 k) h (α := List Int) (J := fun (l75 : List Int) => (⟨[(3, .ptr 3 0), (7, .row 14 0 l75.length)], [(14, some (3, .ints l75))], [(3, some [.int p_0.g.n, .ro false (.pairs p_0.g.bars), .ro false (.ints p_0.ground)])]⟩ : PS)) ?_ ?_
 ·rintro l75 h
  show VC _ _ _ (⟨[(3, .ptr 3 0), (7, .row 14 0 l75.length)], [(14, some (3, .ints l75))], [(3, some [.int p_0.g.n, .ro false (.pairs p_0.g.bars), .ro false (.ints p_0.ground)])]⟩ : PS)
  refine vSeq ?_
  refine vRegion ?_
  refine oEmpty tt (wNone rfl) rfl rfl rfl rfl ?_
  refine oVal tt rfl rfl rfl rfl rfl trivial ?_
  refine vNil ?_
  change VC _ _ _ _
  iterate 2 refine vSeq ?_
  refine vRegion ?_
  refine oVal tt rfl rfl rfl rfl rfl trivial ?_
  refine vNil ?_
  change VC _ _ _ _
  refine vJoin (F := fun k => S_l21Reach_l1 N p_0 l75 k) h (α := List Int) (J := fun (l82 : List Int) => (⟨[(11, .row 76 0 l82.length)], [(76, some (3, .ints l82))], []⟩ : PS)) ?_ ?_
  ·rintro l82 h
   show VC _ _ _ (⟨[(11, .row 76 0 l82.length)], [(76, some (3, .ints l82))], []⟩ : PS)
   refine vSeq ?_
   refine vRegion ?_
   iterate 2 refine oVal tt rfl rfl rfl rfl rfl trivial ?_
   refine vNil ?_
   change VC _ _ _ _
   refine vRet ?_
   change ∃ _, _
   cases h
   exact ⟨[76], _, rfl, ⟨rfl, trivial⟩, rfl, (.eq rfl), rfl⟩
  ·intro k h
   refine vBlock ?_
   refine vNilT 11 76 3 (.ints []) rfl rfl rfl rfl ?_
   refine vLoopS (α := (List Int) × Int) (fun | (l86, u87) => (⟨[(3, .ptr 3 0), (7, .row 14 0 l75.length), (11, .row 76 0 l86.length), (12, .int u87)], [(14, some (3, .ints l75)), (76, some (3, .ints l86))], [(3, some [.int p_0.g.n, .ro false (.pairs p_0.g.bars), .ro false (.ints p_0.ground)])]⟩ : PS)) (S_l21Reach_l1 N p_0 l75 k) h (En.of ⟨rfl, rfl, rfl, rfl, trivial⟩ ⟨rfl, rfl, trivial⟩ ⟨rfl, trivial⟩) (fun _ => rfl) ?_
   rintro n ⟨l86, u87⟩ h
   rw [S_l21Reach_l1] at h
   show VC _ _ _ (⟨[(3, .ptr 3 0), (7, .row 14 0 l75.length), (11, .row 76 0 l86.length), (12, .int u87)], [(14, some (3, .ints l75)), (76, some (3, .ints l86))], [(3, some [.int p_0.g.n, .ro false (.pairs p_0.g.bars), .ro false (.ints p_0.ground)])]⟩ : PS)
   iterate 2 refine vSeq ?_
   refine vRegion ?_
   iterate 5 refine oVal tt rfl rfl rfl rfl rfl trivial ?_
   refine vNil ?_
   change VC _ _ _ _
   refine vCond rfl (fun hb1 => ?_) (fun hb1 => ?_)
   ·replace h := cnd_t hb1 h
    refine vSkip ?_
    change VC _ _ _ _
    refine vSeq ?_
    refine vBlock ?_
    refine vSeq ?_
    refine vRegion ?_
    iterate 2 refine oVal tt rfl rfl rfl rfl rfl trivial ?_
    obtain ⟨v89, hc2, h⟩ := bind_inv h
    refine oCall (S_l2Has_w N l75 u87 v89 hc2) rfl rfl rfl rfl rfl rfl rfl rfl ⟨(.inl ⟨rfl, rfl⟩), rfl, trivial⟩ ?_
    refine vNil ?_
    change VC _ _ _ _
    refine vCond rfl (fun hb3 => ?_) (fun hb3 => ?_)
    ·replace h := cnd_t hb3 h
     refine vRegion ?_
     iterate 2 refine oVal tt rfl rfl rfl rfl rfl trivial ?_
     refine oBuild tt rfl rfl rfl rfl rfl rfl rfl rfl rfl rfl rfl ?_
     obtain ⟨hg4, h⟩ := grd_inv h
     refine oAppend tt rfl rfl rfl rfl rfl rfl rfl rfl rfl rfl rfl rfl rfl rfl rfl rfl (Nat.le_of_eq (Nat.zero_add _)) hg4 ?_
     refine oVal tt rfl rfl rfl rfl rfl trivial ?_
     refine vNil ?_
     change VC _ _ _ _
     refine vRegion ?_
     refine oVal tt rfl rfl rfl rfl rfl trivial ?_
     obtain ⟨hg5, h⟩ := grd_inv h
     refine oVal tt rfl rfl rfl rfl rfl hg5 ?_
     refine oVal tt rfl rfl rfl rfl rfl trivial ?_
     refine vNil ?_
     change ∃ _, _
     exact ⟨((l86 ++ ([u87] : List Int)), (u87 + (1 : Int))), (En.of ⟨rfl, rfl, rfl, rfl, trivial⟩ ⟨rfl, rfl, trivial⟩ ⟨rfl, trivial⟩), h⟩
    ·replace h := cnd_f hb3 h
     refine vSkip ?_
     change VC _ _ _ _
     refine vRegion ?_
     refine oVal tt rfl rfl rfl rfl rfl trivial ?_
     obtain ⟨hg6, h⟩ := grd_inv h
     refine oVal tt rfl rfl rfl rfl rfl hg6 ?_
     refine oVal tt rfl rfl rfl rfl rfl trivial ?_
     refine vNil ?_
     change ∃ _, _
     exact ⟨(l86, (u87 + (1 : Int))), (En.of ⟨rfl, rfl, rfl, rfl, trivial⟩ ⟨rfl, rfl, trivial⟩ ⟨rfl, trivial⟩), h⟩
   ·replace h := cnd_f hb1 h
    refine vExit ?_
    change ∃ _, _
    exact ⟨l86, (En.of ⟨rfl, trivial⟩ ⟨rfl, trivial⟩ trivial), h⟩
 ·intro k h
  refine vBlock ?_
  refine vLoopS (α := (List Int) × Int) (fun | (l115, k116) => (⟨[(1, .ro false (.ints owner_1)), (3, .ptr 3 0), (7, .row 14 0 l115.length), (8, .int k116)], [(14, some (3, .ints l115))], [(3, some [.int p_0.g.n, .ro false (.pairs p_0.g.bars), .ro false (.ints p_0.ground)])]⟩ : PS)) (S_l21Reach_l2 N p_0 owner_1 k) h (En.of ⟨rfl, rfl, rfl, rfl, trivial⟩ ⟨rfl, trivial⟩ ⟨rfl, trivial⟩) (fun _ => rfl) ?_
  rintro n ⟨l115, k116⟩ h
  rw [S_l21Reach_l2] at h
  show VC _ _ _ (⟨[(1, .ro false (.ints owner_1)), (3, .ptr 3 0), (7, .row 14 0 l115.length), (8, .int k116)], [(14, some (3, .ints l115))], [(3, some [.int p_0.g.n, .ro false (.pairs p_0.g.bars), .ro false (.ints p_0.ground)])]⟩ : PS)
  iterate 2 refine vSeq ?_
  refine vRegion ?_
  iterate 4 refine oVal tt rfl rfl rfl rfl rfl trivial ?_
  refine vNil ?_
  change VC _ _ _ _
  refine vCond rfl (fun hb7 => ?_) (fun hb7 => ?_)
  ·replace h := cnd_t hb7 h
   refine vSkip ?_
   change VC _ _ _ _
   refine vSeq ?_
   refine vBlock ?_
   refine vSeq ?_
   refine vRegion ?_
   refine oVal tt rfl rfl rfl rfl rfl trivial ?_
   refine vNil ?_
   change VC _ _ _ _
   refine vJoin (F := fun k => S_l21Reach_l3 N p_0 owner_1 k116 k) h (α := List Int) (J := fun (l152 : List Int) => (⟨[(1, .ro false (.ints owner_1)), (3, .ptr 3 0), (7, .row 14 0 l152.length), (8, .int k116)], [(14, some (3, .ints l152))], [(3, some [.int p_0.g.n, .ro false (.pairs p_0.g.bars), .ro false (.ints p_0.ground)])]⟩ : PS)) ?_ ?_
   ·rintro l152 h
    show VC _ _ _ (⟨[(1, .ro false (.ints owner_1)), (3, .ptr 3 0), (7, .row 14 0 l152.length), (8, .int k116)], [(14, some (3, .ints l152))], [(3, some [.int p_0.g.n, .ro false (.pairs p_0.g.bars), .ro false (.ints p_0.ground)])]⟩ : PS)
    refine vRegion ?_
    refine oVal tt rfl rfl rfl rfl rfl trivial ?_
    obtain ⟨hg8, h⟩ := grd_inv h
    refine oVal tt rfl rfl rfl rfl rfl hg8 ?_
    refine oVal tt rfl rfl rfl rfl rfl trivial ?_
    refine vNil ?_
    change ∃ _, _
    exact ⟨(l152, (k116 + (1 : Int))), (En.of ⟨rfl, rfl, rfl, rfl, trivial⟩ ⟨rfl, trivial⟩ ⟨rfl, trivial⟩), h⟩
   ·intro k h
    refine vBlock ?_
    refine vLoopS (α := (List Int) × Int) (fun | (l157, i158) => (⟨[(1, .ro false (.ints owner_1)), (3, .ptr 3 0), (7, .row 14 0 l157.length), (8, .int k116), (9, .int i158)], [(14, some (3, .ints l157))], [(3, some [.int p_0.g.n, .ro false (.pairs p_0.g.bars), .ro false (.ints p_0.ground)])]⟩ : PS)) (S_l21Reach_l3 N p_0 owner_1 k116 k) h (En.of ⟨rfl, rfl, rfl, rfl, rfl, trivial⟩ ⟨rfl, trivial⟩ ⟨rfl, trivial⟩) (fun _ => rfl) ?_
    rintro n ⟨l157, i158⟩ h
    rw [S_l21Reach_l3] at h
    show VC _ _ _ (⟨[(1, .ro false (.ints owner_1)), (3, .ptr 3 0), (7, .row 14 0 l157.length), (8, .int k116), (9, .int i158)], [(14, some (3, .ints l157))], [(3, some [.int p_0.g.n, .ro false (.pairs p_0.g.bars), .ro false (.ints p_0.ground)])]⟩ : PS)
    iterate 2 refine vSeq ?_
    refine vRegion ?_
    iterate 4 refine oVal tt rfl rfl rfl rfl rfl trivial ?_
    refine vNil ?_
    change VC _ _ _ _
    refine vCond rfl (fun hb9 => ?_) (fun hb9 => ?_)
    ·replace h := cnd_t hb9 h
     refine vSkip ?_
     change VC _ _ _ _
     refine vSeq ?_
     refine vBlock ?_
     refine vSeq ?_
     refine vRegionD (by kernel_rfl) (by kernel_rfl) ?_
     iterate 2 refine cVal tt rfl (wNone rfl) rfl rfl rfl trivial ?_
     obtain ⟨hg10, h⟩ := grd_inv h
     refine cVal tt rfl (wNone rfl) rfl rfl rfl hg10 ?_
     iterate 3 refine cVal tt rfl (wNone rfl) rfl rfl rfl trivial ?_
     obtain ⟨hg11, h⟩ := grd_inv h
     iterate 2 refine cVal tt rfl (wNone rfl) rfl rfl rfl hg11 ?_
     refine cVal tt rfl (wNone rfl) rfl rfl rfl trivial ?_
     refine cNil ?_
     change VC _ _ _ _
     refine vCond rfl (fun hb12 => ?_) (fun hb12 => ?_)
     ·replace h := cnd_t hb12 h
      refine vSeq ?_
      refine vRegionD (by kernel_rfl) (by kernel_rfl) ?_
      iterate 4 refine cVal tt rfl (wNone rfl) rfl rfl rfl trivial ?_
      obtain ⟨hg13, h⟩ := grd_inv h
      refine cVal tt rfl (wNone rfl) rfl rfl rfl hg13 ?_
      iterate 3 refine cVal tt rfl (wNone rfl) rfl rfl rfl trivial ?_
      refine cVal tt rfl (wNone rfl) rfl rfl rfl hg10 ?_
      refine cVal tt rfl (wNone rfl) rfl rfl rfl trivial ?_
      obtain ⟨v162, hc14, h⟩ := bind_inv h
      refine cCall (S_l4Other_w N (p_0.g.bars.getD ((i158).toNat) (0, 0)) (owner_1.getD ((i158).toNat) 0) v162 hc14) rfl (wNone rfl) rfl rfl rfl rfl rfl rfl ⟨⟨rfl, rfl, trivial⟩, rfl, trivial⟩ ?_
      refine cVal tt rfl (wNone rfl) rfl rfl rfl trivial ?_
      refine cNil ?_
      change VC _ _ _ _
      refine vSeq ?_
      refine vRegion ?_
      iterate 2 refine oVal tt rfl rfl rfl rfl rfl trivial ?_
      obtain ⟨v163, hc15, h⟩ := bind_inv h
      refine oCall (S_l2Has_w N l157 v162 v163 hc15) rfl rfl rfl rfl rfl rfl rfl rfl ⟨(.inl ⟨rfl, rfl⟩), rfl, trivial⟩ ?_
      iterate 2 refine oVal tt rfl rfl rfl rfl rfl trivial ?_
      refine oSplit rfl rfl rfl (fun hb16 => ?_) (fun hb16 => ?_)
      ·replace h := cnd_t hb16 h
       iterate 3 refine oValG tt rfl rfl rfl rfl rfl hb16 rfl rfl rfl trivial ?_
       obtain ⟨v164, hc17, h⟩ := bind_inv h
       refine oCallG (S_l2Has_w N p_0.ground v162 v164 hc17) rfl rfl rfl rfl hb16 rfl rfl rfl rfl rfl rfl rfl ⟨rfl, rfl, trivial⟩ ?_
       refine oValG tt rfl rfl rfl rfl rfl hb16 rfl rfl rfl trivial ?_
       refine oPick rfl rfl rfl rfl rfl hb16 rfl ?_
       refine vNil ?_
       change VC _ _ _ _
       refine vCond rfl (fun hb18 => ?_) (fun hb18 => ?_)
       ·replace h := cnd_t hb18 h
        refine vRegion ?_
        iterate 2 refine oVal tt rfl rfl rfl rfl rfl trivial ?_
        refine oBuild tt rfl rfl rfl rfl rfl rfl rfl rfl rfl rfl rfl ?_
        obtain ⟨hg19, h⟩ := grd_inv h
        refine oAppend tt rfl rfl rfl rfl rfl rfl rfl rfl rfl rfl rfl rfl rfl rfl rfl rfl (Nat.le_of_eq (Nat.zero_add _)) hg19 ?_
        refine oVal tt rfl rfl rfl rfl rfl trivial ?_
        refine vNil ?_
        change VC _ _ _ _
        refine vRegion ?_
        refine oVal tt rfl rfl rfl rfl rfl trivial ?_
        obtain ⟨hg20, h⟩ := grd_inv h
        refine oVal tt rfl rfl rfl rfl rfl hg20 ?_
        refine oVal tt rfl rfl rfl rfl rfl trivial ?_
        refine vNil ?_
        change ∃ _, _
        exact ⟨((l157 ++ ([v162] : List Int)), (i158 + (1 : Int))), (En.of ⟨rfl, rfl, rfl, rfl, rfl, trivial⟩ ⟨rfl, trivial⟩ ⟨rfl, trivial⟩), h⟩
       ·replace h := cnd_f hb18 h
        refine vSkip ?_
        change VC _ _ _ _
        refine vRegion ?_
        refine oVal tt rfl rfl rfl rfl rfl trivial ?_
        obtain ⟨hg21, h⟩ := grd_inv h
        refine oVal tt rfl rfl rfl rfl rfl hg21 ?_
        refine oVal tt rfl rfl rfl rfl rfl trivial ?_
        refine vNil ?_
        change ∃ _, _
        exact ⟨(l157, (i158 + (1 : Int))), (En.of ⟨rfl, rfl, rfl, rfl, rfl, trivial⟩ ⟨rfl, trivial⟩ ⟨rfl, trivial⟩), h⟩
      ·replace h := cnd_f hb16 h
       iterate 5 refine oNoT rfl rfl rfl rfl hb16 rfl rfl ?_
       refine oPickF rfl rfl rfl rfl rfl hb16 rfl ?_
       refine vNil ?_
       change VC _ _ _ _
       refine vCondF rfl rfl ?_
       refine vSkip ?_
       change VC _ _ _ _
       refine vRegion ?_
       refine oVal tt rfl rfl rfl rfl rfl trivial ?_
       obtain ⟨hg22, h⟩ := grd_inv h
       refine oVal tt rfl rfl rfl rfl rfl hg22 ?_
       refine oVal tt rfl rfl rfl rfl rfl trivial ?_
       refine vNil ?_
       change ∃ _, _
       exact ⟨(l157, (i158 + (1 : Int))), (En.of ⟨rfl, rfl, rfl, rfl, rfl, trivial⟩ ⟨rfl, trivial⟩ ⟨rfl, trivial⟩), h⟩
     ·replace h := cnd_f hb12 h
      refine vSkip ?_
      change VC _ _ _ _
      refine vRegion ?_
      refine oVal tt rfl rfl rfl rfl rfl trivial ?_
      obtain ⟨hg23, h⟩ := grd_inv h
      refine oVal tt rfl rfl rfl rfl rfl hg23 ?_
      refine oVal tt rfl rfl rfl rfl rfl trivial ?_
      refine vNil ?_
      change ∃ _, _
      exact ⟨(l157, (i158 + (1 : Int))), (En.of ⟨rfl, rfl, rfl, rfl, rfl, trivial⟩ ⟨rfl, trivial⟩ ⟨rfl, trivial⟩), h⟩
    ·replace h := cnd_f hb9 h
     refine vExit ?_
     change ∃ _, _
     exact ⟨l157, (En.of ⟨rfl, rfl, rfl, rfl, trivial⟩ ⟨rfl, trivial⟩ ⟨rfl, trivial⟩), h⟩
  ·replace h := cnd_f hb7 h
   refine vExit ?_
   change ∃ _, _
   exact ⟨l115, (En.of ⟨rfl, rfl, trivial⟩ ⟨rfl, trivial⟩ ⟨rfl, trivial⟩), h⟩
def S_AssurGroups_l2 (N : Nat) (p_0 : Pin) (v1 : (List Int) × Bool) (v2 : List Int) (i236 : Int) (k : (List Int) → Option ((List (List Int)) × Bool)) : Nat → ((List Int) × Int) → Option ((List (List Int)) × Bool)
 | 0, _ => none
 | n + 1, (l303, k304) =>
  cnd (decide (k304 < (v2.length : Int))) (
   grd (0 ≤ i236 ∧ i236 < (v2.length : Int)) <|
   (S_l21Reach N p_0 v1.1 (v2.getD ((i236).toNat) 0)).bind fun v309 =>
   grd (0 ≤ k304 ∧ k304 < (v2.length : Int)) <|
   (S_l2Has N v309 (v2.getD ((k304).toNat) 0)).bind fun v310 =>
   cnd v310 (
    (S_l21Reach N p_0 v1.1 (v2.getD ((k304).toNat) 0)).bind fun v311 =>
    (S_l2Has N v311 (v2.getD ((i236).toNat) 0)).bind fun v312 =>
    cnd v312 (
     grd (l303.length + 1 ≤ 4294967296) <|
     grd (Rg64 (k304 + (1 : Int))) <|
     S_AssurGroups_l2 N p_0 v1 v2 i236 k n ((l303 ++ ([(v2.getD ((k304).toNat) 0)] : List Int)), (k304 + (1 : Int)))) (
     grd (Rg64 (k304 + (1 : Int))) <|
     S_AssurGroups_l2 N p_0 v1 v2 i236 k n (l303, (k304 + (1 : Int))))) (
    grd (Rg64 (k304 + (1 : Int))) <|
    S_AssurGroups_l2 N p_0 v1 v2 i236 k n (l303, (k304 + (1 : Int))))) (
   k l303)
def S_AssurGroups_l1 (N : Nat) (p_0 : Pin) (v1 : (List Int) × Bool) (v2 : List Int) (k : (List (List Int)) → Option ((List (List Int)) × Bool)) : Nat → ((List (List Int)) × Int) → Option ((List (List Int)) × Bool)
 | 0, _ => none
 | n + 1, (l235, i236) =>
  cnd (decide (i236 < (v2.length : Int))) (
   cnd v1.2 (
    S_AssurGroups_l2 N p_0 v1 v2 i236 (fun (l293 : List Int) =>
       grd (0 ≤ (0 : Int) ∧ (0 : Int) < (l293.length : Int)) <|
       grd (0 ≤ i236 ∧ i236 < (v2.length : Int)) <|
       cnd ((l293.getD ((0 : Int).toNat) 0) == (v2.getD ((i236).toNat) 0)) (
        grd (l235.length + 1 ≤ 4294967296) <|
        grd (Rg64 (i236 + (1 : Int))) <|
        S_AssurGroups_l1 N p_0 v1 v2 k n ((l235 ++ ([l293] : List (List Int))), (i236 + (1 : Int)))) (
        grd (Rg64 (i236 + (1 : Int))) <|
        S_AssurGroups_l1 N p_0 v1 v2 k n (l235, (i236 + (1 : Int))))) N (([] : List Int), (0 : Int))) (
    k l235)) (
   k l235)
def S_AssurGroups (N : Nat) (p_0 : Pin) : Option ((List (List Int)) × Bool) :=
 (S_OwnersOf N p_0).bind fun v1 =>
 (S_InnerPoints N p_0).bind fun v2 =>
 S_AssurGroups_l1 N p_0 v1 v2 (fun (l157 : List (List Int)) =>
    some (l157, v1.2)) N (([] : List (List Int)), (0 : Int))
set_option maxRecDepth 20000 in
set_option maxHeartbeats 1600000 in
theorem S_AssurGroups_w (N : Nat) (p_0 : Pin) (r : (List (List Int)) × Bool) (h : S_AssurGroups N p_0 = some r) : PCall Try.prog 27 [pD p_0] [(25, .intss r.1)] (.tup [.row 0 0 r.1.length, .bool r.2]) := by
 unfold S_AssurGroups at h
 refine pcall_intro (TT := TT) tt Try.func27 rfl rfl Try.ntmps27 (congrArg Array.toList Try.results27) rfl rfl fun w0 => ?_
 refine vSeq ?_
 refine vRegion ?_
 refine oBox rfl rfl rfl rfl rfl rfl rfl rfl rfl ?_
 iterate 2 refine oVal tt rfl rfl rfl rfl rfl trivial ?_
 refine vNil ?_
 change VC _ _ _ _
 refine vSeq ?_
 refine vRegion ?_
 refine oEmpty tt (wNone rfl) rfl rfl rfl rfl ?_
 refine oVal tt rfl rfl rfl rfl rfl trivial ?_
 refine vNil ?_
 change VC _ _ _ _
 refine vSeq ?_
 refine vRegion ?_
 refine oVal tt rfl rfl rfl rfl rfl trivial ?_
 obtain ⟨v1, hc1, h⟩ := bind_inv h
 refine oCall (S_OwnersOf_w N p_0 v1 hc1) rfl rfl rfl rfl rfl rfl rfl rfl ⟨⟨rfl, rfl, rfl, trivial⟩, trivial⟩ ?_
 iterate 5 refine oVal tt rfl rfl rfl rfl rfl trivial ?_
 refine vNil ?_
 change VC _ _ _ _
 refine vSeq ?_
 refine vRegion ?_
 refine oVal tt rfl rfl rfl rfl rfl trivial ?_
 obtain ⟨v2, hc2, h⟩ := bind_inv h
 refine oCall (S_InnerPoints_w N p_0 v2 hc2) rfl rfl rfl rfl rfl rfl rfl rfl ⟨⟨rfl, rfl, rfl, trivial⟩, trivial⟩ ?_
 refine oVal tt rfl rfl rfl rfl rfl trivial ?_
 refine vNil ?_
 change VC _ _ _ _
 iterate 2 refine vSeq ?_
 refine vRegion ?_
 refine oVal tt rfl rfl rfl rfl rfl trivial ?_
 refine vNil ?_
 change VC _ _ _ _
 refine vJoin (F := fun k => S_AssurGroups_l1 N p_0 v1 v2 k) h (α := List (List Int)) (J := fun (l157 : List (List Int)) => (⟨[(4, .row 79 0 l157.length), (6, .bool v1.2)], [(79, some (25, .intss l157))], []⟩ : PS)) ?_ ?_
 ·rintro l157 h
  show VC _ _ _ (⟨[(4, .row 79 0 l157.length), (6, .bool v1.2)], [(79, some (25, .intss l157))], []⟩ : PS)
  refine vSeq ?_
  refine vRegion ?_
  iterate 4 refine oVal tt rfl rfl rfl rfl rfl trivial ?_
  refine vNil ?_
  change VC _ _ _ _
  refine vRet ?_
  change ∃ _, _
  cases h
  exact ⟨[79], _, rfl, ⟨rfl, trivial⟩, rfl, (.eq rfl), rfl⟩
 ·intro k h
  refine vBlock ?_
  refine vNilT 4 79 25 (.intss []) rfl rfl rfl rfl ?_
  refine vLoopS (α := (List (List Int)) × Int) (fun | (l235, i236) => (⟨[(1, .ptr 1 0), (4, .row 79 0 l235.length), (5, .row 1140 0 v1.1.length), (6, .bool v1.2), (7, .row 1180 0 v2.length), (8, .int i236)], [(79, some (25, .intss l235)), (1140, some (3, .ints v1.1)), (1180, some (3, .ints v2))], [(1, some [.int p_0.g.n, .ro false (.pairs p_0.g.bars), .ro false (.ints p_0.ground)])]⟩ : PS)) (S_AssurGroups_l1 N p_0 v1 v2 k) h (En.of ⟨rfl, rfl, rfl, rfl, rfl, rfl, trivial⟩ ⟨rfl, rfl, rfl, trivial⟩ ⟨rfl, trivial⟩) (fun _ => rfl) ?_
  rintro n ⟨l235, i236⟩ h
  rw [S_AssurGroups_l1] at h
  show VC _ _ _ (⟨[(1, .ptr 1 0), (4, .row 79 0 l235.length), (5, .row 1140 0 v1.1.length), (6, .bool v1.2), (7, .row 1180 0 v2.length), (8, .int i236)], [(79, some (25, .intss l235)), (1140, some (3, .ints v1.1)), (1180, some (3, .ints v2))], [(1, some [.int p_0.g.n, .ro false (.pairs p_0.g.bars), .ro false (.ints p_0.ground)])]⟩ : PS)
  iterate 2 refine vSeq ?_
  refine vRegion ?_
  iterate 5 refine oVal tt rfl rfl rfl rfl rfl trivial ?_
  refine oSplit rfl rfl rfl (fun hb3 => ?_) (fun hb3 => ?_)
  ·replace h := cnd_t hb3 h
   refine oValG tt rfl rfl rfl rfl rfl hb3 rfl rfl rfl trivial ?_
   refine oPick rfl rfl rfl rfl rfl hb3 rfl ?_
   refine vNil ?_
   change VC _ _ _ _
   refine vCond rfl (fun hb4 => ?_) (fun hb4 => ?_)
   ·replace h := cnd_t hb4 h
    refine vSkip ?_
    change VC _ _ _ _
    refine vSeq ?_
    refine vBlock ?_
    refine vSeq ?_
    refine vRegion ?_
    refine oEmpty tt (wNone rfl) rfl rfl rfl rfl ?_
    refine oVal tt rfl rfl rfl rfl rfl trivial ?_
    refine vNil ?_
    change VC _ _ _ _
    iterate 2 refine vSeq ?_
    refine vRegion ?_
    refine oVal tt rfl rfl rfl rfl rfl trivial ?_
    refine vNil ?_
    change VC _ _ _ _
    refine vJoin (F := fun k => S_AssurGroups_l2 N p_0 v1 v2 i236 k) h (α := List Int) (J := fun (l293 : List Int) => (⟨[(1, .ptr 1 0), (4, .row 79 0 l235.length), (5, .row 1140 0 v1.1.length), (6, .bool v1.2), (7, .row 1180 0 v2.length), (8, .int i236), (9, .row 67 0 l293.length)], [(79, some (25, .intss l235)), (1140, some (3, .ints v1.1)), (1180, some (3, .ints v2)), (67, some (3, .ints l293))], [(1, some [.int p_0.g.n, .ro false (.pairs p_0.g.bars), .ro false (.ints p_0.ground)])]⟩ : PS)) ?_ ?_
    ·rintro l293 h
     show VC _ _ _ (⟨[(1, .ptr 1 0), (4, .row 79 0 l235.length), (5, .row 1140 0 v1.1.length), (6, .bool v1.2), (7, .row 1180 0 v2.length), (8, .int i236), (9, .row 67 0 l293.length)], [(79, some (25, .intss l235)), (1140, some (3, .ints v1.1)), (1180, some (3, .ints v2)), (67, some (3, .ints l293))], [(1, some [.int p_0.g.n, .ro false (.pairs p_0.g.bars), .ro false (.ints p_0.ground)])]⟩ : PS)
     refine vSeq ?_
     refine vRegionD (by kernel_rfl) (by kernel_rfl) ?_
     refine cVal tt rfl (wNone rfl) rfl rfl rfl trivial ?_
     obtain ⟨hg5, h⟩ := grd_inv h
     iterate 2 refine cVal tt rfl (wNone rfl) rfl rfl rfl hg5 ?_
     iterate 2 refine cVal tt rfl (wNone rfl) rfl rfl rfl trivial ?_
     obtain ⟨hg6, h⟩ := grd_inv h
     iterate 2 refine cVal tt rfl (wNone rfl) rfl rfl rfl hg6 ?_
     refine cVal tt rfl (wNone rfl) rfl rfl rfl trivial ?_
     refine cNil ?_
     change VC _ _ _ _
     refine vCond rfl (fun hb7 => ?_) (fun hb7 => ?_)
     ·replace h := cnd_t hb7 h
      refine vRegion ?_
      iterate 2 refine oVal tt rfl rfl rfl rfl rfl trivial ?_
      refine oFreeze (t := 77) rfl rfl rfl rfl ?_
      refine oBuild tt rfl rfl rfl rfl rfl rfl rfl rfl rfl rfl rfl ?_
      obtain ⟨hg8, h⟩ := grd_inv h
      refine oAppend tt rfl rfl rfl rfl rfl rfl rfl rfl rfl rfl rfl rfl rfl rfl rfl rfl (Nat.le_of_eq (Nat.zero_add _)) hg8 ?_
      refine oVal tt rfl rfl rfl rfl rfl trivial ?_
      refine vNil ?_
      change VC _ _ _ _
      refine vRegion ?_
      refine oVal tt rfl rfl rfl rfl rfl trivial ?_
      obtain ⟨hg9, h⟩ := grd_inv h
      refine oVal tt rfl rfl rfl rfl rfl hg9 ?_
      refine oVal tt rfl rfl rfl rfl rfl trivial ?_
      refine vNil ?_
      change ∃ _, _
      exact ⟨((l235 ++ ([l293] : List (List Int))), (i236 + (1 : Int))), (En.of ⟨rfl, rfl, rfl, rfl, rfl, rfl, trivial⟩ ⟨rfl, rfl, rfl, trivial⟩ ⟨rfl, trivial⟩), h⟩
     ·replace h := cnd_f hb7 h
      refine vSkip ?_
      change VC _ _ _ _
      refine vRegion ?_
      refine oVal tt rfl rfl rfl rfl rfl trivial ?_
      obtain ⟨hg10, h⟩ := grd_inv h
      refine oVal tt rfl rfl rfl rfl rfl hg10 ?_
      refine oVal tt rfl rfl rfl rfl rfl trivial ?_
      refine vNil ?_
      change ∃ _, _
      exact ⟨(l235, (i236 + (1 : Int))), (En.of ⟨rfl, rfl, rfl, rfl, rfl, rfl, trivial⟩ ⟨rfl, rfl, rfl, trivial⟩ ⟨rfl, trivial⟩), h⟩
    ·intro k h
     refine vBlock ?_
     refine vNilT 9 67 3 (.ints []) rfl rfl rfl rfl ?_
     refine vLoopS (α := (List Int) × Int) (fun | (l303, k304) => (⟨[(1, .ptr 1 0), (4, .row 79 0 l235.length), (5, .row 1140 0 v1.1.length), (6, .bool v1.2), (7, .row 1180 0 v2.length), (8, .int i236), (9, .row 67 0 l303.length), (10, .int k304)], [(79, some (25, .intss l235)), (1140, some (3, .ints v1.1)), (1180, some (3, .ints v2)), (67, some (3, .ints l303))], [(1, some [.int p_0.g.n, .ro false (.pairs p_0.g.bars), .ro false (.ints p_0.ground)])]⟩ : PS)) (S_AssurGroups_l2 N p_0 v1 v2 i236 k) h (En.of ⟨rfl, rfl, rfl, rfl, rfl, rfl, rfl, rfl, trivial⟩ ⟨rfl, rfl, rfl, rfl, trivial⟩ ⟨rfl, trivial⟩) (fun _ => rfl) ?_
     rintro n ⟨l303, k304⟩ h
     rw [S_AssurGroups_l2] at h
     show VC _ _ _ (⟨[(1, .ptr 1 0), (4, .row 79 0 l235.length), (5, .row 1140 0 v1.1.length), (6, .bool v1.2), (7, .row 1180 0 v2.length), (8, .int i236), (9, .row 67 0 l303.length), (10, .int k304)], [(79, some (25, .intss l235)), (1140, some (3, .ints v1.1)), (1180, some (3, .ints v2)), (67, some (3, .ints l303))], [(1, some [.int p_0.g.n, .ro false (.pairs p_0.g.bars), .ro false (.ints p_0.ground)])]⟩ : PS)
     iterate 2 refine vSeq ?_
     refine vRegion ?_
     iterate 4 refine oVal tt rfl rfl rfl rfl rfl trivial ?_
     refine vNil ?_
     change VC _ _ _ _
     refine vCond rfl (fun hb11 => ?_) (fun hb11 => ?_)
     ·replace h := cnd_t hb11 h
      refine vSkip ?_
      change VC _ _ _ _
      refine vSeq ?_
      refine vBlock ?_
      refine vSeq ?_
      refine vRegionN 24 [6, 19] [0, 0, 0, 0, 12, 28, 63, 0, 0, 384, 896, 2047, 4095, 8191, 8191, 8191, 8191, 106495, 237567, 524287, 8191, 8191, 3153919, 7348223, 16777215, 33554431] (by kernel_rfl) (by kernel_rfl) (by kernel_rfl) (by kernel_rfl) (by kernel_rfl) rfl (by rfl) ?_
      iterate 4 refine nVal tt rfl (wNone rfl) rfl rfl rfl rfl rfl trivial ?_
      obtain ⟨hg12, h⟩ := grd_inv h
      iterate 2 refine nVal tt rfl (wNone rfl) rfl rfl rfl rfl rfl hg12 ?_
      obtain ⟨v309, hc13, h⟩ := bind_inv h
      refine nCallR (S_l21Reach_w N p_0 v1.1 (v2.getD ((i236).toNat) 0) v309 hc13) rfl (wNone rfl) rfl rfl rfl rfl rfl rfl (by first | rfl | kernel_rfl | (simp [nrL, nm, gdst, nmT, rowB]; done)) rfl (by first | rfl | kernel_rfl | (simp [chkE, nrL, nm, gdst, nmT, rowB, hid, ment, mentA, mentS]; done) | (simp [chkE, nrL, nm, gdst, nmT, rowB, hid, ment, mentA, mentS]; decide)) ⟨⟨rfl, rfl, rfl, trivial⟩, (.inl ⟨rfl, rfl⟩), rfl, trivial⟩ ?_
      iterate 2 refine nVal tt rfl (wNone rfl) rfl rfl rfl rfl rfl trivial ?_
      obtain ⟨hg14, h⟩ := grd_inv h
      iterate 2 refine nVal tt rfl (wNone rfl) rfl rfl rfl rfl rfl hg14 ?_
      obtain ⟨v310, hc15, h⟩ := bind_inv h
      refine nCall (S_l2Has_w N v309 (v2.getD ((k304).toNat) 0) v310 hc15) rfl (wNone rfl) rfl rfl rfl rfl rfl rfl rfl rfl ⟨(.inl ⟨rfl, rfl⟩), rfl, trivial⟩ ?_
      refine nVal tt rfl (wNone rfl) rfl rfl rfl rfl rfl trivial ?_
      refine nSplit rfl rfl rfl (fun hb16 => ?_) (fun hb16 => ?_)
      ·replace h := cnd_t hb16 h
       iterate 4 refine nVal tt rfl (wSome rfl rfl rfl rfl hb16) rfl rfl rfl rfl rfl trivial ?_
       iterate 2 refine nVal tt rfl (wSome rfl rfl rfl rfl hb16) rfl rfl rfl rfl rfl hg14 ?_
       obtain ⟨v311, hc17, h⟩ := bind_inv h
       refine nCallR (S_l21Reach_w N p_0 v1.1 (v2.getD ((k304).toNat) 0) v311 hc17) rfl (wSome rfl rfl rfl rfl hb16) rfl rfl rfl rfl rfl rfl (by first | rfl | kernel_rfl | (simp [nrL, nm, gdst, nmT, rowB]; done)) rfl (by first | rfl | kernel_rfl | (simp [chkE, nrL, nm, gdst, nmT, rowB, hid, ment, mentA, mentS]; done) | (simp [chkE, nrL, nm, gdst, nmT, rowB, hid, ment, mentA, mentS]; decide)) ⟨⟨rfl, rfl, rfl, trivial⟩, (.inl ⟨rfl, rfl⟩), rfl, trivial⟩ ?_
       iterate 2 refine nVal tt rfl (wSome rfl rfl rfl rfl hb16) rfl rfl rfl rfl rfl trivial ?_
       iterate 2 refine nVal tt rfl (wSome rfl rfl rfl rfl hb16) rfl rfl rfl rfl rfl hg12 ?_
       refine nNil ?_
       change VO _ _ _ _ _
       obtain ⟨v312, hc18, h⟩ := bind_inv h
       refine oCallG (S_l2Has_w N v311 (v2.getD ((i236).toNat) 0) v312 hc18) rfl rfl rfl rfl hb16 rfl rfl rfl rfl rfl rfl rfl ⟨(.inl ⟨rfl, rfl⟩), rfl, trivial⟩ ?_
       refine oPick rfl rfl rfl rfl rfl hb16 rfl ?_
       refine vNil ?_
       change VC _ _ _ _
       refine vCond rfl (fun hb19 => ?_) (fun hb19 => ?_)
       ·replace h := cnd_t hb19 h
        refine vRegion ?_
        iterate 3 refine oVal tt rfl rfl rfl rfl rfl trivial ?_
        iterate 2 refine oVal tt rfl rfl rfl rfl rfl hg14 ?_
        refine oBuild tt rfl rfl rfl rfl rfl rfl rfl rfl rfl rfl rfl ?_
        obtain ⟨hg20, h⟩ := grd_inv h
        refine oAppend tt rfl rfl rfl rfl rfl rfl rfl rfl rfl rfl rfl rfl rfl rfl rfl rfl (Nat.le_of_eq (Nat.zero_add _)) hg20 ?_
        refine oVal tt rfl rfl rfl rfl rfl trivial ?_
        refine vNil ?_
        change VC _ _ _ _
        refine vRegion ?_
        refine oVal tt rfl rfl rfl rfl rfl trivial ?_
        obtain ⟨hg21, h⟩ := grd_inv h
        refine oVal tt rfl rfl rfl rfl rfl hg21 ?_
        refine oVal tt rfl rfl rfl rfl rfl trivial ?_
        refine vNil ?_
        change ∃ _, _
        exact ⟨((l303 ++ ([(v2.getD ((k304).toNat) 0)] : List Int)), (k304 + (1 : Int))), (En.of ⟨rfl, rfl, rfl, rfl, rfl, rfl, rfl, rfl, trivial⟩ ⟨rfl, rfl, rfl, rfl, trivial⟩ ⟨rfl, trivial⟩), h⟩
       ·replace h := cnd_f hb19 h
        refine vSkip ?_
        change VC _ _ _ _
        refine vRegion ?_
        refine oVal tt rfl rfl rfl rfl rfl trivial ?_
        obtain ⟨hg22, h⟩ := grd_inv h
        refine oVal tt rfl rfl rfl rfl rfl hg22 ?_
        refine oVal tt rfl rfl rfl rfl rfl trivial ?_
        refine vNil ?_
        change ∃ _, _
        exact ⟨(l303, (k304 + (1 : Int))), (En.of ⟨rfl, rfl, rfl, rfl, rfl, rfl, rfl, rfl, trivial⟩ ⟨rfl, rfl, rfl, rfl, trivial⟩ ⟨rfl, trivial⟩), h⟩
      ·replace h := cnd_f hb16 h
       iterate 11 refine nNoT rfl rfl rfl rfl hb16 rfl rfl ?_
       refine nNil ?_
       change VO _ _ _ _ _
       refine oNoT rfl rfl rfl rfl hb16 rfl rfl ?_
       refine oPickF rfl rfl rfl rfl rfl hb16 rfl ?_
       refine vNil ?_
       change VC _ _ _ _
       refine vCondF rfl rfl ?_
       refine vSkip ?_
       change VC _ _ _ _
       refine vRegion ?_
       refine oVal tt rfl rfl rfl rfl rfl trivial ?_
       obtain ⟨hg23, h⟩ := grd_inv h
       refine oVal tt rfl rfl rfl rfl rfl hg23 ?_
       refine oVal tt rfl rfl rfl rfl rfl trivial ?_
       refine vNil ?_
       change ∃ _, _
       exact ⟨(l303, (k304 + (1 : Int))), (En.of ⟨rfl, rfl, rfl, rfl, rfl, rfl, rfl, rfl, trivial⟩ ⟨rfl, rfl, rfl, rfl, trivial⟩ ⟨rfl, trivial⟩), h⟩
     ·replace h := cnd_f hb11 h
      refine vExit ?_
      change ∃ _, _
      exact ⟨l303, (En.of ⟨rfl, rfl, rfl, rfl, rfl, rfl, rfl, trivial⟩ ⟨rfl, rfl, rfl, rfl, trivial⟩ ⟨rfl, trivial⟩), h⟩
   ·replace h := cnd_f hb4 h
    refine vExit ?_
    change ∃ _, _
    exact ⟨l235, (En.of ⟨rfl, rfl, trivial⟩ ⟨rfl, trivial⟩ trivial), h⟩
  ·replace h := cnd_f hb3 h
   refine oNoT rfl rfl rfl rfl hb3 rfl rfl ?_
   refine oPickF rfl rfl rfl rfl rfl hb3 rfl ?_
   refine vNil ?_
   change VC _ _ _ _
   refine vCondF rfl rfl ?_
   refine vExit ?_
   change ∃ _, _
   exact ⟨l235, (En.of ⟨rfl, rfl, trivial⟩ ⟨rfl, trivial⟩ trivial), h⟩
def S_IsAssurGroup (N : Nat) (p_0 : Pin) : Option (Bool) :=
 (S_AssurGroups N p_0).bind fun v1 =>
 cnd v1.2 (
  some ((v1.1.length : Int) == (1 : Int))) (
  some false)
set_option maxRecDepth 20000 in
set_option maxHeartbeats 1600000 in
theorem S_IsAssurGroup_w (N : Nat) (p_0 : Pin) (r : Bool) (h : S_IsAssurGroup N p_0 = some r) : PCall Try.prog 23 [pD p_0] [] (.bool r) := by
 unfold S_IsAssurGroup at h
 refine pcall_intro (TT := TT) tt Try.func23 rfl rfl Try.ntmps23 (congrArg Array.toList Try.results23) rfl rfl fun w0 => ?_
 refine vSeq ?_
 refine vRegion ?_
 refine oBox rfl rfl rfl rfl rfl rfl rfl rfl rfl ?_
 refine oVal tt rfl rfl rfl rfl rfl trivial ?_
 refine vNil ?_
 change VC _ _ _ _
 refine vSeq ?_
 refine vRegion ?_
 refine oVal tt rfl rfl rfl rfl rfl trivial ?_
 obtain ⟨v1, hc1, h⟩ := bind_inv h
 refine oCall (S_AssurGroups_w N p_0 v1 hc1) rfl rfl rfl rfl rfl rfl rfl rfl ⟨⟨rfl, rfl, rfl, trivial⟩, trivial⟩ ?_
 iterate 5 refine oVal tt rfl rfl rfl rfl rfl trivial ?_
 refine vNil ?_
 change VC _ _ _ _
 refine vSeq ?_
 refine vRegion ?_
 iterate 2 refine oVal tt rfl rfl rfl rfl rfl trivial ?_
 refine oSplit rfl rfl rfl (fun hb2 => ?_) (fun hb2 => ?_)
 ·replace h := cnd_t hb2 h
  iterate 3 refine oValG tt rfl rfl rfl rfl rfl hb2 rfl rfl rfl trivial ?_
  refine oPick rfl rfl rfl rfl rfl hb2 rfl ?_
  refine oVal tt rfl rfl rfl rfl rfl trivial ?_
  refine vNil ?_
  change VC _ _ _ _
  refine vRet ?_
  change ∃ _, _
  cases h
  exact ⟨[], _, rfl, trivial, rfl, (.eq rfl), rfl⟩
 ·replace h := cnd_f hb2 h
  iterate 3 refine oNoT rfl rfl rfl rfl hb2 rfl rfl ?_
  refine oPickF rfl rfl rfl rfl rfl hb2 rfl ?_
  refine oVal tt rfl rfl rfl rfl rfl trivial ?_
  refine vNil ?_
  change VC _ _ _ _
  refine vRet ?_
  change ∃ _, _
  cases h
  exact ⟨[], _, rfl, trivial, rfl, (.eq rfl), rfl⟩
def I_dependence_l3 (N : Nat) (p_0 : Pin) (x190 : Int) (x262 : Int) (k : (List (List Bool)) → Option ((List (List Bool)) × Bool)) : Nat → ((List (List Bool)) × Int) → Option ((List (List Bool)) × Bool)
 | 0, _ => none
 | n + 1, (l273, x274) =>
  cnd (decide (x274 < ((List.replicate ((p_0.g.n).toNat) ([] : (List Bool))).length : Int))) (
   grd (0 ≤ x262 ∧ x262 < ((List.replicate ((p_0.g.n).toNat) ([] : (List Bool))).length : Int)) <|
   grd (0 ≤ x262 ∧ x262 < (l273.length : Int)) <|
   grd (0 ≤ x274 ∧ x274 < ((l273.getD ((x262).toNat) []).length : Int)) <|
   cnd ((l273.getD ((x262).toNat) []).getD ((x274).toNat) false) (
    grd (Rg64 (x274 + (1 : Int))) <|
    I_dependence_l3 N p_0 x190 x262 k n ((l273.set ((x262).toNat) ((l273.getD ((x262).toNat) []).set ((x274).toNat) true)), (x274 + (1 : Int)))) (
    grd (0 ≤ x190 ∧ x190 < ((l273.getD ((x262).toNat) []).length : Int)) <|
    cnd ((l273.getD ((x262).toNat) []).getD ((x190).toNat) false) (
     grd (0 ≤ x190 ∧ x190 < ((List.replicate ((p_0.g.n).toNat) ([] : (List Bool))).length : Int)) <|
     grd (0 ≤ x190 ∧ x190 < (l273.length : Int)) <|
     grd (0 ≤ x274 ∧ x274 < ((l273.getD ((x190).toNat) []).length : Int)) <|
     grd (Rg64 (x274 + (1 : Int))) <|
     I_dependence_l3 N p_0 x190 x262 k n ((l273.set ((x262).toNat) ((l273.getD ((x262).toNat) []).set ((x274).toNat) ((l273.getD ((x190).toNat) []).getD ((x274).toNat) false))), (x274 + (1 : Int)))) (
     grd (Rg64 (x274 + (1 : Int))) <|
     I_dependence_l3 N p_0 x190 x262 k n ((l273.set ((x262).toNat) ((l273.getD ((x262).toNat) []).set ((x274).toNat) false)), (x274 + (1 : Int)))))) (
   k l273)
def I_dependence_l2 (N : Nat) (p_0 : Pin) (x190 : Int) (k : (List (List Bool)) → Option ((List (List Bool)) × Bool)) : Nat → ((List (List Bool)) × Int) → Option ((List (List Bool)) × Bool)
 | 0, _ => none
 | n + 1, (l261, x262) =>
  cnd (decide (x262 < ((List.replicate ((p_0.g.n).toNat) ([] : (List Bool))).length : Int))) (
   I_dependence_l3 N p_0 x190 x262 (fun (l271 : List (List Bool)) =>
      grd (Rg64 (x262 + (1 : Int))) <|
      I_dependence_l2 N p_0 x190 k n (l271, (x262 + (1 : Int)))) N (l261, (0 : Int))) (
   k l261)
def I_dependence_l1 (N : Nat) (p_0 : Pin) (k : (List (List Bool)) → Option ((List (List Bool)) × Bool)) : Nat → ((List (List Bool)) × Int) → Option ((List (List Bool)) × Bool)
 | 0, _ => none
 | n + 1, (l189, x190) =>
  cnd (decide (x190 < ((List.replicate ((p_0.g.n).toNat) ([] : (List Bool))).length : Int))) (
   I_dependence_l2 N p_0 x190 (fun (l253 : List (List Bool)) =>
      grd (Rg64 (x190 + (1 : Int))) <|
      I_dependence_l1 N p_0 k n (l253, (x190 + (1 : Int)))) N (l189, (0 : Int))) (
   k l189)
def I_dependence_l4 (N : Nat) (p_0 : Pin) (v1 : (List Int) × Bool) (k : (List (List Bool)) → Option ((List (List Bool)) × Bool)) : Nat → ((List (List Bool)) × Int) → Option ((List (List Bool)) × Bool)
 | 0, _ => none
 | n + 1, (l278, x279) =>
  cnd (decide (x279 < (v1.1.length : Int))) (
   grd (0 ≤ x279 ∧ x279 < (v1.1.length : Int)) <|
   grd (0 ≤ x279 ∧ x279 < (p_0.g.bars.length : Int)) <|
   (M_Bar_other N (p_0.g.bars.getD ((x279).toNat) (0, 0)) (v1.1.getD ((x279).toNat) 0)).bind fun v282 =>
   (M_Pinned_isInner N p_0 v282).bind fun v283 =>
   cnd v283 (
    grd (0 ≤ (v1.1.getD ((x279).toNat) 0) ∧ (v1.1.getD ((x279).toNat) 0) < ((List.replicate ((p_0.g.n).toNat) ([] : (List Bool))).length : Int)) <|
    grd (0 ≤ (v1.1.getD ((x279).toNat) 0) ∧ (v1.1.getD ((x279).toNat) 0) < (l278.length : Int)) <|
    grd (0 ≤ v282 ∧ v282 < ((l278.getD (((v1.1.getD ((x279).toNat) 0)).toNat) []).length : Int)) <|
    grd (Rg64 (x279 + (1 : Int))) <|
    I_dependence_l4 N p_0 v1 k n ((l278.set (((v1.1.getD ((x279).toNat) 0)).toNat) ((l278.getD (((v1.1.getD ((x279).toNat) 0)).toNat) []).set ((v282).toNat) true)), (x279 + (1 : Int)))) (
    grd (Rg64 (x279 + (1 : Int))) <|
    I_dependence_l4 N p_0 v1 k n (l278, (x279 + (1 : Int))))) (
   k l278)
def I_dependence_l5 (N : Nat) (p_0 : Pin) (k : (List (List Bool)) → Option ((List (List Bool)) × Bool)) : Nat → ((List (List Bool)) × Int) → Option ((List (List Bool)) × Bool)
 | 0, _ => none
 | n + 1, (l286, x287) =>
  cnd (decide (x287 < ((List.replicate ((p_0.g.n).toNat) ([] : (List Bool))).length : Int))) (
   grd (0 ≤ x287 ∧ x287 < ((List.replicate ((p_0.g.n).toNat) ([] : (List Bool))).length : Int)) <|
   grd (0 ≤ x287 ∧ x287 < (l286.length : Int)) <|
   grd (0 ≤ x287 ∧ x287 < ((l286.set ((x287).toNat) (List.replicate ((p_0.g.n).toNat) (false : Bool))).length : Int)) <|
   (M_Pinned_isInner N p_0 x287).bind fun v289 =>
   grd (0 ≤ x287 ∧ x287 < (((l286.set ((x287).toNat) (List.replicate ((p_0.g.n).toNat) (false : Bool))).getD ((x287).toNat) []).length : Int)) <|
   grd (Rg64 (x287 + (1 : Int))) <|
   I_dependence_l5 N p_0 k n (((l286.set ((x287).toNat) (List.replicate ((p_0.g.n).toNat) (false : Bool))).set ((x287).toNat) (((l286.set ((x287).toNat) (List.replicate ((p_0.g.n).toNat) (false : Bool))).getD ((x287).toNat) []).set ((x287).toNat) v289)), (x287 + (1 : Int)))) (
   k l286)
def I_dependence (N : Nat) (p_0 : Pin) : Option ((List (List Bool)) × Bool) :=
 (I_OwnersOf N p_0).bind fun v1 =>
 cnd (!v1.2) (
  some (([] : List (List Bool)), false)) (
  grd (0 ≤ p_0.g.n ∧ p_0.g.n ≤ 4294967296) <|
  I_dependence_l5 N p_0 (fun (l7 : List (List Bool)) =>
     I_dependence_l4 N p_0 v1 (fun (l16 : List (List Bool)) =>
        I_dependence_l1 N p_0 (fun (l145 : List (List Bool)) =>
           grd ((List.replicate ((p_0.g.n).toNat) ([] : (List Bool))).length = l145.length) <|
           some (l145, true)) N (l16, (0 : Int))) N (l7, (0 : Int))) N ((List.replicate ((p_0.g.n).toNat) ([] : (List Bool))), (0 : Int)))
set_option maxRecDepth 20000 in
set_option maxHeartbeats 1600000 in
theorem I_dependence_w (N : Nat) (p_0 : Pin) (r : (List (List Bool)) × Bool) (h : I_dependence N p_0 = some r) : PCallD Try.prog 54 [pD p_0] 82 4 (.boolss r.1) (.tup [.row 0 0 r.1.length, .bool r.2]) := by
 unfold I_dependence at h
 refine pcallD_intro (TT := TT) tt Try.func54 rfl rfl Try.ntmps54 (congrArg Array.toList Try.results54) rfl rfl rfl fun w0 => ?_
 refine vSeq ?_
 refine vRegion ?_
 refine oBox rfl rfl rfl rfl rfl rfl rfl rfl rfl ?_
 iterate 2 refine oVal tt rfl rfl rfl rfl rfl trivial ?_
 refine vNil ?_
 change VC _ _ _ _
 refine vSeq ?_
 refine vRegion ?_
 refine oVal tt rfl rfl rfl rfl rfl trivial ?_
 obtain ⟨v1, hc1, h⟩ := bind_inv h
 refine oCall (I_OwnersOf_w N p_0 v1 hc1) rfl rfl rfl rfl rfl rfl rfl rfl ⟨⟨rfl, rfl, rfl, trivial⟩, trivial⟩ ?_
 iterate 5 refine oVal tt rfl rfl rfl rfl rfl trivial ?_
 refine vNil ?_
 change VC _ _ _ _
 iterate 2 refine vSeq ?_
 refine vRegion ?_
 iterate 2 refine oVal tt rfl rfl rfl rfl rfl trivial ?_
 refine vNil ?_
 change VC _ _ _ _
 refine vCond rfl (fun hb2 => ?_) (fun hb2 => ?_)
 ·replace h := cnd_t hb2 h
  refine vSeq ?_
  refine vRegion ?_
  iterate 2 refine oVal tt rfl rfl rfl rfl rfl trivial ?_
  refine vNil ?_
  change VC _ _ _ _
  refine vNilT 2 9001 82 (.boolss []) rfl rfl rfl rfl ?_
  refine vEn (En.newFam 11 4 (.bools []) rfl rfl rfl rfl (fun _ h => by cases h) rfl) ?_
  refine vEn (En.asRefs 9001 11 (q := .boolss []) (qR := dR 11 (.boolss [])) rfl rfl rfl rfl) ?_
  refine vRet ?_
  change ∃ _, _
  cases h
  exact ⟨9001, 11, _, rfl, rfl, rfl, rfl, rfl, (.eq rfl), rfl⟩
 ·replace h := cnd_f hb2 h
  refine vSkip ?_
  change VC _ _ _ _
  refine vSeq ?_
  refine vRegion ?_
  iterate 3 refine oVal tt rfl rfl rfl rfl rfl trivial ?_
  obtain ⟨hg3, h⟩ := grd_inv h
  refine oMakeD 10 4 (.boolss (List.replicate ((p_0.g.n).toNat) ([] : (List Bool)))) tt rfl rfl rfl rfl rfl rfl rfl rfl rfl rfl rfl rfl (fun _ h => by cases h) rfl (m := (List.replicate ((p_0.g.n).toNat) ([] : (List Bool))).length) rfl rfl (zeroB _) hg3 ?_
  refine oVal tt rfl rfl rfl rfl rfl trivial ?_
  refine vNil ?_
  change VC _ _ _ _
  iterate 2 refine vSeq ?_
  refine vRegion ?_
  iterate 3 refine oVal tt rfl rfl rfl rfl rfl trivial ?_
  refine vNil ?_
  change VC _ _ _ _
  refine vJoin (F := fun k => I_dependence_l5 N p_0 k) h (α := List (List Bool)) (J := fun (l7 : List (List Bool)) => (⟨[(1, .ptr 1 0), (4, .row 1160 0 v1.1.length), (6, .row 24 0 ((List.replicate ((p_0.g.n).toNat) ([] : (List Bool))).length))], [(1160, some (3, .ints v1.1)), (24, some (82, dR 10 (.boolss l7))), (8589934602, some (4, dF (.boolss l7)))], [(1, some [.int p_0.g.n, .ro false (.pairs p_0.g.bars), .ro false (.ints p_0.ground)])]⟩ : PS)) ?_ ?_
  ·rintro l7 h
   show VC _ _ _ (⟨[(1, .ptr 1 0), (4, .row 1160 0 v1.1.length), (6, .row 24 0 ((List.replicate ((p_0.g.n).toNat) ([] : (List Bool))).length))], [(1160, some (3, .ints v1.1)), (24, some (82, dR 10 (.boolss l7))), (8589934602, some (4, dF (.boolss l7)))], [(1, some [.int p_0.g.n, .ro false (.pairs p_0.g.bars), .ro false (.ints p_0.ground)])]⟩ : PS)
   iterate 2 refine vSeq ?_
   refine vRegion ?_
   iterate 3 refine oVal tt rfl rfl rfl rfl rfl trivial ?_
   refine vNil ?_
   change VC _ _ _ _
   refine vJoin (F := fun k => I_dependence_l4 N p_0 v1 k) h (α := List (List Bool)) (J := fun (l16 : List (List Bool)) => (⟨[(6, .row 24 0 ((List.replicate ((p_0.g.n).toNat) ([] : (List Bool))).length))], [(24, some (82, dR 10 (.boolss l16))), (8589934602, some (4, dF (.boolss l16)))], []⟩ : PS)) ?_ ?_
   ·rintro l16 h
    show VC _ _ _ (⟨[(6, .row 24 0 ((List.replicate ((p_0.g.n).toNat) ([] : (List Bool))).length))], [(24, some (82, dR 10 (.boolss l16))), (8589934602, some (4, dF (.boolss l16)))], []⟩ : PS)
    iterate 2 refine vSeq ?_
    refine vRegion ?_
    iterate 3 refine oVal tt rfl rfl rfl rfl rfl trivial ?_
    refine vNil ?_
    change VC _ _ _ _
    refine vJoin (F := fun k => I_dependence_l1 N p_0 k) h (α := List (List Bool)) (J := fun (l145 : List (List Bool)) => (⟨[(6, .row 24 0 ((List.replicate ((p_0.g.n).toNat) ([] : (List Bool))).length))], [(24, some (82, dR 10 (.boolss l145))), (8589934602, some (4, dF (.boolss l145)))], []⟩ : PS)) ?_ ?_
    ·rintro l145 h
     show VC _ _ _ (⟨[(6, .row 24 0 ((List.replicate ((p_0.g.n).toNat) ([] : (List Bool))).length))], [(24, some (82, dR 10 (.boolss l145))), (8589934602, some (4, dF (.boolss l145)))], []⟩ : PS)
     refine vSeq ?_
     refine vRegion ?_
     iterate 3 refine oVal tt rfl rfl rfl rfl rfl trivial ?_
     refine vNil ?_
     change VC _ _ _ _
     obtain ⟨hg4, h⟩ := grd_inv h
     refine vRet ?_
     change ∃ _, _
     cases h
     exact ⟨24, 10, _, rfl, rfl, rfl, rfl, rfl, (.eq (by simp only [hg4]; rfl)), rfl⟩
    ·intro k h
     refine vBlock ?_
     refine vLoopS (α := (List (List Bool)) × Int) (fun | (l189, x190) => (⟨[(6, .row 24 0 ((List.replicate ((p_0.g.n).toNat) ([] : (List Bool))).length)), (73, .int ((List.replicate ((p_0.g.n).toNat) ([] : (List Bool))).length : Int)), (74, .int x190)], [(24, some (82, dR 10 (.boolss l189))), (8589934602, some (4, dF (.boolss l189)))], []⟩ : PS)) (I_dependence_l1 N p_0 k) h (En.of ⟨rfl, rfl, rfl, trivial⟩ ⟨rfl, rfl, trivial⟩ trivial) (fun _ => rfl) ?_
     rintro n ⟨l189, x190⟩ h
     rw [I_dependence_l1] at h
     show VC _ _ _ (⟨[(6, .row 24 0 ((List.replicate ((p_0.g.n).toNat) ([] : (List Bool))).length)), (73, .int ((List.replicate ((p_0.g.n).toNat) ([] : (List Bool))).length : Int)), (74, .int x190)], [(24, some (82, dR 10 (.boolss l189))), (8589934602, some (4, dF (.boolss l189)))], []⟩ : PS)
     refine vSeq ?_
     refine vRegion ?_
     refine oVal tt rfl rfl rfl rfl rfl trivial ?_
     refine vNil ?_
     change VC _ _ _ _
     refine vSeq ?_
     refine vCond rfl (fun hb5 => ?_) (fun hb5 => ?_)
     ·replace h := cnd_t hb5 h
      refine vSkip ?_
      change VC _ _ _ _
      refine vSeq ?_
      refine vBlock ?_
      refine vSeq ?_
      refine vRegion ?_
      iterate 2 refine oVal tt rfl rfl rfl rfl rfl trivial ?_
      refine vNil ?_
      change VC _ _ _ _
      refine vSeq ?_
      refine vRegion ?_
      iterate 3 refine oVal tt rfl rfl rfl rfl rfl trivial ?_
      refine vNil ?_
      change VC _ _ _ _
      refine vJoin (F := fun k => I_dependence_l2 N p_0 x190 k) h (α := List (List Bool)) (J := fun (l253 : List (List Bool)) => (⟨[(6, .row 24 0 ((List.replicate ((p_0.g.n).toNat) ([] : (List Bool))).length)), (73, .int ((List.replicate ((p_0.g.n).toNat) ([] : (List Bool))).length : Int)), (74, .int x190)], [(24, some (82, dR 10 (.boolss l253))), (8589934602, some (4, dF (.boolss l253)))], []⟩ : PS)) ?_ ?_
      ·rintro l253 h
       show VC _ _ _ (⟨[(6, .row 24 0 ((List.replicate ((p_0.g.n).toNat) ([] : (List Bool))).length)), (73, .int ((List.replicate ((p_0.g.n).toNat) ([] : (List Bool))).length : Int)), (74, .int x190)], [(24, some (82, dR 10 (.boolss l253))), (8589934602, some (4, dF (.boolss l253)))], []⟩ : PS)
       refine vRegion ?_
       obtain ⟨hg6, h⟩ := grd_inv h
       refine oVal tt rfl rfl rfl rfl rfl hg6 ?_
       refine oVal tt rfl rfl rfl rfl rfl trivial ?_
       refine vNil ?_
       change ∃ _, _
       exact ⟨(l253, (x190 + (1 : Int))), (En.of ⟨rfl, rfl, rfl, trivial⟩ ⟨rfl, rfl, trivial⟩ trivial), h⟩
      ·intro k h
       refine vBlock ?_
       refine vLoopS (α := (List (List Bool)) × Int) (fun | (l261, x262) => (⟨[(6, .row 24 0 ((List.replicate ((p_0.g.n).toNat) ([] : (List Bool))).length)), (11, .int x190), (73, .int ((List.replicate ((p_0.g.n).toNat) ([] : (List Bool))).length : Int)), (74, .int x190), (78, .int ((List.replicate ((p_0.g.n).toNat) ([] : (List Bool))).length : Int)), (79, .int x262)], [(24, some (82, dR 10 (.boolss l261))), (8589934602, some (4, dF (.boolss l261)))], []⟩ : PS)) (I_dependence_l2 N p_0 x190 k) h (En.of ⟨rfl, rfl, rfl, rfl, rfl, rfl, trivial⟩ ⟨rfl, rfl, trivial⟩ trivial) (fun _ => rfl) ?_
       rintro n ⟨l261, x262⟩ h
       rw [I_dependence_l2] at h
       show VC _ _ _ (⟨[(6, .row 24 0 ((List.replicate ((p_0.g.n).toNat) ([] : (List Bool))).length)), (11, .int x190), (73, .int ((List.replicate ((p_0.g.n).toNat) ([] : (List Bool))).length : Int)), (74, .int x190), (78, .int ((List.replicate ((p_0.g.n).toNat) ([] : (List Bool))).length : Int)), (79, .int x262)], [(24, some (82, dR 10 (.boolss l261))), (8589934602, some (4, dF (.boolss l261)))], []⟩ : PS)
       refine vSeq ?_
       refine vRegion ?_
       refine oVal tt rfl rfl rfl rfl rfl trivial ?_
       refine vNil ?_
       change VC _ _ _ _
       refine vSeq ?_
       refine vCond rfl (fun hb7 => ?_) (fun hb7 => ?_)
       ·replace h := cnd_t hb7 h
        refine vSkip ?_
        change VC _ _ _ _
        refine vSeq ?_
        refine vBlock ?_
        refine vSeq ?_
        refine vRegion ?_
        iterate 2 refine oVal tt rfl rfl rfl rfl rfl trivial ?_
        refine vNil ?_
        change VC _ _ _ _
        refine vSeq ?_
        refine vRegion ?_
        iterate 3 refine oVal tt rfl rfl rfl rfl rfl trivial ?_
        refine vNil ?_
        change VC _ _ _ _
        refine vJoin (F := fun k => I_dependence_l3 N p_0 x190 x262 k) h (α := List (List Bool)) (J := fun (l271 : List (List Bool)) => (⟨[(6, .row 24 0 ((List.replicate ((p_0.g.n).toNat) ([] : (List Bool))).length)), (11, .int x190), (73, .int ((List.replicate ((p_0.g.n).toNat) ([] : (List Bool))).length : Int)), (74, .int x190), (78, .int ((List.replicate ((p_0.g.n).toNat) ([] : (List Bool))).length : Int)), (79, .int x262)], [(24, some (82, dR 10 (.boolss l271))), (8589934602, some (4, dF (.boolss l271)))], []⟩ : PS)) ?_ ?_
        ·rintro l271 h
         show VC _ _ _ (⟨[(6, .row 24 0 ((List.replicate ((p_0.g.n).toNat) ([] : (List Bool))).length)), (11, .int x190), (73, .int ((List.replicate ((p_0.g.n).toNat) ([] : (List Bool))).length : Int)), (74, .int x190), (78, .int ((List.replicate ((p_0.g.n).toNat) ([] : (List Bool))).length : Int)), (79, .int x262)], [(24, some (82, dR 10 (.boolss l271))), (8589934602, some (4, dF (.boolss l271)))], []⟩ : PS)
         refine vRegion ?_
         obtain ⟨hg8, h⟩ := grd_inv h
         refine oVal tt rfl rfl rfl rfl rfl hg8 ?_
         refine oVal tt rfl rfl rfl rfl rfl trivial ?_
         refine vNil ?_
         change ∃ _, _
         exact ⟨(l271, (x262 + (1 : Int))), (En.of ⟨rfl, rfl, rfl, rfl, rfl, rfl, trivial⟩ ⟨rfl, rfl, trivial⟩ trivial), h⟩
        ·intro k h
         refine vBlock ?_
         refine vLoopS (α := (List (List Bool)) × Int) (fun | (l273, x274) => (⟨[(6, .row 24 0 ((List.replicate ((p_0.g.n).toNat) ([] : (List Bool))).length)), (11, .int x190), (12, .int x262), (73, .int ((List.replicate ((p_0.g.n).toNat) ([] : (List Bool))).length : Int)), (74, .int x190), (78, .int ((List.replicate ((p_0.g.n).toNat) ([] : (List Bool))).length : Int)), (79, .int x262), (83, .int ((List.replicate ((p_0.g.n).toNat) ([] : (List Bool))).length : Int)), (84, .int x274)], [(24, some (82, dR 10 (.boolss l273))), (8589934602, some (4, dF (.boolss l273)))], []⟩ : PS)) (I_dependence_l3 N p_0 x190 x262 k) h (En.of ⟨rfl, rfl, rfl, rfl, rfl, rfl, rfl, rfl, rfl, trivial⟩ ⟨rfl, rfl, trivial⟩ trivial) (fun _ => rfl) ?_
         rintro n ⟨l273, x274⟩ h
         rw [I_dependence_l3] at h
         show VC _ _ _ (⟨[(6, .row 24 0 ((List.replicate ((p_0.g.n).toNat) ([] : (List Bool))).length)), (11, .int x190), (12, .int x262), (73, .int ((List.replicate ((p_0.g.n).toNat) ([] : (List Bool))).length : Int)), (74, .int x190), (78, .int ((List.replicate ((p_0.g.n).toNat) ([] : (List Bool))).length : Int)), (79, .int x262), (83, .int ((List.replicate ((p_0.g.n).toNat) ([] : (List Bool))).length : Int)), (84, .int x274)], [(24, some (82, dR 10 (.boolss l273))), (8589934602, some (4, dF (.boolss l273)))], []⟩ : PS)
         refine vSeq ?_
         refine vRegion ?_
         refine oVal tt rfl rfl rfl rfl rfl trivial ?_
         refine vNil ?_
         change VC _ _ _ _
         refine vSeq ?_
         refine vCond rfl (fun hb9 => ?_) (fun hb9 => ?_)
         ·replace h := cnd_t hb9 h
          refine vSkip ?_
          change VC _ _ _ _
          refine vSeq ?_
          refine vBlock ?_
          refine vSeq ?_
          refine vRegion ?_
          iterate 2 refine oVal tt rfl rfl rfl rfl rfl trivial ?_
          refine vNil ?_
          change VC _ _ _ _
          refine vRegionN 30 [] [0, 0, 3, 7, 0, 0, 0, 96, 224, 0, 992, 2016, 4064, 8160, 8160, 32736, 65504, 8160, 262112, 524256, 1048544, 2097120, 2097120, 8388576, 16777184, 2097120, 67108832, 134217696, 268435424, 536870880, 1073741823, 2147483647] (by kernel_rfl) (by kernel_rfl) (by kernel_rfl) (by kernel_rfl) (by kernel_rfl) rfl (by rfl) ?_
          iterate 2 refine nVal tt rfl (wNone rfl) rfl rfl rfl rfl rfl trivial ?_
          obtain ⟨hg10, h⟩ := grd_inv h
          refine nVal tt rfl (wNone rfl) rfl rfl rfl rfl rfl hg10 ?_
          obtain ⟨hg11, h⟩ := grd_inv h
          refine nLoadD tt (wNone rfl) (.boolss l273) rfl rfl rfl rfl rfl rfl rfl rfl rfl rfl rfl hg11 ?_
          iterate 3 refine nVal tt rfl (wNone rfl) rfl rfl rfl rfl rfl trivial ?_
          refine nVal tt rfl (wNone rfl) rfl rfl rfl rfl rfl hg10 ?_
          refine nLoadD tt (wNone rfl) (.boolss l273) rfl rfl rfl rfl rfl rfl rfl rfl rfl rfl rfl hg11 ?_
          refine nVal tt rfl (wNone rfl) rfl rfl rfl rfl rfl trivial ?_
          obtain ⟨hg12, h⟩ := grd_inv h
          refine nPureF (wNone rfl) (pIdxI tt (q := (.boolss l273)) rfl rfl rfl rfl rfl rfl (by simp only [Sq.len, List.length_set, List.length_append, List.length_replicate] at *; omega) rfl hg12) rfl rfl rfl ?_
          refine nPureF (wNone rfl) (pLoadI tt (q := (.boolss l273)) rfl rfl rfl rfl rfl (by simp only [Sq.len, List.length_set, List.length_append, List.length_replicate] at *; omega) hg12 rfl) rfl rfl rfl ?_
          refine nVal tt rfl (wNone rfl) rfl rfl rfl rfl rfl trivial ?_
          refine nSplit rfl rfl rfl (fun hb13 => ?_) (fun hb13 => ?_)
          ·replace h := cnd_t hb13 h
           iterate 8 refine nNoF rfl rfl rfl rfl hb13 rfl rfl ?_
           iterate 7 refine nNoU rfl rfl rfl rfl rfl ?_
           refine nNoF rfl rfl rfl rfl hb13 rfl rfl ?_
           refine nPickT rfl (wNone rfl) rfl rfl rfl hb13 rfl rfl ?_
           refine nNil ?_
           change VO _ _ _ _ _
           refine oPureF (wNone rfl) (pIdxI tt (q := (.boolss l273)) rfl rfl rfl rfl rfl rfl (by simp only [Sq.len, List.length_set, List.length_append, List.length_replicate] at *; omega) rfl hg12) rfl rfl ?_
           refine oStoreI 24 (.boolss (l273.set ((x262).toNat) ((l273.getD ((x262).toNat) []).set ((x274).toNat) true))) tt (q := (.boolss l273)) rfl rfl rfl rfl rfl rfl rfl rfl rfl rfl (by simp only [Sq.len, List.length_set, List.length_append, List.length_replicate] at *; omega) hg12 rfl (inBo _ _ _ _ (by first | omega | (simp only [List.length_set, List.length_append, List.length_replicate] at *; omega)) (by simp)) ?_
           refine vNil ?_
           change VC _ _ _ _
           refine vRegion ?_
           obtain ⟨hg14, h⟩ := grd_inv h
           refine oVal tt rfl rfl rfl rfl rfl hg14 ?_
           refine oVal tt rfl rfl rfl rfl rfl trivial ?_
           refine vNil ?_
           change ∃ _, _
           exact ⟨((l273.set ((x262).toNat) ((l273.getD ((x262).toNat) []).set ((x274).toNat) true)), (x274 + (1 : Int))), (En.of ⟨rfl, rfl, rfl, rfl, rfl, rfl, rfl, rfl, rfl, trivial⟩ ⟨rfl, rfl, trivial⟩ trivial), h⟩
          ·replace h := cnd_f hb13 h
           iterate 2 refine nVal tt rfl (wSome rfl rfl rfl rfl hb13) rfl rfl rfl rfl rfl trivial ?_
           refine nVal tt rfl (wSome rfl rfl rfl rfl hb13) rfl rfl rfl rfl rfl hg10 ?_
           refine nLoadD tt (wSome rfl rfl rfl rfl hb13) (.boolss l273) rfl rfl rfl rfl rfl rfl rfl rfl rfl rfl rfl hg11 ?_
           refine nVal tt rfl (wSome rfl rfl rfl rfl hb13) rfl rfl rfl rfl rfl trivial ?_
           obtain ⟨hg15, h⟩ := grd_inv h
           refine nPureF (wSome rfl rfl rfl rfl hb13) (pIdxI tt (q := (.boolss l273)) rfl rfl rfl rfl rfl rfl (by simp only [Sq.len, List.length_set, List.length_append, List.length_replicate] at *; omega) rfl hg15) rfl rfl rfl ?_
           refine nPureF (wSome rfl rfl rfl rfl hb13) (pLoadI tt (q := (.boolss l273)) rfl rfl rfl rfl rfl (by simp only [Sq.len, List.length_set, List.length_append, List.length_replicate] at *; omega) hg15 rfl) rfl rfl rfl ?_
           refine nVal tt rfl (wSome rfl rfl rfl rfl hb13) rfl rfl rfl rfl rfl trivial ?_
           refine nSplit rfl rfl rfl (fun hb16 => ?_) (fun hb16 => ?_)
           ·replace h := cnd_t hb16 h
            iterate 2 refine nVal tt rfl (wSome rfl rfl rfl rfl hb16) rfl rfl rfl rfl rfl trivial ?_
            obtain ⟨hg17, h⟩ := grd_inv h
            refine nVal tt rfl (wSome rfl rfl rfl rfl hb16) rfl rfl rfl rfl rfl hg17 ?_
            obtain ⟨hg18, h⟩ := grd_inv h
            refine nLoadD tt (wSome rfl rfl rfl rfl hb16) (.boolss l273) rfl rfl rfl rfl rfl rfl rfl rfl rfl rfl rfl hg18 ?_
            refine nVal tt rfl (wSome rfl rfl rfl rfl hb16) rfl rfl rfl rfl rfl trivial ?_
            obtain ⟨hg19, h⟩ := grd_inv h
            refine nPureF (wSome rfl rfl rfl rfl hb16) (pIdxI tt (q := (.boolss l273)) rfl rfl rfl rfl rfl rfl (by simp only [Sq.len, List.length_set, List.length_append, List.length_replicate] at *; omega) rfl hg19) rfl rfl rfl ?_
            refine nPureF (wSome rfl rfl rfl rfl hb16) (pLoadI tt (q := (.boolss l273)) rfl rfl rfl rfl rfl (by simp only [Sq.len, List.length_set, List.length_append, List.length_replicate] at *; omega) hg19 rfl) rfl rfl rfl ?_
            refine nPickT rfl (wSome rfl rfl rfl rfl hb13) rfl rfl rfl hb16 rfl rfl ?_
            refine nPickF rfl (wNone rfl) rfl rfl rfl hb13 rfl rfl ?_
            refine nNil ?_
            change VO _ _ _ _ _
            refine oPureF (wNone rfl) (pIdxI tt (q := (.boolss l273)) rfl rfl rfl rfl rfl rfl (by simp only [Sq.len, List.length_set, List.length_append, List.length_replicate] at *; omega) rfl hg12) rfl rfl ?_
            refine oStoreI 24 (.boolss (l273.set ((x262).toNat) ((l273.getD ((x262).toNat) []).set ((x274).toNat) ((l273.getD ((x190).toNat) []).getD ((x274).toNat) false)))) tt (q := (.boolss l273)) rfl rfl rfl rfl rfl rfl rfl rfl rfl rfl (by simp only [Sq.len, List.length_set, List.length_append, List.length_replicate] at *; omega) hg12 rfl (inBo _ _ _ _ (by first | omega | (simp only [List.length_set, List.length_append, List.length_replicate] at *; omega)) (by simp)) ?_
            refine vNil ?_
            change VC _ _ _ _
            refine vRegion ?_
            obtain ⟨hg20, h⟩ := grd_inv h
            refine oVal tt rfl rfl rfl rfl rfl hg20 ?_
            refine oVal tt rfl rfl rfl rfl rfl trivial ?_
            refine vNil ?_
            change ∃ _, _
            exact ⟨((l273.set ((x262).toNat) ((l273.getD ((x262).toNat) []).set ((x274).toNat) ((l273.getD ((x190).toNat) []).getD ((x274).toNat) false))), (x274 + (1 : Int))), (En.of ⟨rfl, rfl, rfl, rfl, rfl, rfl, rfl, rfl, rfl, trivial⟩ ⟨rfl, rfl, trivial⟩ trivial), h⟩
           ·replace h := cnd_f hb16 h
            iterate 7 refine nNoT rfl rfl rfl rfl hb16 rfl rfl ?_
            refine nPickF rfl (wSome rfl rfl rfl rfl hb13) rfl rfl rfl hb16 rfl rfl ?_
            refine nPickF rfl (wNone rfl) rfl rfl rfl hb13 rfl rfl ?_
            refine nNil ?_
            change VO _ _ _ _ _
            refine oPureF (wNone rfl) (pIdxI tt (q := (.boolss l273)) rfl rfl rfl rfl rfl rfl (by simp only [Sq.len, List.length_set, List.length_append, List.length_replicate] at *; omega) rfl hg12) rfl rfl ?_
            refine oStoreI 24 (.boolss (l273.set ((x262).toNat) ((l273.getD ((x262).toNat) []).set ((x274).toNat) false))) tt (q := (.boolss l273)) rfl rfl rfl rfl rfl rfl rfl rfl rfl rfl (by simp only [Sq.len, List.length_set, List.length_append, List.length_replicate] at *; omega) hg12 rfl (inBo _ _ _ _ (by first | omega | (simp only [List.length_set, List.length_append, List.length_replicate] at *; omega)) (by simp)) ?_
            refine vNil ?_
            change VC _ _ _ _
            refine vRegion ?_
            obtain ⟨hg21, h⟩ := grd_inv h
            refine oVal tt rfl rfl rfl rfl rfl hg21 ?_
            refine oVal tt rfl rfl rfl rfl rfl trivial ?_
            refine vNil ?_
            change ∃ _, _
            exact ⟨((l273.set ((x262).toNat) ((l273.getD ((x262).toNat) []).set ((x274).toNat) false)), (x274 + (1 : Int))), (En.of ⟨rfl, rfl, rfl, rfl, rfl, rfl, rfl, rfl, rfl, trivial⟩ ⟨rfl, rfl, trivial⟩ trivial), h⟩
         ·replace h := cnd_f hb9 h
          refine vExit ?_
          change ∃ _, _
          exact ⟨l273, (En.of ⟨rfl, rfl, rfl, rfl, rfl, rfl, trivial⟩ ⟨rfl, rfl, trivial⟩ trivial), h⟩
       ·replace h := cnd_f hb7 h
        refine vExit ?_
        change ∃ _, _
        exact ⟨l261, (En.of ⟨rfl, rfl, rfl, trivial⟩ ⟨rfl, rfl, trivial⟩ trivial), h⟩
     ·replace h := cnd_f hb5 h
      refine vExit ?_
      change ∃ _, _
      exact ⟨l189, (En.of ⟨rfl, trivial⟩ ⟨rfl, rfl, trivial⟩ trivial), h⟩
   ·intro k h
    refine vBlock ?_
    refine vLoopS (α := (List (List Bool)) × Int) (fun | (l278, x279) => (⟨[(1, .ptr 1 0), (6, .row 24 0 ((List.replicate ((p_0.g.n).toNat) ([] : (List Bool))).length)), (47, .row 1160 0 v1.1.length), (48, .int (v1.1.length : Int)), (49, .int x279)], [(24, some (82, dR 10 (.boolss l278))), (8589934602, some (4, dF (.boolss l278))), (1160, some (3, .ints v1.1))], [(1, some [.int p_0.g.n, .ro false (.pairs p_0.g.bars), .ro false (.ints p_0.ground)])]⟩ : PS)) (I_dependence_l4 N p_0 v1 k) h (En.of ⟨rfl, rfl, rfl, rfl, rfl, trivial⟩ ⟨rfl, rfl, rfl, trivial⟩ ⟨rfl, trivial⟩) (fun _ => rfl) ?_
    rintro n ⟨l278, x279⟩ h
    rw [I_dependence_l4] at h
    show VC _ _ _ (⟨[(1, .ptr 1 0), (6, .row 24 0 ((List.replicate ((p_0.g.n).toNat) ([] : (List Bool))).length)), (47, .row 1160 0 v1.1.length), (48, .int (v1.1.length : Int)), (49, .int x279)], [(24, some (82, dR 10 (.boolss l278))), (8589934602, some (4, dF (.boolss l278))), (1160, some (3, .ints v1.1))], [(1, some [.int p_0.g.n, .ro false (.pairs p_0.g.bars), .ro false (.ints p_0.ground)])]⟩ : PS)
    refine vSeq ?_
    refine vRegion ?_
    refine oVal tt rfl rfl rfl rfl rfl trivial ?_
    refine vNil ?_
    change VC _ _ _ _
    refine vSeq ?_
    refine vCond rfl (fun hb22 => ?_) (fun hb22 => ?_)
    ·replace h := cnd_t hb22 h
     refine vSkip ?_
     change VC _ _ _ _
     refine vSeq ?_
     refine vBlock ?_
     refine vSeq ?_
     refine vRegion ?_
     refine oVal tt rfl rfl rfl rfl rfl trivial ?_
     obtain ⟨hg23, h⟩ := grd_inv h
     iterate 2 refine oVal tt rfl rfl rfl rfl rfl hg23 ?_
     iterate 2 refine oVal tt rfl rfl rfl rfl rfl trivial ?_
     refine vNil ?_
     change VC _ _ _ _
     refine vSeq ?_
     refine vRegion ?_
     iterate 4 refine oVal tt rfl rfl rfl rfl rfl trivial ?_
     obtain ⟨hg24, h⟩ := grd_inv h
     refine oVal tt rfl rfl rfl rfl rfl hg24 ?_
     iterate 2 refine oVal tt rfl rfl rfl rfl rfl trivial ?_
     obtain ⟨v282, hc25, h⟩ := bind_inv h
     refine oCall (M_Bar_other_w N (p_0.g.bars.getD ((x279).toNat) (0, 0)) (v1.1.getD ((x279).toNat) 0) v282 hc25) rfl rfl rfl rfl rfl rfl rfl rfl ⟨⟨rfl, rfl, trivial⟩, rfl, trivial⟩ ?_
     refine oVal tt rfl rfl rfl rfl rfl trivial ?_
     refine vNil ?_
     change VC _ _ _ _
     refine vSeq ?_
     refine vRegion ?_
     iterate 2 refine oVal tt rfl rfl rfl rfl rfl trivial ?_
     obtain ⟨v283, hc26, h⟩ := bind_inv h
     refine oCall (M_Pinned_isInner_w N p_0 v282 v283 hc26) rfl rfl rfl rfl rfl rfl rfl rfl ⟨⟨rfl, rfl, rfl, trivial⟩, rfl, trivial⟩ ?_
     refine vNil ?_
     change VC _ _ _ _
     refine vCond rfl (fun hb27 => ?_) (fun hb27 => ?_)
     ·replace h := cnd_t hb27 h
      refine vRegion ?_
      iterate 2 refine oVal tt rfl rfl rfl rfl rfl trivial ?_
      obtain ⟨hg28, h⟩ := grd_inv h
      refine oVal tt rfl rfl rfl rfl rfl hg28 ?_
      obtain ⟨hg29, h⟩ := grd_inv h
      refine oLoadD tt (wNone rfl) (.boolss l278) rfl rfl rfl rfl rfl rfl rfl rfl rfl hg29 ?_
      refine oVal tt rfl rfl rfl rfl rfl trivial ?_
      obtain ⟨hg30, h⟩ := grd_inv h
      refine oPureF (wNone rfl) (pIdxI tt (q := (.boolss l278)) rfl rfl rfl rfl rfl rfl (by simp only [Sq.len, List.length_set, List.length_append, List.length_replicate] at *; omega) rfl hg30) rfl rfl ?_
      refine oStoreI 24 (.boolss (l278.set (((v1.1.getD ((x279).toNat) 0)).toNat) ((l278.getD (((v1.1.getD ((x279).toNat) 0)).toNat) []).set ((v282).toNat) true))) tt (q := (.boolss l278)) rfl rfl rfl rfl rfl rfl rfl rfl rfl rfl (by simp only [Sq.len, List.length_set, List.length_append, List.length_replicate] at *; omega) hg30 rfl (inBo _ _ _ _ (by first | omega | (simp only [List.length_set, List.length_append, List.length_replicate] at *; omega)) (by simp)) ?_
      refine vNil ?_
      change VC _ _ _ _
      refine vRegion ?_
      obtain ⟨hg31, h⟩ := grd_inv h
      refine oVal tt rfl rfl rfl rfl rfl hg31 ?_
      refine oVal tt rfl rfl rfl rfl rfl trivial ?_
      refine vNil ?_
      change ∃ _, _
      exact ⟨((l278.set (((v1.1.getD ((x279).toNat) 0)).toNat) ((l278.getD (((v1.1.getD ((x279).toNat) 0)).toNat) []).set ((v282).toNat) true)), (x279 + (1 : Int))), (En.of ⟨rfl, rfl, rfl, rfl, rfl, trivial⟩ ⟨rfl, rfl, rfl, trivial⟩ ⟨rfl, trivial⟩), h⟩
     ·replace h := cnd_f hb27 h
      refine vSkip ?_
      change VC _ _ _ _
      refine vRegion ?_
      obtain ⟨hg32, h⟩ := grd_inv h
      refine oVal tt rfl rfl rfl rfl rfl hg32 ?_
      refine oVal tt rfl rfl rfl rfl rfl trivial ?_
      refine vNil ?_
      change ∃ _, _
      exact ⟨(l278, (x279 + (1 : Int))), (En.of ⟨rfl, rfl, rfl, rfl, rfl, trivial⟩ ⟨rfl, rfl, rfl, trivial⟩ ⟨rfl, trivial⟩), h⟩
    ·replace h := cnd_f hb22 h
     refine vExit ?_
     change ∃ _, _
     exact ⟨l278, (En.of ⟨rfl, trivial⟩ ⟨rfl, rfl, trivial⟩ trivial), h⟩
  ·intro k h
   refine vBlock ?_
   refine vLoopS (α := (List (List Bool)) × Int) (fun | (l286, x287) => (⟨[(1, .ptr 1 0), (4, .row 1160 0 v1.1.length), (6, .row 24 0 ((List.replicate ((p_0.g.n).toNat) ([] : (List Bool))).length)), (26, .int ((List.replicate ((p_0.g.n).toNat) ([] : (List Bool))).length : Int)), (27, .int x287)], [(1160, some (3, .ints v1.1)), (24, some (82, dR 10 (.boolss l286))), (8589934602, some (4, dF (.boolss l286)))], [(1, some [.int p_0.g.n, .ro false (.pairs p_0.g.bars), .ro false (.ints p_0.ground)])]⟩ : PS)) (I_dependence_l5 N p_0 k) h (En.of ⟨rfl, rfl, rfl, rfl, rfl, trivial⟩ ⟨rfl, rfl, rfl, trivial⟩ ⟨rfl, trivial⟩) (fun _ => rfl) ?_
   rintro n ⟨l286, x287⟩ h
   rw [I_dependence_l5] at h
   show VC _ _ _ (⟨[(1, .ptr 1 0), (4, .row 1160 0 v1.1.length), (6, .row 24 0 ((List.replicate ((p_0.g.n).toNat) ([] : (List Bool))).length)), (26, .int ((List.replicate ((p_0.g.n).toNat) ([] : (List Bool))).length : Int)), (27, .int x287)], [(1160, some (3, .ints v1.1)), (24, some (82, dR 10 (.boolss l286))), (8589934602, some (4, dF (.boolss l286)))], [(1, some [.int p_0.g.n, .ro false (.pairs p_0.g.bars), .ro false (.ints p_0.ground)])]⟩ : PS)
   refine vSeq ?_
   refine vRegion ?_
   refine oVal tt rfl rfl rfl rfl rfl trivial ?_
   refine vNil ?_
   change VC _ _ _ _
   refine vSeq ?_
   refine vCond rfl (fun hb33 => ?_) (fun hb33 => ?_)
   ·replace h := cnd_t hb33 h
    refine vSkip ?_
    change VC _ _ _ _
    refine vSeq ?_
    refine vBlock ?_
    refine vSeq ?_
    refine vRegion ?_
    iterate 2 refine oVal tt rfl rfl rfl rfl rfl trivial ?_
    refine vNil ?_
    change VC _ _ _ _
    refine vSeq ?_
    refine vRegion ?_
    iterate 5 refine oVal tt rfl rfl rfl rfl rfl trivial ?_
    refine oMake tt rfl rfl rfl rfl rfl rfl rfl rfl rfl rfl rfl hg3 ?_
    obtain ⟨hg34, h⟩ := grd_inv h
    refine oVal tt rfl rfl rfl rfl rfl hg34 ?_
    obtain ⟨hg35, h⟩ := grd_inv h
    refine vEnO (En.adopt 35 35 24 10 (q := (.boolss l286)) rfl rfl rfl rfl rfl rfl (by simp [Sq.len, Fq.len, famOf, Fq.hole]) rfl rfl rfl rfl) ?_
    refine oStore tt rfl rfl rfl rfl rfl rfl rfl rfl rfl rfl ⟨_, _, rfl, hg35.1, (by simpa [Sq.len, dR, idn_len, idr_len] using hg35.2)⟩ ⟨(by simpa [Sq.len, dR, idn_len, idr_len] using hg35), trivial⟩ ?_
    refine vEnO (En.re 24 10 rfl rfl (reB _ l286 ((x287).toNat) (List.replicate ((p_0.g.n).toNat) (false : Bool)) (l286.map some) (by first | omega | (simp only [List.length_set, List.length_append, List.length_replicate] at *; omega)) (fun _ _ => rfl) (by simp)) rfl rfl rfl) ?_
    refine vNil ?_
    change VC _ _ _ _
    refine vRegionN 8 [] [0, 0, 3, 7, 0, 0, 0, 96, 255, 511] (by kernel_rfl) (by kernel_rfl) (by kernel_rfl) (by kernel_rfl) (by kernel_rfl) rfl (by rfl) ?_
    iterate 2 refine nVal tt rfl (wNone rfl) rfl rfl rfl rfl rfl trivial ?_
    refine nVal tt rfl (wNone rfl) rfl rfl rfl rfl rfl hg34 ?_
    obtain ⟨hg36, h⟩ := grd_inv h
    refine nLoadD tt (wNone rfl) (.boolss (l286.set ((x287).toNat) (List.replicate ((p_0.g.n).toNat) (false : Bool)))) rfl rfl rfl rfl rfl rfl rfl rfl rfl rfl rfl hg36 ?_
    iterate 3 refine nVal tt rfl (wNone rfl) rfl rfl rfl rfl rfl trivial ?_
    obtain ⟨v289, hc37, h⟩ := bind_inv h
    refine nCall (M_Pinned_isInner_w N p_0 x287 v289 hc37) rfl (wNone rfl) rfl rfl rfl rfl rfl rfl rfl rfl ⟨⟨rfl, rfl, rfl, trivial⟩, rfl, trivial⟩ ?_
    refine nNil ?_
    change VO _ _ _ _ _
    obtain ⟨hg38, h⟩ := grd_inv h
    refine oPureF (wNone rfl) (pIdxI tt (q := (.boolss (l286.set ((x287).toNat) (List.replicate ((p_0.g.n).toNat) (false : Bool))))) rfl rfl rfl rfl rfl rfl (by simp only [Sq.len, List.length_set, List.length_append, List.length_replicate] at *; omega) rfl hg38) rfl rfl ?_
    refine oStoreI 24 (.boolss ((l286.set ((x287).toNat) (List.replicate ((p_0.g.n).toNat) (false : Bool))).set ((x287).toNat) (((l286.set ((x287).toNat) (List.replicate ((p_0.g.n).toNat) (false : Bool))).getD ((x287).toNat) []).set ((x287).toNat) v289))) tt (q := (.boolss (l286.set ((x287).toNat) (List.replicate ((p_0.g.n).toNat) (false : Bool))))) rfl rfl rfl rfl rfl rfl rfl rfl rfl rfl (by simp only [Sq.len, List.length_set, List.length_append, List.length_replicate] at *; omega) hg38 rfl (inBo _ _ _ _ (by first | omega | (simp only [List.length_set, List.length_append, List.length_replicate] at *; omega)) (by simp)) ?_
    refine vNil ?_
    change VC _ _ _ _
    refine vRegion ?_
    obtain ⟨hg39, h⟩ := grd_inv h
    refine oVal tt rfl rfl rfl rfl rfl hg39 ?_
    refine oVal tt rfl rfl rfl rfl rfl trivial ?_
    refine vNil ?_
    change ∃ _, _
    exact ⟨(((l286.set ((x287).toNat) (List.replicate ((p_0.g.n).toNat) (false : Bool))).set ((x287).toNat) (((l286.set ((x287).toNat) (List.replicate ((p_0.g.n).toNat) (false : Bool))).getD ((x287).toNat) []).set ((x287).toNat) v289)), (x287 + (1 : Int))), (En.of ⟨rfl, rfl, rfl, rfl, rfl, trivial⟩ ⟨rfl, rfl, rfl, trivial⟩ ⟨rfl, trivial⟩), h⟩
   ·replace h := cnd_f hb33 h
    refine vExit ?_
    change ∃ _, _
    exact ⟨l286, (En.of ⟨rfl, rfl, rfl, trivial⟩ ⟨rfl, rfl, rfl, trivial⟩ ⟨rfl, trivial⟩), h⟩
def S_DependsOn (N : Nat) (p_0 : Pin) (v_1 : Int) : Option (List Int) :=
 (S_OwnersOf N p_0).bind fun v1 =>
 cnd (!v1.2) (
  some ([] : List Int)) (
  (S_InnerPoints N p_0).bind fun v2 =>
  (S_l2Has N v2 v_1).bind fun v3 =>
  cnd (!v3) (
   some ([] : List Int)) (
   (S_l21Reach N p_0 v1.1 v_1).bind fun v4 =>
   some v4))
set_option maxRecDepth 20000 in
set_option maxHeartbeats 1600000 in
theorem S_DependsOn_w (N : Nat) (p_0 : Pin) (v_1 : Int) (r : List Int) (h : S_DependsOn N p_0 v_1 = some r) : PCall Try.prog 25 [pD p_0, .int v_1] [(3, .ints r)] (.row 0 0 r.length) := by
 unfold S_DependsOn at h
 refine pcall_intro (TT := TT) tt Try.func25 rfl rfl Try.ntmps25 (congrArg Array.toList Try.results25) rfl rfl fun w0 => ?_
 refine vSeq ?_
 refine vRegion ?_
 refine oBox rfl rfl rfl rfl rfl rfl rfl rfl rfl ?_
 refine oVal tt rfl rfl rfl rfl rfl trivial ?_
 refine vNil ?_
 change VC _ _ _ _
 refine vSeq ?_
 refine vRegion ?_
 refine oVal tt rfl rfl rfl rfl rfl trivial ?_
 obtain ⟨v1, hc1, h⟩ := bind_inv h
 refine oCall (S_OwnersOf_w N p_0 v1 hc1) rfl rfl rfl rfl rfl rfl rfl rfl ⟨⟨rfl, rfl, rfl, trivial⟩, trivial⟩ ?_
 iterate 5 refine oVal tt rfl rfl rfl rfl rfl trivial ?_
 refine vNil ?_
 change VC _ _ _ _
 iterate 2 refine vSeq ?_
 refine vRegion ?_
 iterate 3 refine oVal tt rfl rfl rfl rfl rfl trivial ?_
 refine oSplit rfl rfl rfl (fun hb2 => ?_) (fun hb2 => ?_)
 ·replace h := cnd_t hb2 h
  iterate 5 refine oNoF rfl rfl rfl rfl hb2 rfl rfl ?_
  refine oPick rfl rfl rfl rfl rfl hb2 rfl ?_
  refine vNil ?_
  change VC _ _ _ _
  refine vCondT rfl rfl ?_
  refine vSeq ?_
  refine vRegion ?_
  refine oEmpty tt (wNone rfl) rfl rfl rfl rfl ?_
  refine oVal tt rfl rfl rfl rfl rfl trivial ?_
  refine vNil ?_
  change VC _ _ _ _
  refine vNilT 4 9001 3 (.ints []) rfl rfl rfl rfl ?_
  refine vRet ?_
  change ∃ _, _
  cases h
  exact ⟨[9001], _, rfl, ⟨rfl, trivial⟩, rfl, (.eq rfl), rfl⟩
 ·replace h := cnd_f hb2 h
  refine oValG tt rfl rfl rfl rfl rfl hb2 rfl rfl rfl trivial ?_
  obtain ⟨v2, hc3, h⟩ := bind_inv h
  refine oCallG (S_InnerPoints_w N p_0 v2 hc3) rfl rfl rfl rfl hb2 rfl rfl rfl rfl rfl rfl rfl ⟨⟨rfl, rfl, rfl, trivial⟩, trivial⟩ ?_
  refine oValG tt rfl rfl rfl rfl rfl hb2 rfl rfl rfl trivial ?_
  obtain ⟨v3, hc4, h⟩ := bind_inv h
  refine oCallG (S_l2Has_w N v2 v_1 v3 hc4) rfl rfl rfl rfl hb2 rfl rfl rfl rfl rfl rfl rfl ⟨(.inl ⟨rfl, rfl⟩), rfl, trivial⟩ ?_
  refine oValG tt rfl rfl rfl rfl rfl hb2 rfl rfl rfl trivial ?_
  refine oPickF rfl rfl rfl rfl rfl hb2 rfl ?_
  refine vNil ?_
  change VC _ _ _ _
  refine vCond rfl (fun hb5 => ?_) (fun hb5 => ?_)
  ·replace h := cnd_t hb5 h
   refine vSeq ?_
   refine vRegion ?_
   refine oEmpty tt (wNone rfl) rfl rfl rfl rfl ?_
   refine oVal tt rfl rfl rfl rfl rfl trivial ?_
   refine vNil ?_
   change VC _ _ _ _
   refine vNilT 4 9001 3 (.ints []) rfl rfl rfl rfl ?_
   refine vRet ?_
   change ∃ _, _
   cases h
   exact ⟨[9001], _, rfl, ⟨rfl, trivial⟩, rfl, (.eq rfl), rfl⟩
  ·replace h := cnd_f hb5 h
   refine vSkip ?_
   change VC _ _ _ _
   refine vSeq ?_
   refine vRegion ?_
   iterate 3 refine oVal tt rfl rfl rfl rfl rfl trivial ?_
   obtain ⟨v4, hc6, h⟩ := bind_inv h
   refine oCall (S_l21Reach_w N p_0 v1.1 v_1 v4 hc6) rfl rfl rfl rfl rfl rfl rfl rfl ⟨⟨rfl, rfl, rfl, trivial⟩, (.inl ⟨rfl, rfl⟩), rfl, trivial⟩ ?_
   refine oVal tt rfl rfl rfl rfl rfl trivial ?_
   refine vNil ?_
   change VC _ _ _ _
   refine vRet ?_
   change ∃ _, _
   cases h
   exact ⟨[1250], _, rfl, ⟨rfl, trivial⟩, rfl, (.eq rfl), rfl⟩
end Go.Proofs.Ytmoamglpocjhgaa
namespace Go.Proofs.Ytmoamglpocjhgaa
open Go.RowKit Go.Deep
def I_DependsOn_l1 (N : Nat) (v_1 : Int) (v1 : (List (List Bool)) × Bool) (k : (List Int) → Option (List Int)) : Nat → ((List Int) × Int) → Option (List Int)
 | 0, _ => none
 | n + 1, (l7, x8) =>
  cnd (decide (x8 < ((v1.1.getD ((v_1).toNat) []).length : Int))) (
   grd (0 ≤ x8 ∧ x8 < ((v1.1.getD ((v_1).toNat) []).length : Int)) <|
   cnd ((v1.1.getD ((v_1).toNat) []).getD ((x8).toNat) false) (
    grd (l7.length + 1 ≤ 4294967296) <|
    grd (Rg64 (x8 + (1 : Int))) <|
    I_DependsOn_l1 N v_1 v1 k n ((l7 ++ ([x8] : List Int)), (x8 + (1 : Int)))) (
    grd (Rg64 (x8 + (1 : Int))) <|
    I_DependsOn_l1 N v_1 v1 k n (l7, (x8 + (1 : Int))))) (
   k l7)
def I_DependsOn (N : Nat) (p_0 : Pin) (v_1 : Int) : Option (List Int) :=
 (I_dependence N p_0).bind fun v1 =>
 cnd (!v1.2) (
  some ([] : List Int)) (
  (M_Pinned_isInner N p_0 v_1).bind fun v2 =>
  cnd (!v2) (
   some ([] : List Int)) (
   grd (0 ≤ v_1 ∧ v_1 < (v1.1.length : Int)) <|
   I_DependsOn_l1 N v_1 v1 (fun (l5 : List Int) =>
      some l5) N (([] : List Int), (0 : Int))))
set_option maxRecDepth 20000 in
set_option maxHeartbeats 1600000 in
theorem I_DependsOn_w (N : Nat) (p_0 : Pin) (v_1 : Int) (r : List Int) (h : I_DependsOn N p_0 v_1 = some r) : PCall Try.prog 26 [pD p_0, .int v_1] [(3, .ints r)] (.row 0 0 r.length) := by
 unfold I_DependsOn at h
 refine pcall_intro (TT := TT) tt Try.func26 rfl rfl Try.ntmps26 (congrArg Array.toList Try.results26) rfl rfl fun w0 => ?_
 refine vSeq ?_
 refine vRegion ?_
 refine oBox rfl rfl rfl rfl rfl rfl rfl rfl rfl ?_
 refine oVal tt rfl rfl rfl rfl rfl trivial ?_
 refine vNil ?_
 change VC _ _ _ _
 refine vSeq ?_
 refine vRegion ?_
 refine oEmpty tt (wNone rfl) rfl rfl rfl rfl ?_
 refine oVal tt rfl rfl rfl rfl rfl trivial ?_
 refine vNil ?_
 change VC _ _ _ _
 refine vSeq ?_
 refine vRegion ?_
 refine oVal tt rfl rfl rfl rfl rfl trivial ?_
 obtain ⟨v1, hc1, h⟩ := bind_inv h
 refine oCallD 10 (I_dependence_w N p_0 v1 hc1) rfl rfl rfl rfl rfl rfl rfl rfl rfl rfl rfl (fun _ h => by cases h) ⟨⟨rfl, rfl, rfl, trivial⟩, trivial⟩ ?_
 iterate 5 refine oVal tt rfl rfl rfl rfl rfl trivial ?_
 refine vNil ?_
 change VC _ _ _ _
 iterate 2 refine vSeq ?_
 refine vRegion ?_
 iterate 3 refine oVal tt rfl rfl rfl rfl rfl trivial ?_
 refine oSplit rfl rfl rfl (fun hb2 => ?_) (fun hb2 => ?_)
 ·replace h := cnd_t hb2 h
  iterate 4 refine oNoF rfl rfl rfl rfl hb2 rfl rfl ?_
  refine oPick rfl rfl rfl rfl rfl hb2 rfl ?_
  refine vNil ?_
  change VC _ _ _ _
  refine vCondT rfl rfl ?_
  refine vSeq ?_
  refine vRegion ?_
  iterate 2 refine oVal tt rfl rfl rfl rfl rfl trivial ?_
  refine vNil ?_
  change VC _ _ _ _
  refine vNilT 4 9001 3 (.ints []) rfl rfl rfl rfl ?_
  refine vRet ?_
  change ∃ _, _
  cases h
  exact ⟨[9001], _, rfl, ⟨rfl, trivial⟩, rfl, (.eq rfl), rfl⟩
 ·replace h := cnd_f hb2 h
  iterate 2 refine oValG tt rfl rfl rfl rfl rfl hb2 rfl rfl rfl trivial ?_
  obtain ⟨v2, hc3, h⟩ := bind_inv h
  refine oCallG (M_Pinned_isInner_w N p_0 v_1 v2 hc3) rfl rfl rfl rfl hb2 rfl rfl rfl rfl rfl rfl rfl ⟨⟨rfl, rfl, rfl, trivial⟩, rfl, trivial⟩ ?_
  refine oValG tt rfl rfl rfl rfl rfl hb2 rfl rfl rfl trivial ?_
  refine oPickF rfl rfl rfl rfl rfl hb2 rfl ?_
  refine vNil ?_
  change VC _ _ _ _
  refine vCond rfl (fun hb4 => ?_) (fun hb4 => ?_)
  ·replace h := cnd_t hb4 h
   refine vSeq ?_
   refine vRegion ?_
   iterate 2 refine oVal tt rfl rfl rfl rfl rfl trivial ?_
   refine vNil ?_
   change VC _ _ _ _
   refine vNilT 4 9001 3 (.ints []) rfl rfl rfl rfl ?_
   refine vRet ?_
   change ∃ _, _
   cases h
   exact ⟨[9001], _, rfl, ⟨rfl, trivial⟩, rfl, (.eq rfl), rfl⟩
  ·replace h := cnd_f hb4 h
   refine vSkip ?_
   change VC _ _ _ _
   iterate 2 refine vSeq ?_
   refine vRegion ?_
   iterate 2 refine oVal tt rfl rfl rfl rfl rfl trivial ?_
   obtain ⟨hg5, h⟩ := grd_inv h
   refine oVal tt rfl rfl rfl rfl rfl hg5 ?_
   refine oLoadD tt (wNone rfl) (.boolss v1.1) rfl rfl rfl rfl rfl rfl rfl rfl rfl hg5 ?_
   refine oPureF (wNone rfl) (pLenI tt (q := (.boolss v1.1)) rfl rfl rfl rfl rfl (by simp only [Sq.len, List.length_set, List.length_append, List.length_replicate] at *; omega)) rfl rfl ?_
   refine oVal tt rfl rfl rfl rfl rfl trivial ?_
   refine vNil ?_
   change VC _ _ _ _
   refine vJoin (F := fun k => I_DependsOn_l1 N v_1 v1 k) h (α := List Int) (J := fun (l5 : List Int) => (⟨[(5, .row 39 0 l5.length)], [(39, some (3, .ints l5))], []⟩ : PS)) ?_ ?_
   ·rintro l5 h
    show VC _ _ _ (⟨[(5, .row 39 0 l5.length)], [(39, some (3, .ints l5))], []⟩ : PS)
    refine vSeq ?_
    refine vRegion ?_
    iterate 2 refine oVal tt rfl rfl rfl rfl rfl trivial ?_
    refine vNil ?_
    change VC _ _ _ _
    refine vRet ?_
    change ∃ _, _
    cases h
    exact ⟨[39], _, rfl, ⟨rfl, trivial⟩, rfl, (.eq rfl), rfl⟩
   ·intro k h
    refine vBlock ?_
    refine vNilT 5 39 3 (.ints []) rfl rfl rfl rfl ?_
    refine vLoopS (α := (List Int) × Int) (fun | (l7, x8) => (⟨[(5, .row 39 0 l7.length), (28, .irow 10 ((v_1).toNat) ((v1.1.getD ((v_1).toNat) []).length)), (29, .int ((v1.1.getD ((v_1).toNat) []).length : Int)), (30, .int x8)], [(39, some (3, .ints l7)), (1130, some (82, dR 10 (.boolss v1.1))), (8589934602, some (4, dF (.boolss v1.1)))], []⟩ : PS)) (I_DependsOn_l1 N v_1 v1 k) h (En.of ⟨rfl, rfl, rfl, rfl, trivial⟩ ⟨rfl, rfl, rfl, trivial⟩ trivial) (fun _ => rfl) ?_
    rintro n ⟨l7, x8⟩ h
    rw [I_DependsOn_l1] at h
    show VC _ _ _ (⟨[(5, .row 39 0 l7.length), (28, .irow 10 ((v_1).toNat) ((v1.1.getD ((v_1).toNat) []).length)), (29, .int ((v1.1.getD ((v_1).toNat) []).length : Int)), (30, .int x8)], [(39, some (3, .ints l7)), (1130, some (82, dR 10 (.boolss v1.1))), (8589934602, some (4, dF (.boolss v1.1)))], []⟩ : PS)
    refine vSeq ?_
    refine vRegion ?_
    refine oVal tt rfl rfl rfl rfl rfl trivial ?_
    refine vNil ?_
    change VC _ _ _ _
    refine vSeq ?_
    refine vCond rfl (fun hb6 => ?_) (fun hb6 => ?_)
    ·replace h := cnd_t hb6 h
     refine vSkip ?_
     change VC _ _ _ _
     refine vSeq ?_
     refine vBlock ?_
     refine vSeq ?_
     refine vRegion ?_
     refine oVal tt rfl rfl rfl rfl rfl trivial ?_
     obtain ⟨hg7, h⟩ := grd_inv h
     refine oPureF (wNone rfl) (pIdxI tt (q := (.boolss v1.1)) rfl rfl rfl rfl rfl rfl (by simp only [Sq.len, List.length_set, List.length_append, List.length_replicate] at *; omega) rfl hg7) rfl rfl ?_
     refine oPureF (wNone rfl) (pLoadI tt (q := (.boolss v1.1)) rfl rfl rfl rfl rfl (by simp only [Sq.len, List.length_set, List.length_append, List.length_replicate] at *; omega) hg7 rfl) rfl rfl ?_
     iterate 2 refine oVal tt rfl rfl rfl rfl rfl trivial ?_
     refine vNil ?_
     change VC _ _ _ _
     refine vSeq ?_
     refine vRegion ?_
     refine oVal tt rfl rfl rfl rfl rfl trivial ?_
     refine vNil ?_
     change VC _ _ _ _
     refine vCond rfl (fun hb8 => ?_) (fun hb8 => ?_)
     ·replace h := cnd_t hb8 h
      refine vRegion ?_
      iterate 2 refine oVal tt rfl rfl rfl rfl rfl trivial ?_
      refine oBuild tt rfl rfl rfl rfl rfl rfl rfl rfl rfl rfl rfl ?_
      obtain ⟨hg9, h⟩ := grd_inv h
      refine oAppend tt rfl rfl rfl rfl rfl rfl rfl rfl rfl rfl rfl rfl rfl rfl rfl rfl (Nat.le_of_eq (Nat.zero_add _)) hg9 ?_
      refine oVal tt rfl rfl rfl rfl rfl trivial ?_
      refine vNil ?_
      change VC _ _ _ _
      refine vRegion ?_
      obtain ⟨hg10, h⟩ := grd_inv h
      refine oVal tt rfl rfl rfl rfl rfl hg10 ?_
      refine oVal tt rfl rfl rfl rfl rfl trivial ?_
      refine vNil ?_
      change ∃ _, _
      exact ⟨((l7 ++ ([x8] : List Int)), (x8 + (1 : Int))), (En.of ⟨rfl, rfl, rfl, rfl, trivial⟩ ⟨rfl, rfl, rfl, trivial⟩ trivial), h⟩
     ·replace h := cnd_f hb8 h
      refine vSkip ?_
      change VC _ _ _ _
      refine vRegion ?_
      obtain ⟨hg11, h⟩ := grd_inv h
      refine oVal tt rfl rfl rfl rfl rfl hg11 ?_
      refine oVal tt rfl rfl rfl rfl rfl trivial ?_
      refine vNil ?_
      change ∃ _, _
      exact ⟨(l7, (x8 + (1 : Int))), (En.of ⟨rfl, rfl, rfl, rfl, trivial⟩ ⟨rfl, rfl, rfl, trivial⟩ trivial), h⟩
    ·replace h := cnd_f hb6 h
     refine vExit ?_
     change ∃ _, _
     exact ⟨l7, (En.of ⟨rfl, trivial⟩ ⟨rfl, trivial⟩ trivial), h⟩
end Go.Proofs.Ytmoamglpocjhgaa
namespace Go.Proofs.Ytmoamglpocjhgaa
variable {N : Nat}
def wst (k : Nat) (f : Nat → Nat → Bool) : Nat → Nat → Bool := fun a b => f a b || (f a k && f k b)
def wall : Nat → (Nat → Nat → Bool) → Nat → Nat → Bool
 | 0, f => f
 | k + 1, f => wst k (wall k f)
theorem wall_mono (f : Nat → Nat → Bool) : ∀ K a b, f a b = true → wall K f a b = true
 | 0, _, _, h => h
 | K + 1, a, b, h => by simp [wall, wst, wall_mono f K a b h]
theorem wall_tr (f : Nat → Nat → Bool) : ∀ K i m j, m < K → wall K f i m = true → wall K f m j = true → wall K f i j = true
 | 0, _, _, _, h, _, _ => by omega
 | K + 1, i, m, j, h, h1, h2 => by
  have ih := wall_tr f K
  simp only [wall, wst, Bool.or_eq_true, Bool.and_eq_true] at h1 h2 ⊢
  by_cases hm : m < K
  ·rcases h1 with h1 | ⟨h1, h1'⟩ <;> rcases h2 with h2 | ⟨h2, h2'⟩
   ·exact .inl (ih i m j hm h1 h2)
   ·exact .inr ⟨ih i m K hm h1 h2, h2'⟩
   ·exact .inr ⟨h1, ih K m j hm h1' h2⟩
   ·exact .inr ⟨h1, h2'⟩
  ·obtain rfl : m = K := by omega
   have g1 : wall m f i m = true := by rcases h1 with h1 | ⟨h1, _⟩ <;> exact h1
   have g2 : wall m f m j = true := by rcases h2 with h2 | ⟨_, h2⟩ <;> exact h2
   exact .inr ⟨g1, g2⟩
inductive Way (n : Nat) (f : Nat → Nat → Bool) : Nat → Nat → Prop
 | one {a b : Nat} : a < n → b < n → f a b = true → Way n f a b
 | step {a b c : Nat} : a < n → b < n → f a b = true → Way n f b c → Way n f a c
theorem Way.trans {n : Nat} {f : Nat → Nat → Bool} {a b c : Nat} (h : Way n f a b) (h' : Way n f b c) : Way n f a c := by
 induction h with
 | one h1 h2 h3 => exact .step h1 h2 h3 h'
 | step h1 h2 h3 _ ih => exact .step h1 h2 h3 (ih h')
theorem wall_way {n : Nat} {f : Nat → Nat → Bool} : ∀ K, K ≤ n → ∀ a b, a < n → b < n → wall K f a b = true → Way n f a b
 | 0, _, a, b, ha, hb, h => .one ha hb h
 | K + 1, hK, a, b, ha, hb, h => by
  simp only [wall, wst, Bool.or_eq_true, Bool.and_eq_true] at h
  rcases h with h | ⟨h1, h2⟩
  ·exact wall_way K (by omega) a b ha hb h
  ·exact (wall_way K (by omega) a K ha (by omega) h1).trans (wall_way K (by omega) K b (by omega) hb h2)
theorem way_wall {n : Nat} {f : Nat → Nat → Bool} {a b : Nat} (h : Way n f a b) : wall n f a b = true := by
 induction h with
 | one h1 h2 h3 => exact wall_mono f n _ _ h3
 | step h1 h2 h3 _ ih => exact wall_tr f n _ _ _ h2 (wall_mono f n _ _ h3) ih
theorem wall_iff {n : Nat} {f : Nat → Nat → Bool} {a b : Nat} (ha : a < n) (hb : b < n) : wall n f a b = true ↔ Way n f a b := ⟨wall_way n (Nat.le_refl _) a b ha hb, way_wall⟩
def mat (n : Nat) (f : Nat → Nat → Bool) : List (List Bool) := (List.range n).map fun a => (List.range n).map fun b => f a b
theorem mat_len (n : Nat) (f : Nat → Nat → Bool) : (mat n f).length = n := by simp [mat]
theorem mat_row {n a : Nat} (f : Nat → Nat → Bool) (h : a < n) : (mat n f).getD a [] = (List.range n).map fun b => f a b := by simp [mat, List.getD_eq_getElem?_getD, h]
theorem mat_rowlen {n a : Nat} (f : Nat → Nat → Bool) (h : a < n) : ((mat n f).getD a []).length = n := by rw [mat_row f h]; simp
theorem mat_get {n a b : Nat} (f : Nat → Nat → Bool) (h : a < n) (hb : b < n) : ((mat n f).getD a []).getD b false = f a b := by rw [mat_row f h]; simp [List.getD_eq_getElem?_getD, hb]
def upd (f : Nat → Nat → Bool) (i j : Nat) (x : Bool) : Nat → Nat → Bool := fun a b => if a = i ∧ b = j then x else f a b
theorem mat_set {n i j : Nat} (f : Nat → Nat → Bool) (x : Bool) (hi : i < n) (hj : j < n) : (mat n f).set i (((mat n f).getD i []).set j x) = mat n (upd f i j x) := by
 rw [mat_row f hi]
 apply List.ext_getElem
 ·simp [mat]
 ·intro a h1 h2
  have ha : a < n := by simpa [mat] using h2
  rw [List.getElem_set]
  simp only [mat, List.getElem_map, List.getElem_range]
  by_cases hia : i = a
  ·subst hia
   rw [if_pos rfl]
   apply List.ext_getElem
   ·simp
   ·intro b h3 h4
    rw [List.getElem_set]
    by_cases hb : j = b
    ·subst hb; simp [upd]
    ·simp [upd, hb, Ne.symm hb]
  ·rw [if_neg hia]
   apply List.ext_getElem
   ·simp
   ·intro b h3 h4
    simp [upd, Ne.symm hia]
theorem mat_congr {n : Nat} {f g : Nat → Nat → Bool} (h : ∀ a b, a < n → b < n → f a b = g a b) : mat n f = mat n g := by
 unfold mat
 apply List.map_congr_left
 intro a ha
 apply List.map_congr_left
 intro b hb
 exact h a b (by simpa using ha) (by simpa using hb)
def rowU (f : Nat → Nat → Bool) (k i j : Nat) : Nat → Nat → Bool := fun a b => if a = i ∧ b < j then f i b || (f i k && f k b) else f a b
theorem dep3_s (hN : 4000000 ≤ N) {p : Pin} {n : Nat} (hn : p.g.n = n) (hn8 : n ≤ 8) {k i : Nat} (hk : k < n) (hi : i < n) (f : Nat → Nat → Bool) (kk : List (List Bool) → Option (List (List Bool) × Bool)) :
  I_dependence_l3 N p (k : Int) (i : Int) kk N (mat n f, (0 : Int)) = kk (mat n (rowU f k i n)) := by
 have e0 : mat n f = mat n (rowU f k i 0) := mat_congr fun a b _ _ => by simp [rowU]
 rw [e0]
 refine fold (N := N) (len := n) (st := fun j => mat n (rowU f k i j)) (F := fun m s => I_dependence_l3 N p (k : Int) (i : Int) kk m s) (by omega) (fun m j hj => ?_) fun m => ?_
 ·show I_dependence_l3 N p (k : Int) (i : Int) kk (m + 1) (mat n (rowU f k i j), (j : Int)) = I_dependence_l3 N p (k : Int) (i : Int) kk m (mat n (rowU f k i (j + 1)), ((j + 1 : Nat) : Int))
  rw [I_dependence_l3]
  have en : (p.g.n).toNat = n := by omega
  have ei : ((i : Int)).toNat = i := by omega
  have ej : ((j : Int)).toNat = j := by omega
  have ek : ((k : Int)).toNat = k := by omega
  have g1 : (rowU f k i j) i j = f i j := by simp [rowU]
  have g2 : (rowU f k i j) i k = f i k := by
   simp only [rowU]
   split
   ·cases f i k <;> simp
   ·rfl
  have g3 : (rowU f k i j) k j = f k j := by
   simp only [rowU]
   split
   ·omega
   ·rfl
  have hu : ∀ x : Bool, x = (f i j || (f i k && f k j)) → mat n (upd (rowU f k i j) i j x) = mat n (rowU f k i (j + 1)) := fun x hx => mat_congr fun a b _ _ => by
   simp only [upd, rowU]
   by_cases ha : a = i
   ·subst ha
    by_cases hb : b = j
    ·subst hb; simp [hx]
    ·by_cases hbj : b < j
     ·simp [hb, hbj, show b < j + 1 by omega]
     ·simp [hb, hbj, show ¬ b < j + 1 by omega]
   ·simp [ha]
  rw [List.length_replicate, en, ei, ej, ek, mat_rowlen _ hi, mat_get _ hi hj, mat_get _ hi hk, mat_rowlen _ hk, mat_get _ hk hj, mat_len, g1, g2, g3]
  rw [cnd_dt (by omega), grd_pos (by omega), grd_pos (by omega), grd_pos (by omega), grd_R (by omega) (by omega), succ_cast, mat_set _ _ hi hj, mat_set _ _ hi hj, mat_set _ _ hi hj, grd_pos (by omega), grd_pos (by omega), grd_pos (by omega), grd_pos (by omega)]
  cases hij : f i j with
  | true => rw [cnd_true, hu true (by simp [hij])]
  | false =>
   rw [cnd_false]
   cases hik : f i k with
   | true => rw [cnd_true, hu (f k j) (by simp [hij, hik]), grd_R (by omega) (by omega)]
   | false => rw [cnd_false, hu false (by simp [hij, hik]), grd_R (by omega) (by omega)]
 ·show I_dependence_l3 N p (k : Int) (i : Int) kk (m + 1) (mat n (rowU f k i n), (n : Int)) = _
  rw [I_dependence_l3, List.length_replicate, cnd_df (by omega)]
def rowsU (f : Nat → Nat → Bool) (k i : Nat) : Nat → Nat → Bool := fun a b => if a < i then f a b || (f a k && f k b) else f a b
theorem dep2_s (hN : 4000000 ≤ N) {p : Pin} {n : Nat} (hn : p.g.n = n) (hn8 : n ≤ 8) {k : Nat} (hk : k < n) (f : Nat → Nat → Bool) (kk : List (List Bool) → Option (List (List Bool) × Bool)) :
  I_dependence_l2 N p (k : Int) kk N (mat n f, (0 : Int)) = kk (mat n (wst k f)) := by
 have e0 : mat n f = mat n (rowsU f k 0) := mat_congr fun a b _ _ => by simp [rowsU]
 rw [e0]
 refine fold (N := N) (len := n) (st := fun j => mat n (rowsU f k j)) (F := fun m s => I_dependence_l2 N p (k : Int) kk m s) (by omega) (fun m i hi => ?_) fun m => ?_
 ·show I_dependence_l2 N p (k : Int) kk (m + 1) (mat n (rowsU f k i), (i : Int)) = I_dependence_l2 N p (k : Int) kk m (mat n (rowsU f k (i + 1)), ((i + 1 : Nat) : Int))
  rw [I_dependence_l2]
  have en : (p.g.n).toNat = n := by omega
  rw [List.length_replicate, en, cnd_dt (by omega), dep3_s hN hn hn8 hk hi, grd_R (by omega) (by omega), succ_cast]
  congr 2
  refine mat_congr fun a b _ hb => ?_
  have g2 : (rowsU f k i) i k = f i k := by simp [rowsU]
  have g3 : (rowsU f k i) k b = f k b := by
   simp only [rowsU]
   split
   ·cases f k b <;> cases f k k <;> rfl
   ·rfl
  have g1 : (rowsU f k i) i b = f i b := by simp [rowsU]
  simp only [rowU, g1, g2, g3]
  by_cases ha : a = i
  ·subst ha; simp [hb, rowsU]
  ·simp only [ha, false_and, if_false, rowsU]
   by_cases hai : a < i
   ·simp [hai, show a < i + 1 by omega]
   ·simp [hai, show ¬ a < i + 1 by omega]
 ·show I_dependence_l2 N p (k : Int) kk (m + 1) (mat n (rowsU f k n), (n : Int)) = _
  rw [I_dependence_l2, List.length_replicate, cnd_df (by omega)]
  congr 1
  exact mat_congr fun a b ha _ => by simp [rowsU, ha, wst]
theorem dep1_s (hN : 4000000 ≤ N) {p : Pin} {n : Nat} (hn : p.g.n = n) (hn8 : n ≤ 8) (f : Nat → Nat → Bool) (kk : List (List Bool) → Option (List (List Bool) × Bool)) :
  I_dependence_l1 N p kk N (mat n f, (0 : Int)) = kk (mat n (wall n f)) := by
 refine fold (N := N) (len := n) (st := fun j => mat n (wall j f)) (F := fun m s => I_dependence_l1 N p kk m s) (by omega) (fun m i hi => ?_) fun m => ?_
 ·show I_dependence_l1 N p kk (m + 1) (mat n (wall i f), (i : Int)) = I_dependence_l1 N p kk m (mat n (wall (i + 1) f), ((i + 1 : Nat) : Int))
  rw [I_dependence_l1]
  have en : (p.g.n).toNat = n := by omega
  rw [List.length_replicate, en, cnd_dt (by omega), dep2_s hN hn hn8 hi, grd_R (by omega) (by omega), succ_cast]
  rfl
 ·show I_dependence_l1 N p kk (m + 1) (mat n (wall n f), (n : Int)) = _
  rw [I_dependence_l1, List.length_replicate, cnd_df (by omega)]
def arc (p : Pin) (ow : List Int) (e : Nat) : Nat → Nat → Bool := fun a b => (List.range e).any fun i => (ow.getD i 0 == (a : Int)) && (otherEnd (p.g.bars.getD i (0, 0)) (ow.getD i 0) == (b : Int)) && isIn p (b : Int)
def dep0 (p : Pin) (ow : List Int) (e : Nat) : Nat → Nat → Bool := fun a b => (decide (a = b) && isIn p (a : Int)) || arc p ow e a b
theorem arc_succ (p : Pin) (ow : List Int) (e a b : Nat) : arc p ow (e + 1) a b = (arc p ow e a b || ((ow.getD e 0 == (a : Int)) && (otherEnd (p.g.bars.getD e (0, 0)) (ow.getD e 0) == (b : Int)) && isIn p (b : Int))) := by
 simp only [arc, List.range_succ, List.any_append, List.any_cons, List.any_nil, Bool.or_false]
theorem own_facts {p : Pin} (hp : isPinned p = true) {ow : List Int} (ho : Own p 0 ow) {i : Nat} (hi : i < p.g.bars.length) : 0 ≤ ow.getD i 0 ∧ ow.getD i 0 < p.g.n ∧ hasEnd (p.g.bars.getD i (0, 0)) (ow.getD i 0) = true ∧ 0 ≤ otherEnd (p.g.bars.getD i (0, 0)) (ow.getD i 0) ∧ otherEnd (p.g.bars.getD i (0, 0)) (ow.getD i 0) < p.g.n := by
 have hbar := isPinned_bar hp hi
 obtain ⟨h1, h2⟩ := ho i (Nat.zero_le _) hi
 unfold otherEnd hasEnd
 rcases h1 with h1 | h1
 ·rw [h1]
  simp
  exact ⟨hbar.1, hbar.2.2.2.2.1, hbar.2.2.1, hbar.2.2.2.2.2.1⟩
 ·rw [h1]
  have : ((p.g.bars.getD i (0, 0)).1 == (p.g.bars.getD i (0, 0)).2) = false := by
   rw [beq_eq_false_iff_ne]; have := hbar.2.2.2.2.2.2; omega
  rw [this]
  simp [cnd]
  exact ⟨hbar.2.2.1, hbar.2.2.2.2.2.1, hbar.1, hbar.2.2.2.2.1⟩
end Go.Proofs.Ytmoamglpocjhgaa
namespace Go.Proofs.Ytmoamglpocjhgaa
variable (N : Nat)
end Go.Proofs.Ytmoamglpocjhgaa
namespace Go.Proofs.Ytmoamglpocjhgaa
variable (N : Nat)
end Go.Proofs.Ytmoamglpocjhgaa
namespace Go.Proofs.Ytmoamglpocjhgaa
variable (N : Nat)
def sel {α : Type} (f : Nat → α) (q : Nat → Bool) (i : Nat) : List α := ((List.range i).filter q).map f
theorem sel_succ {α : Type} (f : Nat → α) (q : Nat → Bool) (i : Nat) : sel f q (i + 1) = cnd (q i) (sel f q i ++ [f i]) (sel f q i) := by
 unfold sel
 rw [List.range_succ, List.filter_append, List.map_append]
 cases h : q i <;> simp [h]
theorem sel_len {α : Type} (f : Nat → α) (q : Nat → Bool) (i : Nat) : (sel f q i).length ≤ i := by
 unfold sel
 rw [List.length_map]
 exact Nat.le_trans (List.length_filter_le ..) (by simp)
theorem sel_has {q : Nat → Bool} {i j : Nat} (hj : j < i) : (sel (fun k => (k : Int)) q i).contains (j : Int) = q j := by
 rw [Bool.eq_iff_iff]
 simp only [sel, List.contains_eq_mem, decide_eq_true_eq, List.mem_map, List.mem_filter, List.mem_range]
 constructor
 ·rintro ⟨k, ⟨_, h⟩, he⟩
  have : k = j := by omega
  subst this; exact h
 ·intro h; exact ⟨j, ⟨hj, h⟩, rfl⟩
end Go.Proofs.Ytmoamglpocjhgaa
namespace Go.Proofs.Ytmoamglpocjhgaa
variable {N : Nat}
theorem rng_set {β : Type} (g : Nat → β) (n i : Nat) (x : β) : ((List.range n).map g).set i x = (List.range n).map fun a => if a = i then x else g a := by
 apply List.ext_getElem
 ·simp
 ·intro a h1 h2
  rw [List.getElem_set]
  simp only [List.getElem_map, List.getElem_range]
  by_cases h : i = a
  ·simp [h]
  ·simp [h, Ne.symm h]
theorem rng_rep {β : Type} (n : Nat) (x : β) : List.replicate n x = (List.range n).map fun _ => x := by
 apply List.ext_getElem <;> simp
theorem rng_congr {β : Type} {f g : Nat → β} {n : Nat} (h : ∀ a, a < n → f a = g a) : (List.range n).map f = (List.range n).map g :=
 List.map_congr_left fun a ha => h a (by simpa using ha)
def d5 (p : Pin) (n i : Nat) : List (List Bool) := (List.range n).map fun a => if a < i then (List.range n).map fun b => decide (a = b) && isIn p (a : Int) else []
theorem dep5_s (hN : 4000000 ≤ N) {p : Pin} (hp : isPinned p = true) {n : Nat} (hn : p.g.n = n) (hn8 : n ≤ 8) (kk : List (List Bool) → Option (List (List Bool) × Bool)) :
  I_dependence_l5 N p kk N (List.replicate n [], (0 : Int)) = kk (mat n fun a b => decide (a = b) && isIn p (a : Int)) := by
 have e0 : (List.replicate n ([] : List Bool)) = d5 p n 0 := by rw [rng_rep]; exact rng_congr fun a _ => by simp
 rw [e0]
 refine fold (N := N) (len := n) (st := fun j => d5 p n j) (F := fun m s => I_dependence_l5 N p kk m s) (by omega) (fun m i hi => ?_) fun m => ?_
 ·show I_dependence_l5 N p kk (m + 1) (d5 p n i, (i : Int)) = I_dependence_l5 N p kk m (d5 p n (i + 1), ((i + 1 : Nat) : Int))
  rw [I_dependence_l5]
  have en : (p.g.n).toNat = n := by omega
  have ei : ((i : Int)).toNat = i := by omega
  have hL : (d5 p n i).length = n := by simp [d5]
  have hX : (List.replicate n false).length = n := by simp
  have hg : ((d5 p n i).set i (List.replicate n false)).getD i [] = List.replicate n false := by
   rw [List.getD_eq_getElem?_getD, List.getElem?_set_self (by rw [hL]; exact hi)]; rfl
  have hset : ((d5 p n i).set i (List.replicate n false)).set i ((List.replicate n false).set i (isIn p (i : Int))) = d5 p n (i + 1) := by
   rw [List.set_set, rng_rep n false, rng_set, d5, rng_set]
   refine rng_congr fun a ha => ?_
   by_cases hai : a = i
   ·subst hai
    rw [if_pos rfl, if_pos (by omega)]
    refine rng_congr fun b _ => ?_
    by_cases hb : b = a
    ·subst hb; simp
    ·simp [hb, Ne.symm hb]
   ·rw [if_neg hai]
    by_cases hl : a < i
    ·rw [if_pos hl, if_pos (by omega)]
    ·rw [if_neg hl, if_neg (by omega)]
  rw [List.length_replicate, List.length_set, en, ei, hg, hX, hL, cnd_dt (by omega), grd_pos (by omega), grd_pos (by omega), grd_pos (by omega), isInner_s N hN hp, Option.bind_some, grd_pos (by omega), grd_R (by omega) (by omega), succ_cast, hset]
 ·show I_dependence_l5 N p kk (m + 1) (d5 p n n, (n : Int)) = _
  rw [I_dependence_l5, List.length_replicate, cnd_df (by omega)]
  congr 1
  exact rng_congr fun a ha => by rw [if_pos ha]
theorem dep4_s (hN : 4000000 ≤ N) {p : Pin} (hp : isPinned p = true) {n : Nat} (hn : p.g.n = n) (hn8 : n ≤ 8) {ow : List Int} {v1 : List Int × Bool} (hv1 : v1.1 = ow) (hl : ow.length = p.g.bars.length) (ho : Own p 0 ow) (kk : List (List Bool) → Option (List (List Bool) × Bool)) :
  I_dependence_l4 N p v1 kk N (mat n (dep0 p ow 0), (0 : Int)) = kk (mat n (dep0 p ow p.g.bars.length)) := by
 have hbd := isPinned_bd hp
 refine fold (N := N) (len := p.g.bars.length) (st := fun j => mat n (dep0 p ow j)) (F := fun m s => I_dependence_l4 N p v1 kk m s) (by omega) (fun m i hi => ?_) fun m => ?_
 ·show I_dependence_l4 N p v1 kk (m + 1) (mat n (dep0 p ow i), (i : Int)) = I_dependence_l4 N p v1 kk m (mat n (dep0 p ow (i + 1)), ((i + 1 : Nat) : Int))
  rw [I_dependence_l4, hv1]
  have en : (p.g.n).toNat = n := by omega
  have ei : ((i : Int)).toNat = i := by omega
  obtain ⟨f1, f2, f3, f4, f5⟩ := own_facts hp ho hi
  have hrow := mat_rowlen (n := n) (a := (ow.getD i 0).toNat) (dep0 p ow i) (by omega)
  rw [cnd_dt (by omega), grd_pos (by omega), ei, grd_pos (by omega), bother_s, Option.bind_some, isInner_s N hN hp, Option.bind_some]
  rw [List.length_replicate, mat_len, hrow, en, mat_set _ _ (by omega) (by omega), grd_pos (by omega), grd_pos (by omega), grd_pos (by omega), grd_R (by omega) (by omega), grd_R (by omega) (by omega), succ_cast]
  cases hin : isIn p (otherEnd (p.g.bars.getD i (0, 0)) (ow.getD i 0)) with
  | true =>
   rw [cnd_true]
   refine congrArg (fun L => I_dependence_l4 N p v1 kk m (L, ((i + 1 : Nat) : Int))) (mat_congr fun a b ha hb => ?_)
   simp only [upd, dep0, arc_succ]
   by_cases h : a = (ow.getD i 0).toNat ∧ b = (otherEnd (p.g.bars.getD i (0, 0)) (ow.getD i 0)).toNat
   ·rw [if_pos h]
    have h1 : (a : Int) = ow.getD i 0 := by omega
    have h2 : (b : Int) = otherEnd (p.g.bars.getD i (0, 0)) (ow.getD i 0) := by omega
    rw [h1, h2, hin]; simp
   ·rw [if_neg h]
    have : ((ow.getD i 0 == (a : Int)) && (otherEnd (p.g.bars.getD i (0, 0)) (ow.getD i 0) == (b : Int))) = false := by
     rw [Bool.and_eq_false_iff, beq_eq_false_iff_ne, beq_eq_false_iff_ne]
     by_cases h1 : ow.getD i 0 = (a : Int)
     ·right; intro h2; exact h ⟨by omega, by omega⟩
     ·left; exact h1
    rw [this]; simp
  | false =>
   rw [cnd_false]
   refine congrArg (fun L => I_dependence_l4 N p v1 kk m (L, ((i + 1 : Nat) : Int))) (mat_congr fun a b ha hb => ?_)
   simp only [dep0, arc_succ]
   have : ((ow.getD i 0 == (a : Int)) && (otherEnd (p.g.bars.getD i (0, 0)) (ow.getD i 0) == (b : Int)) && isIn p (b : Int)) = false := by
    rw [Bool.and_eq_false_iff]
    by_cases h2 : otherEnd (p.g.bars.getD i (0, 0)) (ow.getD i 0) = (b : Int)
    ·right; rw [← h2]; exact hin
    ·left; rw [Bool.and_eq_false_iff]; right; rw [beq_eq_false_iff_ne]; exact h2
   rw [this]; simp
 ·show I_dependence_l4 N p v1 kk (m + 1) (mat n (dep0 p ow p.g.bars.length), (p.g.bars.length : Int)) = _
  rw [I_dependence_l4, hv1, cnd_df (by omega)]
def dp (p : Pin) (ow : List Int) : Nat → Nat → Bool := wall p.g.n.toNat (dep0 p ow p.g.bars.length)
theorem dependence_x (hN : 4000000 ≤ N) {p : Pin} {ow : List Int} {b : Bool} (hI : I_OwnersOf N p = some (ow, b)) (hf : b = true → isPinned p = true ∧ ow.length = p.g.bars.length ∧ Own p 0 ow) :
  I_dependence N p = some (cnd b (mat p.g.n.toNat (dp p ow)) [], b) := by
 unfold I_dependence
 rw [hI, Option.bind_some]
 cases b with
 | false => rfl
 | true =>
  obtain ⟨hp, hl, ho⟩ := hf rfl
  have hbd := isPinned_bd hp
  obtain ⟨n, hn⟩ : ∃ n : Nat, p.g.n = n := ⟨p.g.n.toNat, by omega⟩
  have en : (p.g.n).toNat = n := by omega
  show cnd (!true) _ _ = _
  rw [Bool.not_true, cnd_false, grd_pos (by omega), en, dep5_s hN hp hn (by omega)]
  have e0 : mat n (fun a b => decide (a = b) && isIn p (a : Int)) = mat n (dep0 p ow 0) := mat_congr fun a b _ _ => by simp [dep0, arc]
  rw [e0, dep4_s hN hp hn (by omega) rfl hl ho, dep1_s hN hn (by omega), List.length_replicate, mat_len, grd_pos rfl, cnd_true, dp, en]
structure Bf (p : Pin) (ow : List Int) (v : Int) (Q : List Int) (k m : Nat) : Prop where
 hd : v ∈ Q
 nd : Q.Nodup
 rc : ∀ x ∈ Q, isIn p x = true ∧ Way p.g.n.toNat (dep0 p ow p.g.bars.length) v.toNat x.toNat
 dn : ∀ j i, (j < k ∨ j = k ∧ i < m) → j < Q.length → i < p.g.bars.length → ow.getD i 0 = Q.getD j 0 → isIn p (otherEnd (p.g.bars.getD i (0, 0)) (ow.getD i 0)) = true → otherEnd (p.g.bars.getD i (0, 0)) (ow.getD i 0) ∈ Q
theorem isIn_rg {p : Pin} {x : Int} (h : isIn p x = true) : 0 ≤ x ∧ x < p.g.n := by
 unfold isIn at h
 rw [Bool.and_eq_true, inB_true] at h
 omega
theorem Bf.len {p : Pin} {ow : List Int} {v : Int} {Q : List Int} {k m : Nat} (hp : isPinned p = true) (h : Bf p ow v Q k m) : Q.length ≤ 8 := by
 have hbd := isPinned_bd hp
 have := nodup_le (n := p.g.n.toNat) h.nd fun x hx => by have := isIn_rg (h.rc x hx).1; omega
 omega
theorem isIn_at {p : Pin} {x : Int} (h0 : 0 ≤ x) (h1 : x < p.g.n) : isIn p x = !p.ground.contains x := by
 unfold isIn
 rw [inB_true.2 ⟨h0, by omega⟩, Bool.true_and]
theorem reach3_s (hN : 4000000 ≤ N) {p : Pin} (hp : isPinned p = true) {ow : List Int} (hl : ow.length = p.g.bars.length) (ho : Own p 0 ow) {v : Int} {k : Nat} (kk : List Int → Option (List Int)) : ∀ (fuel i : Nat) (Q : List Int), i ≤ p.g.bars.length → p.g.bars.length < fuel + i → k < Q.length → Bf p ow v Q k i →
  ∃ Q', S_l21Reach_l3 N p ow (k : Int) kk fuel (Q, (i : Int)) = kk Q' ∧ Bf p ow v Q' k p.g.bars.length ∧ k < Q'.length := by
 have hbd := isPinned_bd hp
 intro fuel
 induction fuel with
 | zero => intro i Q h1 h2; omega
 | succ fuel ih =>
  intro i Q h1 h2 hk hB
  have h8 := hB.len hp
  rw [S_l21Reach_l3]
  by_cases hi : i < p.g.bars.length
  ·have ei : ((i : Int)).toNat = i := by omega
   have ek : ((k : Int)).toNat = k := by omega
   obtain ⟨f1, f2, f3, f4, f5⟩ := own_facts hp ho hi
   have hbar := isPinned_bar hp hi
   rw [cnd_dt (by omega), grd_pos (by omega), grd_pos (by omega), ei, ek]
   have skip : (ow.getD i 0 = Q.getD k 0 → isIn p (otherEnd (p.g.bars.getD i (0, 0)) (ow.getD i 0)) = true → otherEnd (p.g.bars.getD i (0, 0)) (ow.getD i 0) ∈ Q) → ∃ Q', S_l21Reach_l3 N p ow (k : Int) kk fuel (Q, ((i + 1 : Nat) : Int)) = kk Q' ∧ Bf p ow v Q' k p.g.bars.length ∧ k < Q'.length := fun hs =>
    ih (i + 1) Q (by omega) (by omega) hk ⟨hB.hd, hB.nd, hB.rc, fun j i' hj hjl hil e hin => by
     by_cases hji : j < k ∨ j = k ∧ i' < i
     ·exact hB.dn j i' hji hjl hil e hin
     ·obtain ⟨rfl, rfl⟩ : j = k ∧ i' = i := by omega
      exact hs e hin⟩
   by_cases he : ow.getD i 0 = Q.getD k 0
   ·rw [cnd_eqt he, grd_pos (by omega), l4Other_s N (by omega) (by omega) (by omega) (by omega) f3, Option.bind_some, l2Has_s N hN (by omega), Option.bind_some]
    cases hc : Q.contains (otherEnd (p.g.bars.getD i (0, 0)) (ow.getD i 0)) with
    | true =>
     rw [Bool.not_true, cnd_false, grd_R (by omega) (by omega), succ_cast]
     exact skip fun _ _ => by simpa using hc
    | false =>
     rw [Bool.not_false, cnd_true, l2Has_s N hN (by omega), Option.bind_some]
     have hin := isIn_at f4 f5
     cases hg : p.ground.contains (otherEnd (p.g.bars.getD i (0, 0)) (ow.getD i 0)) with
     | true =>
      rw [Bool.not_true, cnd_false, grd_R (by omega) (by omega), succ_cast]
      exact skip fun _ h => by rw [hin, hg] at h; cases h
     | false =>
      rw [hg, Bool.not_false] at hin
      rw [Bool.not_false, cnd_true, grd_pos (by omega), grd_R (by omega) (by omega), succ_cast]
      have hn : otherEnd (p.g.bars.getD i (0, 0)) (ow.getD i 0) ∉ Q := by simpa using hc
      have hmem : ow.getD i 0 ∈ Q := by rw [he]; exact getD_mem hk
      refine ih (i + 1) _ (by omega) (by omega) (by rw [List.length_append]; omega) ⟨by simp [hB.hd], List.nodup_append.2 ⟨hB.nd, by simp, fun x hx y hy e => hn ?_⟩, fun x hx => ?_, fun j i' hj hjl hil e hin2 => ?_⟩
      ·rw [← List.mem_singleton.1 hy, ← e]; exact hx
      ·rcases List.mem_append.1 hx with hx | hx
       ·exact hB.rc x hx
       ·have hx' : x = otherEnd (p.g.bars.getD i (0, 0)) (ow.getD i 0) := by simpa using hx
        rw [hx']
        refine ⟨hin, (hB.rc _ hmem).2.trans (.one (by omega) (by omega) ?_)⟩
        have c1 : (((ow.getD i 0).toNat : Nat) : Int) = ow.getD i 0 := by omega
        have c2 : (((otherEnd (p.g.bars.getD i (0, 0)) (ow.getD i 0)).toNat : Nat) : Int) = otherEnd (p.g.bars.getD i (0, 0)) (ow.getD i 0) := by omega
        simp only [dep0, arc, Bool.or_eq_true, List.any_eq_true]
        refine .inr ⟨i, by simpa using hi, ?_⟩
        rw [c1, c2, hin]; simp
      ·have hjQ : j < Q.length := by omega
       have eg : (Q ++ [otherEnd (p.g.bars.getD i (0, 0)) (ow.getD i 0)]).getD j 0 = Q.getD j 0 := by
        rw [List.getD_eq_getElem?_getD, List.getElem?_append_left hjQ, ← List.getD_eq_getElem?_getD]
       rw [eg] at e
       by_cases hji : j < k ∨ j = k ∧ i' < i
       ·exact List.mem_append_left _ (hB.dn j i' hji hjQ hil e hin2)
       ·obtain ⟨rfl, rfl⟩ : j = k ∧ i' = i := by omega
        simp
   ·rw [cnd_eqf he, grd_R (by omega) (by omega), succ_cast]
    exact skip fun h => absurd h he
  ·obtain rfl : i = p.g.bars.length := by omega
   rw [cnd_df (by omega)]
   exact ⟨Q, rfl, hB, hk⟩
theorem reach2_s (hN : 4000000 ≤ N) {p : Pin} (hp : isPinned p = true) {ow : List Int} (hl : ow.length = p.g.bars.length) (ho : Own p 0 ow) {v : Int} (kk : List Int → Option (List Int)) : ∀ (fuel k : Nat) (Q : List Int), k ≤ Q.length → 8 < fuel + k → Bf p ow v Q k 0 →
  ∃ Q', S_l21Reach_l2 N p ow kk fuel (Q, (k : Int)) = kk Q' ∧ Bf p ow v Q' Q'.length 0 := by
 have hbd := isPinned_bd hp
 intro fuel
 induction fuel with
 | zero => intro k Q h1 h2 hB; have := hB.len hp; omega
 | succ fuel ih =>
  intro k Q h1 h2 hB
  have h8 := hB.len hp
  rw [S_l21Reach_l2]
  by_cases hk : k < Q.length
  ·rw [cnd_dt (by omega)]
   obtain ⟨Q', e, hB', hk'⟩ := reach3_s hN hp hl ho (v := v) (k := k) (fun (l152 : List Int) => grd (Rg64 ((k : Int) + (1 : Int))) <| S_l21Reach_l2 N p ow kk fuel (l152, ((k : Int) + (1 : Int)))) N 0 Q (by omega) (by omega) hk hB
   have h8' := hB'.len hp
   obtain ⟨Q2, e2, hB2⟩ := ih (k + 1) Q' (by omega) (by omega) ⟨hB'.hd, hB'.nd, hB'.rc, fun j i hj hjl hil e hin => hB'.dn j i (by omega) hjl hil e hin⟩
   refine ⟨Q2, ?_, hB2⟩
   refine e.trans ?_
   show grd _ _ = _
   rw [grd_R (by omega) (by omega), succ_cast]
   exact e2
  ·obtain rfl : k = Q.length := by omega
   rw [cnd_df (by omega)]
   exact ⟨Q, rfl, hB⟩
theorem way_in {p : Pin} {ow : List Int} {v : Int} {Q : List Int} (hB : Bf p ow v Q Q.length 0) {a b : Nat} (h : Way p.g.n.toNat (dep0 p ow p.g.bars.length) a b) : (a : Int) ∈ Q → (b : Int) ∈ Q := by
 have one : ∀ a b : Nat, dep0 p ow p.g.bars.length a b = true → (a : Int) ∈ Q → (b : Int) ∈ Q := fun a b h ha => by
  simp only [dep0, arc, Bool.or_eq_true, List.any_eq_true, Bool.and_eq_true, decide_eq_true_eq, beq_iff_eq, List.mem_range] at h
  rcases h with h | ⟨i, hi, ⟨h1, h2⟩, h3⟩
  ·rw [← h.1]; exact ha
  ·obtain ⟨j, hj, e⟩ := List.mem_iff_getElem.1 ha
   have := hB.dn j i (.inl hj) hj hi (by rw [h1, List.getD_eq_getElem?_getD, List.getElem?_eq_getElem hj, e]; rfl) (by rw [h2]; exact h3)
   rw [h2] at this
   exact this
 induction h with
 | one h1 h2 h3 => exact one _ _ h3
 | step h1 h2 h3 _ ih => exact fun ha => ih (one _ _ h3 ha)
def reachL (p : Pin) (ow : List Int) (v : Int) : List Int := sel (fun u => (u : Int)) (fun u => dp p ow v.toNat u) p.g.n.toNat
theorem reachL_len {p : Pin} (hp : isPinned p = true) (ow : List Int) (v : Int) : (reachL p ow v).length ≤ 8 := by
 have hbd := isPinned_bd hp
 have := sel_len (fun u => (u : Int)) (fun u => dp p ow v.toNat u) p.g.n.toNat
 unfold reachL
 omega
theorem dp_self {p : Pin} (ow : List Int) {v : Int} (h : isIn p v = true) : dp p ow v.toNat v.toNat = true := by
 have := isIn_rg h
 refine wall_mono _ _ _ _ ?_
 have e : ((v.toNat : Nat) : Int) = v := by omega
 simp [dep0, e, h]
theorem dp_trans {p : Pin} (ow : List Int) {a b c : Nat} (hb : b < p.g.n.toNat) (h1 : dp p ow a b = true) (h2 : dp p ow b c = true) : dp p ow a c = true := wall_tr _ _ _ _ _ hb h1 h2
theorem reach_s (hN : 4000000 ≤ N) {p : Pin} (hp : isPinned p = true) {ow : List Int} (hl : ow.length = p.g.bars.length) (ho : Own p 0 ow) {v : Int} (hv : isIn p v = true) : S_l21Reach N p ow v = some (reachL p ow v) := by
 have hbd := isPinned_bd hp
 have hr := isIn_rg hv
 obtain ⟨n, hn⟩ : ∃ n : Nat, p.g.n = n := ⟨p.g.n.toNat, by omega⟩
 have en : (p.g.n).toNat = n := by omega
 have ev : ((v.toNat : Nat) : Int) = v := by omega
 unfold S_l21Reach
 have hw : Way p.g.n.toNat (dep0 p ow p.g.bars.length) v.toNat v.toNat := (wall_iff (by omega) (by omega)).1 (dp_self ow hv)
 obtain ⟨Q, e, hB⟩ := reach2_s hN hp hl ho (v := v) (fun (l75 : List Int) => S_l21Reach_l1 N p l75 (fun (l82 : List Int) => some l82) N (([] : List Int), (0 : Int))) N 0 [v] (by simp) (by omega) ⟨by simp, by simp, fun x hx => by
  have : x = v := by simpa using hx
  subst this; exact ⟨hv, hw⟩, fun j i hj => by omega⟩
 refine e.trans ?_
 show S_l21Reach_l1 N p Q _ N (([] : List Int), (0 : Int)) = _
 have h8 := hB.len hp
 have hq : ∀ u : Nat, u < n → Q.contains (u : Int) = dp p ow v.toNat u := fun u hu => by
  rw [Bool.eq_iff_iff]
  have hw2 := wall_iff (n := p.g.n.toNat) (f := dep0 p ow p.g.bars.length) (a := v.toNat) (b := u) (by omega) (by omega)
  constructor
  ·intro h
   have := (hB.rc (u : Int) (by simpa using h)).2
   exact hw2.2 this
  ·intro h
   have := way_in hB (hw2.1 h) (by rw [ev]; exact hB.hd)
   simpa using this
 have key := fold (N := N) (len := n) (st := fun j => sel (fun u => (u : Int)) (fun u => dp p ow v.toNat u) j) (F := fun m s => S_l21Reach_l1 N p Q (fun (l82 : List Int) => some l82) m s) (fin := some (reachL p ow v)) (by omega) (fun m i hi => by
  show S_l21Reach_l1 N p Q _ (m + 1) (sel _ _ i, (i : Int)) = S_l21Reach_l1 N p Q _ m (sel _ _ (i + 1), ((i + 1 : Nat) : Int))
  rw [S_l21Reach_l1, cnd_dt (by omega), l2Has_s N hN (by omega), Option.bind_some, hq i hi]
  have hsl := sel_len (fun u => (u : Int)) (fun u => dp p ow v.toNat u) i
  rw [grd_pos (by omega), grd_R (by omega) (by omega), grd_R (by omega) (by omega), succ_cast, sel_succ]
  cases dp p ow v.toNat i <;> rfl) fun m => by
  show S_l21Reach_l1 N p Q _ (m + 1) (sel _ _ n, (n : Int)) = _
  rw [S_l21Reach_l1, cnd_df (by omega)]
  show some _ = _
  rw [reachL, en]
 exact key
theorem dependsOn_x (hN : 4000000 ≤ N) {p : Pin} (hb : p.g.bars.length ≤ 3000000) (hg : p.ground.length ≤ 3000000) (v : Int) : ∃ r : List Int, r.length ≤ 8 ∧ S_DependsOn N p v = some r ∧ I_DependsOn N p v = some r := by
 obtain ⟨ow, b, hlen, hS, hI, h0, hf⟩ := owners_y (N := N) hN hb hg
 unfold S_DependsOn I_DependsOn
 rw [hS, Option.bind_some, dependence_x hN hI hf, Option.bind_some]
 cases b with
 | false => exact ⟨[], by simp, rfl, rfl⟩
 | true =>
  obtain ⟨hp, hl, ho⟩ := hf rfl
  have hbd := isPinned_bd hp
  have hil : (innerPts p).length ≤ 8 := by
   have := outside_len p.ground p.g.n.toNat
   unfold innerPts; rw [hp, cnd_true, inner_outside]; omega
  show ∃ r : List Int, r.length ≤ 8 ∧ cnd (!true) _ _ = some r ∧ cnd (!true) _ _ = some r
  rw [Bool.not_true, cnd_false, cnd_false, innerS_s N hN hb hg, Option.bind_some, l2Has_s N hN (by omega), Option.bind_some, innerPts_mem hp, isInner_s N hN hp, Option.bind_some]
  cases hv : isIn p v with
  | false => exact ⟨[], by simp, rfl, rfl⟩
  | true =>
   have hr := isIn_rg hv
   obtain ⟨n, hn⟩ : ∃ n : Nat, p.g.n = n := ⟨p.g.n.toNat, by omega⟩
   have en : (p.g.n).toNat = n := by omega
   refine ⟨reachL p ow v, reachL_len hp ow v, ?_, ?_⟩
   ·show cnd (!true) _ _ = _
    rw [Bool.not_true, cnd_false]
    show (S_l21Reach N p ow v).bind _ = _
    rw [reach_s hN hp hl ho hv]; rfl
   ·show cnd (!true) _ _ = _
    rw [Bool.not_true, cnd_false, cnd_true]
    show grd (0 ≤ v ∧ v < ((mat p.g.n.toNat (dp p ow)).length : Int)) _ = _
    rw [mat_len, grd_pos (by omega), en]
    refine fold (N := N) (len := n) (st := fun j => sel (fun u => (u : Int)) (fun u => dp p ow v.toNat u) j) (F := fun m s => I_DependsOn_l1 N v (mat n (dp p ow), true) (fun (l5 : List Int) => some l5) m s) (by omega) (fun m i hi => ?_) fun m => ?_
    ·show I_DependsOn_l1 N v (mat n (dp p ow), true) _ (m + 1) (sel _ _ i, (i : Int)) = I_DependsOn_l1 N v (mat n (dp p ow), true) _ m (sel _ _ (i + 1), ((i + 1 : Nat) : Int))
     rw [I_DependsOn_l1]
     have ei : ((i : Int)).toNat = i := by omega
     have hsl := sel_len (fun u => (u : Int)) (fun u => dp p ow v.toNat u) i
     show cnd (decide ((i : Int) < (((mat n (dp p ow)).getD v.toNat []).length : Int))) (grd (0 ≤ (i : Int) ∧ (i : Int) < (((mat n (dp p ow)).getD v.toNat []).length : Int)) (cnd (((mat n (dp p ow)).getD v.toNat []).getD (i : Int).toNat false) _ _)) _ = _
     rw [mat_rowlen _ (by omega), ei, mat_get _ (by omega) hi, cnd_dt (by omega), grd_pos (by omega), grd_pos (by omega), grd_R (by omega) (by omega), grd_R (by omega) (by omega), succ_cast, sel_succ]
     cases dp p ow v.toNat i <;> rfl
    ·show I_DependsOn_l1 N v (mat n (dp p ow), true) _ (m + 1) (sel _ _ n, (n : Int)) = _
     rw [I_DependsOn_l1]
     show cnd (decide ((n : Int) < (((mat n (dp p ow)).getD v.toNat []).length : Int))) _ _ = _
     rw [mat_rowlen _ (by omega), cnd_df (by omega)]
     show some _ = _
     rw [reachL, en]
end Go.Proofs.Ytmoamglpocjhgaa
namespace Go.Proofs.Ytmoamglpocjhgaa
open Go.RowKit Go.Deep
def I_AssurGroups_l2 (N : Nat) (v1 : (List (List Bool)) × Bool) (v2 : List Int) (l31 : List (List Int)) (n32 : Nat) (x33 : Int) (k : ((List (List Int)) × Bool) → Option ((List (List Int)) × Bool)) : Nat → Int → Option ((List (List Int)) × Bool)
 | 0, _ => none
 | n + 1, x43 =>
  cnd (decide (x43 < (n32 : Int))) (
   grd (0 ≤ x43 ∧ x43 < (n32 : Int)) <|
   grd (0 ≤ x43 ∧ x43 < (l31.length : Int)) <|
   grd (0 ≤ (v2.getD ((x33).toNat) 0) ∧ (v2.getD ((x33).toNat) 0) < (v1.1.length : Int)) <|
   grd (0 ≤ (0 : Int) ∧ (0 : Int) < ((l31.getD ((x43).toNat) []).length : Int)) <|
   grd (0 ≤ ((l31.getD ((x43).toNat) []).getD ((0 : Int).toNat) 0) ∧ ((l31.getD ((x43).toNat) []).getD ((0 : Int).toNat) 0) < ((v1.1.getD (((v2.getD ((x33).toNat) 0)).toNat) []).length : Int)) <|
   cnd ((v1.1.getD (((v2.getD ((x33).toNat) 0)).toNat) []).getD ((((l31.getD ((x43).toNat) []).getD ((0 : Int).toNat) 0)).toNat) false) (
    grd (0 ≤ ((l31.getD ((x43).toNat) []).getD ((0 : Int).toNat) 0) ∧ ((l31.getD ((x43).toNat) []).getD ((0 : Int).toNat) 0) < (v1.1.length : Int)) <|
    grd (0 ≤ (v2.getD ((x33).toNat) 0) ∧ (v2.getD ((x33).toNat) 0) < ((v1.1.getD ((((l31.getD ((x43).toNat) []).getD ((0 : Int).toNat) 0)).toNat) []).length : Int)) <|
    cnd ((v1.1.getD ((((l31.getD ((x43).toNat) []).getD ((0 : Int).toNat) 0)).toNat) []).getD (((v2.getD ((x33).toNat) 0)).toNat) false) (
     grd ((l31.getD ((x43).toNat) []).length + 1 ≤ 4294967296) <|
     k ((l31.set ((x43).toNat) ((l31.getD ((x43).toNat) []) ++ ([(v2.getD ((x33).toNat) 0)] : List Int))), true)) (
     grd (Rg64 (x43 + (1 : Int))) <|
     I_AssurGroups_l2 N v1 v2 l31 n32 x33 k n (x43 + (1 : Int)))) (
    grd (Rg64 (x43 + (1 : Int))) <|
    I_AssurGroups_l2 N v1 v2 l31 n32 x33 k n (x43 + (1 : Int)))) (
   k (l31, false))
def I_AssurGroups_l1 (N : Nat) (v1 : (List (List Bool)) × Bool) (v2 : List Int) (k : ((List (List Int)) × Nat) → Option ((List (List Int)) × Bool)) : Nat → ((List (List Int)) × Nat × Int) → Option ((List (List Int)) × Bool)
 | 0, _ => none
 | n + 1, (l31, n32, x33) =>
  cnd (decide (x33 < (v2.length : Int))) (
   grd (0 ≤ x33 ∧ x33 < (v2.length : Int)) <|
   I_AssurGroups_l2 N v1 v2 l31 n32 x33 (fun (x : (List (List Int)) × Bool) =>
     match x with
     | (l40, joined41) =>
      cnd (!joined41) (
       grd (n32 = l40.length) <|
       grd (l40.length + 1 ≤ 4294967296) <|
       grd (Rg64 (x33 + (1 : Int))) <|
       I_AssurGroups_l1 N v1 v2 k n ((l40 ++ [([(v2.getD ((x33).toNat) 0)] : List Int)]), (l40 ++ [([(v2.getD ((x33).toNat) 0)] : List Int)]).length, (x33 + (1 : Int)))) (
       grd (Rg64 (x33 + (1 : Int))) <|
       I_AssurGroups_l1 N v1 v2 k n (l40, n32, (x33 + (1 : Int))))) N (0 : Int)) (
   k (l31, n32))
def I_AssurGroups (N : Nat) (p_0 : Pin) : Option ((List (List Int)) × Bool) :=
 (I_dependence N p_0).bind fun v1 =>
 cnd (!v1.2) (
  some (([] : List (List Int)), false)) (
  (I_InnerPoints N p_0).bind fun v2 =>
  I_AssurGroups_l1 N v1 v2 (fun (x : (List (List Int)) × Nat) =>
    match x with
    | (l22, n23) =>
     grd (n23 = l22.length) <|
     some (l22, true)) N (([] : List (List Int)), ([] : List (List Int)).length, (0 : Int)))
set_option maxRecDepth 20000 in
set_option maxHeartbeats 1600000 in
theorem I_AssurGroups_w (N : Nat) (p_0 : Pin) (r : (List (List Int)) × Bool) (h : I_AssurGroups N p_0 = some r) : PCallD Try.prog 28 [pD p_0] 25 3 (.intss r.1) (.tup [.row 0 0 r.1.length, .bool r.2]) := by
 unfold I_AssurGroups at h
 refine pcallD_intro (TT := TT) tt Try.func28 rfl rfl Try.ntmps28 (congrArg Array.toList Try.results28) rfl rfl rfl fun w0 => ?_
 refine vSeq ?_
 refine vRegion ?_
 refine oBox rfl rfl rfl rfl rfl rfl rfl rfl rfl ?_
 iterate 2 refine oVal tt rfl rfl rfl rfl rfl trivial ?_
 refine vNil ?_
 change VC _ _ _ _
 refine vSeq ?_
 refine vRegion ?_
 refine oEmpty tt (wNone rfl) rfl rfl rfl rfl ?_
 refine oVal tt rfl rfl rfl rfl rfl trivial ?_
 refine vNil ?_
 change VC _ _ _ _
 refine vSeq ?_
 refine vRegion ?_
 refine oVal tt rfl rfl rfl rfl rfl trivial ?_
 obtain ⟨v1, hc1, h⟩ := bind_inv h
 refine oCallD 10 (I_dependence_w N p_0 v1 hc1) rfl rfl rfl rfl rfl rfl rfl rfl rfl rfl rfl (fun _ h => by cases h) ⟨⟨rfl, rfl, rfl, trivial⟩, trivial⟩ ?_
 iterate 5 refine oVal tt rfl rfl rfl rfl rfl trivial ?_
 refine vNil ?_
 change VC _ _ _ _
 iterate 2 refine vSeq ?_
 refine vRegion ?_
 iterate 2 refine oVal tt rfl rfl rfl rfl rfl trivial ?_
 refine vNil ?_
 change VC _ _ _ _
 refine vCond rfl (fun hb2 => ?_) (fun hb2 => ?_)
 ·replace h := cnd_t hb2 h
  refine vSeq ?_
  refine vRegion ?_
  iterate 3 refine oVal tt rfl rfl rfl rfl rfl trivial ?_
  refine vNil ?_
  change VC _ _ _ _
  refine vNilT 2 9001 25 (.intss []) rfl rfl rfl rfl ?_
  refine vEn (En.newFam 12 3 (.ints []) rfl rfl rfl rfl (fun _ h => by cases h) rfl) ?_
  refine vEn (En.asRefs 9001 12 (q := .intss []) (qR := dR 12 (.intss [])) rfl rfl rfl rfl) ?_
  refine vRet ?_
  change ∃ _, _
  cases h
  exact ⟨9001, 12, _, rfl, rfl, rfl, rfl, rfl, (.eq rfl), rfl⟩
 ·replace h := cnd_f hb2 h
  refine vSkip ?_
  change VC _ _ _ _
  iterate 2 refine vSeq ?_
  refine vRegion ?_
  refine oVal tt rfl rfl rfl rfl rfl trivial ?_
  obtain ⟨v2, hc3, h⟩ := bind_inv h
  refine oCall (I_InnerPoints_w N p_0 v2 hc3) rfl rfl rfl rfl rfl rfl rfl rfl ⟨⟨rfl, rfl, rfl, trivial⟩, trivial⟩ ?_
  iterate 2 refine oVal tt rfl rfl rfl rfl rfl trivial ?_
  refine vNil ?_
  change VC _ _ _ _
  refine vJoin (F := fun k => I_AssurGroups_l1 N v1 v2 k) h (α := (List (List Int)) × Nat) (J := fun | (l22, n23) => (⟨[(4, .row 9542 0 n23)], [(9542, some (25, dR 11 (.intss l22))), (8589934603, some (3, dF (.intss l22)))], []⟩ : PS)) ?_ ?_
  ·rintro ⟨l22, n23⟩ h
   show VC _ _ _ (⟨[(4, .row 9542 0 n23)], [(9542, some (25, dR 11 (.intss l22))), (8589934603, some (3, dF (.intss l22)))], []⟩ : PS)
   refine vSeq ?_
   refine vRegion ?_
   iterate 3 refine oVal tt rfl rfl rfl rfl rfl trivial ?_
   refine vNil ?_
   change VC _ _ _ _
   obtain ⟨hg4, h⟩ := grd_inv h
   refine vRet ?_
   change ∃ _, _
   cases h
   exact ⟨9542, 11, _, rfl, rfl, rfl, rfl, rfl, (.eq (by simp only [hg4]; rfl)), rfl⟩
  ·intro k h
   refine vBlock ?_
   refine vNilT 4 9562 25 (.intss []) rfl rfl rfl rfl ?_
   refine vEn (En.newFam 11 3 (.ints []) rfl rfl rfl rfl (fun _ h => by cases h) rfl) ?_
   refine vEn (En.asRefs 9562 11 (q := .intss []) (qR := dR 11 (.intss [])) rfl rfl rfl rfl) ?_
   refine vLoopS (α := (List (List Int)) × Nat × Int) (fun | (l31, n32, x33) => (⟨[(4, .row 9562 0 n32), (5, .row 1150 0 v1.1.length), (22, .row 1220 0 v2.length), (23, .int (v2.length : Int)), (24, .int x33)], [(9562, some (25, dR 11 (.intss l31))), (8589934603, some (3, dF (.intss l31))), (1150, some (82, dR 10 (.boolss v1.1))), (8589934602, some (4, dF (.boolss v1.1))), (1220, some (3, .ints v2))], []⟩ : PS)) (I_AssurGroups_l1 N v1 v2 k) h (En.of ⟨rfl, rfl, rfl, rfl, rfl, trivial⟩ ⟨rfl, rfl, rfl, rfl, rfl, trivial⟩ trivial) (fun _ => rfl) ?_
   rintro n ⟨l31, n32, x33⟩ h
   rw [I_AssurGroups_l1] at h
   show VC _ _ _ (⟨[(4, .row 9562 0 n32), (5, .row 1150 0 v1.1.length), (22, .row 1220 0 v2.length), (23, .int (v2.length : Int)), (24, .int x33)], [(9562, some (25, dR 11 (.intss l31))), (8589934603, some (3, dF (.intss l31))), (1150, some (82, dR 10 (.boolss v1.1))), (8589934602, some (4, dF (.boolss v1.1))), (1220, some (3, .ints v2))], []⟩ : PS)
   refine vSeq ?_
   refine vRegion ?_
   refine oVal tt rfl rfl rfl rfl rfl trivial ?_
   refine vNil ?_
   change VC _ _ _ _
   refine vSeq ?_
   refine vCond rfl (fun hb5 => ?_) (fun hb5 => ?_)
   ·replace h := cnd_t hb5 h
    refine vSkip ?_
    change VC _ _ _ _
    refine vSeq ?_
    refine vBlock ?_
    refine vSeq ?_
    refine vRegion ?_
    obtain ⟨hg6, h⟩ := grd_inv h
    iterate 2 refine oVal tt rfl rfl rfl rfl rfl hg6 ?_
    refine oVal tt rfl rfl rfl rfl rfl trivial ?_
    refine vNil ?_
    change VC _ _ _ _
    refine vSeq ?_
    refine vRegion ?_
    refine oVal tt rfl rfl rfl rfl rfl trivial ?_
    refine vNil ?_
    change VC _ _ _ _
    iterate 2 refine vSeq ?_
    refine vRegion ?_
    iterate 3 refine oVal tt rfl rfl rfl rfl rfl trivial ?_
    refine vNil ?_
    change VC _ _ _ _
    refine vJoin (F := fun k => I_AssurGroups_l2 N v1 v2 l31 n32 x33 k) h (α := (List (List Int)) × Bool) (J := fun | (l40, joined41) => (⟨[(4, .row 9562 0 n32), (5, .row 1150 0 v1.1.length), (8, .int (v2.getD ((x33).toNat) 0)), (9, .bool joined41), (22, .row 1220 0 v2.length), (23, .int (v2.length : Int)), (24, .int x33)], [(9562, some (25, dR 11 (.intss l40))), (8589934603, some (3, dF (.intss l40))), (1150, some (82, dR 10 (.boolss v1.1))), (8589934602, some (4, dF (.boolss v1.1))), (1220, some (3, .ints v2))], []⟩ : PS)) ?_ ?_
    ·rintro ⟨l40, joined41⟩ h
     show VC _ _ _ (⟨[(4, .row 9562 0 n32), (5, .row 1150 0 v1.1.length), (8, .int (v2.getD ((x33).toNat) 0)), (9, .bool joined41), (22, .row 1220 0 v2.length), (23, .int (v2.length : Int)), (24, .int x33)], [(9562, some (25, dR 11 (.intss l40))), (8589934603, some (3, dF (.intss l40))), (1150, some (82, dR 10 (.boolss v1.1))), (8589934602, some (4, dF (.boolss v1.1))), (1220, some (3, .ints v2))], []⟩ : PS)
     refine vSeq ?_
     refine vRegion ?_
     iterate 2 refine oVal tt rfl rfl rfl rfl rfl trivial ?_
     refine vNil ?_
     change VC _ _ _ _
     refine vCond rfl (fun hb7 => ?_) (fun hb7 => ?_)
     ·replace h := cnd_t hb7 h
      refine vRegion ?_
      iterate 2 refine oVal tt rfl rfl rfl rfl rfl trivial ?_
      refine oBuild tt rfl rfl rfl rfl rfl rfl rfl rfl rfl rfl rfl ?_
      refine vEnO (En.adopt 67 67 9562 11 (q := (.intss l40)) rfl rfl rfl rfl rfl rfl (by simp [Sq.len, Fq.len, famOf, Fq.hole]) (pushI _ _) rfl (d' := .irow 11 l40.length ([(v2.getD ((x33).toNat) 0)] : List Int).length) (by simp [Fq.len]) rfl) ?_
      refine oBuildI tt rfl rfl rfl rfl rfl rfl rfl rfl rfl rfl ?_
      obtain ⟨hg8, h⟩ := grd_inv h
      refine oRowT 65 9562 hg8 rfl ?_
      obtain ⟨hg9, h⟩ := grd_inv h
      refine oAppendD (.intss (l40 ++ [([(v2.getD ((x33).toNat) 0)] : List Int)])) tt (q := (.intss l40)) rfl rfl rfl rfl rfl rfl rfl rfl (Nat.le_of_eq (Nat.zero_add _)) rfl rfl rfl rfl rfl rfl rfl (appI 11 l40 ([(v2.getD ((x33).toNat) 0)] : List Int)) hg9 ?_
      refine oVal tt rfl rfl rfl rfl rfl trivial ?_
      refine vNil ?_
      change VC _ _ _ _
      refine vRegion ?_
      obtain ⟨hg10, h⟩ := grd_inv h
      refine oVal tt rfl rfl rfl rfl rfl hg10 ?_
      refine oVal tt rfl rfl rfl rfl rfl trivial ?_
      refine vNil ?_
      change ∃ _, _
      exact ⟨((l40 ++ [([(v2.getD ((x33).toNat) 0)] : List Int)]), (l40 ++ [([(v2.getD ((x33).toNat) 0)] : List Int)]).length, (x33 + (1 : Int))), (En.of ⟨rfl, rfl, rfl, rfl, rfl, trivial⟩ ⟨rfl, rfl, rfl, rfl, rfl, trivial⟩ trivial), h⟩
     ·replace h := cnd_f hb7 h
      refine vSkip ?_
      change VC _ _ _ _
      refine vRegion ?_
      obtain ⟨hg11, h⟩ := grd_inv h
      refine oVal tt rfl rfl rfl rfl rfl hg11 ?_
      refine oVal tt rfl rfl rfl rfl rfl trivial ?_
      refine vNil ?_
      change ∃ _, _
      exact ⟨(l40, n32, (x33 + (1 : Int))), (En.of ⟨rfl, rfl, rfl, rfl, rfl, trivial⟩ ⟨rfl, rfl, rfl, rfl, rfl, trivial⟩ trivial), h⟩
    ·intro k h
     refine vBlock ?_
     refine vLoopS (α := Int) (fun (x43 : Int) => (⟨[(4, .row 9562 0 n32), (5, .row 1150 0 v1.1.length), (8, .int (v2.getD ((x33).toNat) 0)), (9, .bool false), (22, .row 1220 0 v2.length), (23, .int (v2.length : Int)), (24, .int x33), (28, .row 9562 0 n32), (29, .int (n32 : Int)), (30, .int x43)], [(9562, some (25, dR 11 (.intss l31))), (8589934603, some (3, dF (.intss l31))), (1150, some (82, dR 10 (.boolss v1.1))), (8589934602, some (4, dF (.boolss v1.1))), (1220, some (3, .ints v2))], []⟩ : PS)) (I_AssurGroups_l2 N v1 v2 l31 n32 x33 k) h (En.of ⟨rfl, rfl, rfl, rfl, rfl, rfl, rfl, rfl, rfl, rfl, trivial⟩ ⟨rfl, rfl, rfl, rfl, rfl, trivial⟩ trivial) (fun _ => rfl) ?_
     rintro n x43 h
     rw [I_AssurGroups_l2] at h
     show VC _ _ _ (⟨[(4, .row 9562 0 n32), (5, .row 1150 0 v1.1.length), (8, .int (v2.getD ((x33).toNat) 0)), (9, .bool false), (22, .row 1220 0 v2.length), (23, .int (v2.length : Int)), (24, .int x33), (28, .row 9562 0 n32), (29, .int (n32 : Int)), (30, .int x43)], [(9562, some (25, dR 11 (.intss l31))), (8589934603, some (3, dF (.intss l31))), (1150, some (82, dR 10 (.boolss v1.1))), (8589934602, some (4, dF (.boolss v1.1))), (1220, some (3, .ints v2))], []⟩ : PS)
     refine vSeq ?_
     refine vRegion ?_
     refine oVal tt rfl rfl rfl rfl rfl trivial ?_
     refine vNil ?_
     change VC _ _ _ _
     refine vSeq ?_
     refine vCond rfl (fun hb12 => ?_) (fun hb12 => ?_)
     ·replace h := cnd_t hb12 h
      refine vSkip ?_
      change VC _ _ _ _
      refine vSeq ?_
      refine vBlock ?_
      refine vSeq ?_
      refine vRegion ?_
      refine oVal tt rfl rfl rfl rfl rfl trivial ?_
      obtain ⟨hg13, h⟩ := grd_inv h
      refine oVal tt rfl rfl rfl rfl rfl hg13 ?_
      obtain ⟨hg14, h⟩ := grd_inv h
      refine oLoadD tt (wNone rfl) (.intss l31) rfl rfl rfl rfl rfl rfl rfl rfl rfl hg14 ?_
      iterate 2 refine oVal tt rfl rfl rfl rfl rfl trivial ?_
      refine vNil ?_
      change VC _ _ _ _
      refine vSeq ?_
      refine vRegionD (by kernel_rfl) (by kernel_rfl) ?_
      iterate 2 refine cVal tt rfl (wNone rfl) rfl rfl rfl trivial ?_
      obtain ⟨hg15, h⟩ := grd_inv h
      refine cVal tt rfl (wNone rfl) rfl rfl rfl hg15 ?_
      refine cLoadD tt (wNone rfl) (.boolss v1.1) rfl rfl rfl rfl rfl rfl rfl rfl rfl hg15 ?_
      refine cVal tt rfl (wNone rfl) rfl rfl rfl trivial ?_
      obtain ⟨hg16, h⟩ := grd_inv h
      refine cPureF (wNone rfl) (pIdxI tt (q := (.intss l31)) rfl rfl rfl rfl rfl rfl (by simp only [Sq.len, List.length_set, List.length_append, List.length_replicate] at *; omega) rfl hg16) rfl rfl ?_
      refine cPureF (wNone rfl) (pLoadI tt (q := (.intss l31)) rfl rfl rfl rfl rfl (by simp only [Sq.len, List.length_set, List.length_append, List.length_replicate] at *; omega) hg16 rfl) rfl rfl ?_
      obtain ⟨hg17, h⟩ := grd_inv h
      refine cPureF (wNone rfl) (pIdxI tt (q := (.boolss v1.1)) rfl rfl rfl rfl rfl rfl (by simp only [Sq.len, List.length_set, List.length_append, List.length_replicate] at *; omega) rfl hg17) rfl rfl ?_
      refine cPureF (wNone rfl) (pLoadI tt (q := (.boolss v1.1)) rfl rfl rfl rfl rfl (by simp only [Sq.len, List.length_set, List.length_append, List.length_replicate] at *; omega) hg17 rfl) rfl rfl ?_
      refine cVal tt rfl (wNone rfl) rfl rfl rfl trivial ?_
      refine cSplit rfl rfl rfl (fun hb18 => ?_) (fun hb18 => ?_)
      ·replace h := cnd_t hb18 h
       iterate 2 refine cVal tt rfl (wSome rfl rfl rfl rfl hb18) rfl rfl rfl trivial ?_
       refine cPureF (wSome rfl rfl rfl rfl hb18) (pIdxI tt (q := (.intss l31)) rfl rfl rfl rfl rfl rfl (by simp only [Sq.len, List.length_set, List.length_append, List.length_replicate] at *; omega) rfl hg16) rfl rfl ?_
       refine cPureF (wSome rfl rfl rfl rfl hb18) (pLoadI tt (q := (.intss l31)) rfl rfl rfl rfl rfl (by simp only [Sq.len, List.length_set, List.length_append, List.length_replicate] at *; omega) hg16 rfl) rfl rfl ?_
       obtain ⟨hg19, h⟩ := grd_inv h
       refine cVal tt rfl (wSome rfl rfl rfl rfl hb18) rfl rfl rfl hg19 ?_
       refine cLoadD tt (wSome rfl rfl rfl rfl hb18) (.boolss v1.1) rfl rfl rfl rfl rfl rfl rfl rfl rfl hg19 ?_
       refine cVal tt rfl (wSome rfl rfl rfl rfl hb18) rfl rfl rfl trivial ?_
       obtain ⟨hg20, h⟩ := grd_inv h
       refine cPureF (wSome rfl rfl rfl rfl hb18) (pIdxI tt (q := (.boolss v1.1)) rfl rfl rfl rfl rfl rfl (by simp only [Sq.len, List.length_set, List.length_append, List.length_replicate] at *; omega) rfl hg20) rfl rfl ?_
       refine cPureF (wSome rfl rfl rfl rfl hb18) (pLoadI tt (q := (.boolss v1.1)) rfl rfl rfl rfl rfl (by simp only [Sq.len, List.length_set, List.length_append, List.length_replicate] at *; omega) hg20 rfl) rfl rfl ?_
       refine cPickT rfl (wNone rfl) rfl rfl rfl hb18 rfl ?_
       refine cNil ?_
       change VC _ _ _ _
       refine vCond rfl (fun hb21 => ?_) (fun hb21 => ?_)
       ·replace h := cnd_t hb21 h
        refine vSeq ?_
        refine vRegion ?_
        iterate 4 refine oVal tt rfl rfl rfl rfl rfl trivial ?_
        refine oBuild tt rfl rfl rfl rfl rfl rfl rfl rfl rfl rfl rfl ?_
        refine vEnO (En.pull 57 9580 11 ((x43).toNat) rfl rfl (fam_get (q := (.intss l31)) rfl (by simp only [Sq.len, List.length_set, List.length_append, List.length_replicate] at *; omega)) rfl rfl rfl rfl) ?_
        obtain ⟨hg22, h⟩ := grd_inv h
        refine oAppend tt rfl rfl rfl rfl rfl rfl rfl rfl rfl rfl rfl rfl rfl rfl rfl rfl (Nat.le_of_eq (Nat.zero_add _)) hg22 ?_
        refine oVal tt rfl rfl rfl rfl rfl hg13 ?_
        refine vEnO (En.adopt 60 9580 9562 11 (q := (.intss l31)) rfl rfl rfl rfl rfl rfl (by simp [Sq.len, Fq.len, famOf, Fq.hole]) rfl rfl rfl rfl) ?_
        refine oStore tt rfl rfl rfl rfl rfl rfl rfl rfl rfl rfl ⟨_, _, rfl, hg14.1, (by simpa [Sq.len, dR, idn_len, idr_len] using hg14.2)⟩ ⟨(by simpa [Sq.len, dR, idn_len, idr_len] using hg14), trivial⟩ ?_
        refine vEnO (En.re 9562 11 rfl rfl (reI _ l31 ((x43).toNat) ((l31.getD ((x43).toNat) []) ++ ([(v2.getD ((x33).toNat) 0)] : List Int)) ((l31.map some).set ((x43).toNat) none) (by first | omega | (simp only [List.length_set, List.length_append, List.length_replicate] at *; omega)) (fun j hj => by rw [getD_hole, if_neg hj]) (by simp)) rfl rfl rfl) ?_
        refine vNil ?_
        change VC _ _ _ _
        refine vSeq ?_
        refine vRegion ?_
        refine oVal tt rfl rfl rfl rfl rfl trivial ?_
        refine vNil ?_
        change VC _ _ _ _
        refine vExit ?_
        change ∃ _, _
        exact ⟨((l31.set ((x43).toNat) ((l31.getD ((x43).toNat) []) ++ ([(v2.getD ((x33).toNat) 0)] : List Int))), true), (En.of ⟨rfl, rfl, rfl, rfl, rfl, rfl, rfl, trivial⟩ ⟨rfl, rfl, rfl, rfl, rfl, trivial⟩ trivial), h⟩
       ·replace h := cnd_f hb21 h
        refine vSkip ?_
        change VC _ _ _ _
        refine vRegion ?_
        obtain ⟨hg23, h⟩ := grd_inv h
        refine oVal tt rfl rfl rfl rfl rfl hg23 ?_
        refine oVal tt rfl rfl rfl rfl rfl trivial ?_
        refine vNil ?_
        change ∃ _, _
        exact ⟨(x43 + (1 : Int)), (En.of ⟨rfl, rfl, rfl, rfl, rfl, rfl, rfl, rfl, rfl, rfl, trivial⟩ ⟨rfl, rfl, rfl, rfl, rfl, trivial⟩ trivial), h⟩
      ·replace h := cnd_f hb18 h
       iterate 9 refine cNoT rfl rfl rfl rfl hb18 rfl rfl ?_
       refine cPickF rfl (wNone rfl) rfl rfl rfl hb18 rfl ?_
       refine cNil ?_
       change VC _ _ _ _
       refine vCondF rfl rfl ?_
       refine vSkip ?_
       change VC _ _ _ _
       refine vRegion ?_
       obtain ⟨hg24, h⟩ := grd_inv h
       refine oVal tt rfl rfl rfl rfl rfl hg24 ?_
       refine oVal tt rfl rfl rfl rfl rfl trivial ?_
       refine vNil ?_
       change ∃ _, _
       exact ⟨(x43 + (1 : Int)), (En.of ⟨rfl, rfl, rfl, rfl, rfl, rfl, rfl, rfl, rfl, rfl, trivial⟩ ⟨rfl, rfl, rfl, rfl, rfl, trivial⟩ trivial), h⟩
     ·replace h := cnd_f hb12 h
      refine vExit ?_
      change ∃ _, _
      exact ⟨(l31, false), (En.of ⟨rfl, rfl, rfl, rfl, rfl, rfl, rfl, trivial⟩ ⟨rfl, rfl, rfl, rfl, rfl, trivial⟩ trivial), h⟩
   ·replace h := cnd_f hb5 h
    refine vExit ?_
    change ∃ _, _
    exact ⟨(l31, n32), (En.ren [9542] [9562] rfl ⟨.inr rfl, trivial⟩ ⟨.inr rfl, .inr rfl, trivial⟩ trivial), h⟩
def I_IsAssurGroup (N : Nat) (p_0 : Pin) : Option (Bool) :=
 (I_AssurGroups N p_0).bind fun v1 =>
 cnd v1.2 (
  some ((v1.1.length : Int) == (1 : Int))) (
  some false)
set_option maxRecDepth 20000 in
set_option maxHeartbeats 1600000 in
theorem I_IsAssurGroup_w (N : Nat) (p_0 : Pin) (r : Bool) (h : I_IsAssurGroup N p_0 = some r) : PCall Try.prog 24 [pD p_0] [] (.bool r) := by
 unfold I_IsAssurGroup at h
 refine pcall_intro (TT := TT) tt Try.func24 rfl rfl Try.ntmps24 (congrArg Array.toList Try.results24) rfl rfl fun w0 => ?_
 refine vSeq ?_
 refine vRegion ?_
 refine oBox rfl rfl rfl rfl rfl rfl rfl rfl rfl ?_
 refine oVal tt rfl rfl rfl rfl rfl trivial ?_
 refine vNil ?_
 change VC _ _ _ _
 refine vSeq ?_
 refine vRegion ?_
 refine oVal tt rfl rfl rfl rfl rfl trivial ?_
 obtain ⟨v1, hc1, h⟩ := bind_inv h
 refine oCallD 10 (I_AssurGroups_w N p_0 v1 hc1) rfl rfl rfl rfl rfl rfl rfl rfl rfl rfl rfl (fun _ h => by cases h) ⟨⟨rfl, rfl, rfl, trivial⟩, trivial⟩ ?_
 iterate 5 refine oVal tt rfl rfl rfl rfl rfl trivial ?_
 refine vNil ?_
 change VC _ _ _ _
 refine vSeq ?_
 refine vRegion ?_
 iterate 2 refine oVal tt rfl rfl rfl rfl rfl trivial ?_
 refine oSplit rfl rfl rfl (fun hb2 => ?_) (fun hb2 => ?_)
 ·replace h := cnd_t hb2 h
  iterate 3 refine oValG tt rfl rfl rfl rfl rfl hb2 rfl rfl rfl trivial ?_
  refine oPick rfl rfl rfl rfl rfl hb2 rfl ?_
  refine oVal tt rfl rfl rfl rfl rfl trivial ?_
  refine vNil ?_
  change VC _ _ _ _
  refine vRet ?_
  change ∃ _, _
  cases h
  exact ⟨[], _, rfl, trivial, rfl, (.eq rfl), rfl⟩
 ·replace h := cnd_f hb2 h
  iterate 3 refine oNoT rfl rfl rfl rfl hb2 rfl rfl ?_
  refine oPickF rfl rfl rfl rfl rfl hb2 rfl ?_
  refine oVal tt rfl rfl rfl rfl rfl trivial ?_
  refine vNil ?_
  change VC _ _ _ _
  refine vRet ?_
  change ∃ _, _
  cases h
  exact ⟨[], _, rfl, trivial, rfl, (.eq rfl), rfl⟩
end Go.Proofs.Ytmoamglpocjhgaa
namespace Go.Proofs.Ytmoamglpocjhgaa
variable {N : Nat}
theorem getD0_mem {l : List Int} {i : Nat} (h : i < l.length) : l.getD i 0 ∈ l := getD_mem h
def insC (m : Int → Int → Bool) (v : Int) : List (List Int) → List (List Int)
 | [] => [[v]]
 | g :: gs => if m v (g.getD 0 0) then (g ++ [v]) :: gs else g :: insC m v gs
def reps (m : Int → Int → Bool) (l : List Int) : List Int := l.filter fun v => (l.filter (m v)).getD 0 0 == v
def clsS (m : Int → Int → Bool) (l : List Int) : List (List Int) := (reps m l).map fun v => l.filter (m v)
structure Eqv (m : Int → Int → Bool) (l : List Int) : Prop where
 rf : ∀ a ∈ l, m a a = true
 sy : ∀ a b, m a b = true → m b a = true
 tr : ∀ a b c, b ∈ l → m a b = true → m b c = true → m a c = true
theorem getD_append {l : List Int} (h : l ≠ []) (r : List Int) : (l ++ r).getD 0 0 = l.getD 0 0 := by
 cases l with
 | nil => exact absurd rfl h
 | cons a l => rfl
theorem ins_map {m : Int → Int → Bool} {G : Int → List Int} {v : Int} : ∀ {rs : List Int}, (∀ u ∈ rs, (G u).getD 0 0 = u) → rs.Pairwise (fun a b => ¬ (m v a = true ∧ m v b = true)) → insC m v (rs.map G) = if rs.any (m v) then rs.map (fun u => G u ++ if m v u then [v] else []) else rs.map G ++ [[v]]
 | [], _, _ => rfl
 | r :: rs, h1, h2 => by
  have hp := List.pairwise_cons.1 h2
  have ih := ins_map (m := m) (G := G) (v := v) (rs := rs) (fun u hu => h1 u (by simp [hu])) hp.2
  rw [List.map_cons, insC, h1 r (by simp)]
  by_cases hm : m v r = true
  ·rw [if_pos hm]
   have : (r :: rs).any (m v) = true := by simp [hm]
   rw [if_pos this, List.map_cons, if_pos hm]
   congr 1
   refine List.map_congr_left fun u hu => ?_
   have : ¬ m v u = true := fun h => hp.1 u hu ⟨hm, h⟩
   rw [if_neg this, List.append_nil]
  ·rw [if_neg hm, ih]
   have e : (r :: rs).any (m v) = rs.any (m v) := by simp [hm]
   rw [e]
   by_cases ha : rs.any (m v) = true
   ·rw [if_pos ha, if_pos ha, List.map_cons, if_neg hm, List.append_nil]
   ·rw [if_neg ha, if_neg ha]; rfl
theorem filter_snoc {m : Int → Bool} (l : List Int) (v : Int) : (l ++ [v]).filter m = l.filter m ++ if m v then [v] else [] := by
 rw [List.filter_append]
 by_cases h : m v = true
 ·simp [h]
 ·simp [h]
theorem head_filter_mem {m : Int → Bool} {l : List Int} (h : l.filter m ≠ []) : (l.filter m).getD 0 0 ∈ l ∧ m ((l.filter m).getD 0 0) = true := by
 have := getD0_mem (l := l.filter m) (i := 0) (by cases hh : l.filter m with
  | nil => exact absurd hh h
  | cons a b => simp)
 exact List.mem_filter.1 this
theorem filter_ne {m : Int → Bool} {l : List Int} {a : Int} (ha : a ∈ l) (h : m a = true) : l.filter m ≠ [] := fun e => by
 have : a ∈ l.filter m := List.mem_filter.2 ⟨ha, h⟩
 rw [e] at this; cases this
theorem filter_congr' {m m' : Int → Bool} {l : List Int} (h : ∀ a ∈ l, m a = m' a) : l.filter m = l.filter m' := List.filter_congr h
theorem cls_same {m : Int → Int → Bool} {l : List Int} (E : Eqv m l) {a b : Int} (ha : a ∈ l) (hb : b ∈ l) (h : m a b = true) : l.filter (m a) = l.filter (m b) := filter_congr' fun x hx => by
 rw [Bool.eq_iff_iff]
 exact ⟨fun hx' => E.tr b a x ha (E.sy _ _ h) hx', fun hx' => E.tr a b x hb h hx'⟩
theorem reps_snoc {m : Int → Int → Bool} {l : List Int} {v : Int} (E : Eqv m (l ++ [v])) (hv : v ∉ l) : reps m (l ++ [v]) = reps m l ++ if l.any (m v) then [] else [v] := by
 unfold reps
 rw [List.filter_append]
 congr 1
 ·refine filter_congr' fun a ha => ?_
  rw [filter_snoc, getD_append (filter_ne ha (E.rf a (by simp [ha])))]
 ·rw [List.filter_cons, List.filter_nil]
  show (if ((((l ++ [v]).filter (m v)).getD 0 0) == v) = true then [v] else []) = _
  have hrf : m v v = true := E.rf v (by simp)
  have e1 : ((l ++ [v]).filter (m v)) = l.filter (m v) ++ [v] := by rw [filter_snoc, if_pos hrf]
  by_cases ha : l.any (m v) = true
  ·obtain ⟨a, ha1, ha2⟩ := List.any_eq_true.1 ha
   have hne := filter_ne ha1 ha2
   have hm := head_filter_mem hne
   have : ((((l ++ [v]).filter (m v)).getD 0 0) == v) = false := by
    rw [e1, getD_append hne, beq_eq_false_iff_ne]
    intro e; rw [e] at hm; exact hv hm.1
   rw [if_pos ha, this]; rfl
  ·have he : l.filter (m v) = [] := by
    rw [List.filter_eq_nil_iff]
    intro a ha1 ha2
    exact ha (List.any_eq_true.2 ⟨a, ha1, ha2⟩)
   have : ((((l ++ [v]).filter (m v)).getD 0 0) == v) = true := by rw [e1, he]; simp
   rw [if_neg ha, this]; rfl
theorem Eqv.pre {m : Int → Int → Bool} {l r : List Int} (E : Eqv m (l ++ r)) : Eqv m l := ⟨fun a ha => E.rf a (by simp [ha]), E.sy, fun a b c hb => E.tr a b c (by simp [hb])⟩
theorem reps_sub {m : Int → Int → Bool} {l : List Int} {u : Int} (h : u ∈ reps m l) : u ∈ l ∧ (l.filter (m u)).getD 0 0 = u := by
 have := List.mem_filter.1 h
 exact ⟨this.1, by simpa using this.2⟩
theorem reps_apart {m : Int → Int → Bool} {l : List Int} (E : Eqv m l) (nd : l.Nodup) : (reps m l).Pairwise fun a b => m a b = false := by
 have h1 : (reps m l).Nodup := nd.filter _
 refine List.Pairwise.imp_of_mem (R := fun a b => a ≠ b) (fun {a b} ha hb hab => ?_) h1
 have h2 := reps_sub ha; have h3 := reps_sub hb
 cases hm : m a b with
 | false => rfl
 | true =>
  have := cls_same E h2.1 h3.1 hm
  rw [this] at h2
  exact absurd (h2.2.symm.trans h3.2) hab
theorem cls_snoc {m : Int → Int → Bool} {l : List Int} {v : Int} (E : Eqv m (l ++ [v])) (nd : l.Nodup) (hv : v ∉ l) : clsS m (l ++ [v]) = insC m v (clsS m l) := by
 have El := E.pre
 have hr := reps_snoc E hv
 unfold clsS
 rw [hr]
 have hany : (reps m l).any (m v) = l.any (m v) := by
  rw [Bool.eq_iff_iff, List.any_eq_true, List.any_eq_true]
  constructor
  ·rintro ⟨a, ha, h⟩; exact ⟨a, (reps_sub ha).1, h⟩
  ·rintro ⟨a, ha, h⟩
   have hne := filter_ne ha (El.rf a ha)
   have hm := head_filter_mem hne
   refine ⟨(l.filter (m a)).getD 0 0, ?_, E.tr v a _ (by simp [ha]) h hm.2⟩
   refine List.mem_filter.2 ⟨hm.1, ?_⟩
   rw [cls_same El hm.1 ha (El.sy _ _ hm.2)]; simp
 rw [ins_map (rs := reps m l) (fun u hu => (reps_sub hu).2) (by
  refine List.Pairwise.imp_of_mem (R := fun a b => m a b = false) (fun {a b} ha hb hab => ?_) (reps_apart El nd)
  rintro ⟨h1, h2⟩
  have := E.tr a v b (by simp) (E.sy _ _ h1) h2
  rw [hab] at this; cases this), hany]
 by_cases ha : l.any (m v) = true
 ·rw [if_pos ha, if_pos ha, List.append_nil]
  refine List.map_congr_left fun u hu => ?_
  rw [filter_snoc]
  congr 2
  rw [eq_iff_iff]; exact ⟨E.sy _ _, E.sy _ _⟩
 ·rw [if_neg ha, if_neg ha, List.map_append]
  have hno : ∀ a ∈ l, ¬ m v a = true := fun a ha1 h => ha (List.any_eq_true.2 ⟨a, ha1, h⟩)
  congr 1
  ·refine List.map_congr_left fun u hu => ?_
   rw [filter_snoc, if_neg (fun h => hno u (reps_sub hu).1 (E.sy _ _ h)), List.append_nil]
  ·rw [List.map_cons, List.map_nil, filter_snoc, if_pos (E.rf v (by simp))]
   have he : l.filter (m v) = [] := by
    rw [List.filter_eq_nil_iff]; exact hno
   rw [he]; rfl
def mt (p : Pin) (ow : List Int) (a b : Int) : Bool := dp p ow a.toNat b.toNat && dp p ow b.toNat a.toNat
theorem inner_in {p : Pin} (hp : isPinned p = true) {v : Int} (h : v ∈ innerPts p) : isIn p v = true := by
 have := innerPts_mem hp v
 rw [← this]; simpa using h
theorem inner_nd (p : Pin) : (innerPts p).Nodup := by
 unfold innerPts
 cases isPinned p with
 | false => exact List.nodup_nil
 | true =>
  rw [cnd_true, inner_outside]
  unfold outside
  refine List.Pairwise.filter _ (List.Pairwise.map _ (fun a b h => ?_) List.nodup_range)
  exact fun e => h (Int.ofNat.inj e)
theorem mt_eqv {p : Pin} (hp : isPinned p = true) (ow : List Int) {l : List Int} (h : ∀ v ∈ l, isIn p v = true) : Eqv (mt p ow) l :=
 ⟨fun a ha => by unfold mt; rw [dp_self ow (h a ha)]; rfl, fun a b hab => by unfold mt at *; rw [Bool.and_comm]; exact hab, fun a b c hb h1 h2 => by
  have := isIn_rg (h b hb)
  unfold mt at *
  simp only [Bool.and_eq_true] at *
  exact ⟨dp_trans ow (by omega) h1.1 h2.1, dp_trans ow (by omega) h2.2 h1.2⟩⟩
theorem inner_len {p : Pin} (hp : isPinned p = true) : (innerPts p).length ≤ 8 := by
 have hbd := isPinned_bd hp
 have := outside_len p.ground p.g.n.toNat
 unfold innerPts; rw [hp, cnd_true, inner_outside]; omega
theorem reachL_has {p : Pin} (ow : List Int) (v : Int) {u : Int} (hu : isIn p u = true) : (reachL p ow v).contains u = dp p ow v.toNat u.toNat := by
 have hr := isIn_rg hu
 have e : ((u.toNat : Nat) : Int) = u := by omega
 have := sel_has (q := fun u => dp p ow v.toNat u) (i := p.g.n.toNat) (j := u.toNat) (by omega)
 rw [e] at this
 exact this
theorem take_snoc {l : List Int} {i : Nat} (h : i < l.length) : l.take (i + 1) = l.take i ++ [l.getD i 0] := by
 rw [List.take_add_one, List.getElem?_eq_getElem h, List.getD_eq_getElem?_getD, List.getElem?_eq_getElem h]; rfl
theorem groups2_s (hN : 4000000 ≤ N) {p : Pin} (hp : isPinned p = true) {ow : List Int} (hl : ow.length = p.g.bars.length) (ho : Own p 0 ow) {i : Nat} (hi : i < (innerPts p).length) (kk : List Int → Option (List (List Int) × Bool)) :
  S_AssurGroups_l2 N p (ow, true) (innerPts p) (i : Int) kk N (([] : List Int), (0 : Int)) = kk ((innerPts p).filter (mt p ow ((innerPts p).getD i 0))) := by
 have hil := inner_len hp
 have ei : ((i : Int)).toNat = i := by omega
 have hv := inner_in hp (getD0_mem hi)
 refine fold (N := N) (len := (innerPts p).length) (st := fun j => ((innerPts p).take j).filter (mt p ow ((innerPts p).getD i 0))) (F := fun m s => S_AssurGroups_l2 N p (ow, true) (innerPts p) (i : Int) kk m s) (by omega) (fun m j hj => ?_) fun m => ?_
 ·show S_AssurGroups_l2 N p (ow, true) (innerPts p) (i : Int) kk (m + 1) (((innerPts p).take j).filter (mt p ow ((innerPts p).getD i 0)), (j : Int)) = S_AssurGroups_l2 N p (ow, true) (innerPts p) (i : Int) kk m (((innerPts p).take (j + 1)).filter (mt p ow ((innerPts p).getD i 0)), ((j + 1 : Nat) : Int))
  have ej : ((j : Int)).toNat = j := by omega
  have hu := inner_in hp (getD0_mem hj)
  have hfl : (((innerPts p).take j).filter (mt p ow ((innerPts p).getD i 0))).length ≤ j := Nat.le_trans (List.length_filter_le _ _) (by rw [List.length_take]; omega)
  have hr1 := reachL_len hp ow ((innerPts p).getD i 0)
  have hr2 := reachL_len hp ow ((innerPts p).getD j 0)
  rw [take_snoc hj, filter_snoc]
  rw [S_AssurGroups_l2, cnd_dt (by omega), grd_pos (by omega), ei, ej, reach_s hN hp hl ho hv, Option.bind_some, grd_pos (by omega), l2Has_s N hN (by omega), Option.bind_some, reachL_has ow _ hu, reach_s hN hp hl ho hu, Option.bind_some, l2Has_s N hN (by omega), Option.bind_some, reachL_has ow _ hv, grd_pos (by omega), grd_R (by omega) (by omega), grd_R (by omega) (by omega), succ_cast]
  have e : mt p ow ((innerPts p).getD i 0) ((innerPts p).getD j 0) = (dp p ow ((innerPts p).getD i 0).toNat ((innerPts p).getD j 0).toNat && dp p ow ((innerPts p).getD j 0).toNat ((innerPts p).getD i 0).toNat) := rfl
  rw [e]
  cases dp p ow ((innerPts p).getD i 0).toNat ((innerPts p).getD j 0).toNat <;> cases dp p ow ((innerPts p).getD j 0).toNat ((innerPts p).getD i 0).toNat <;> simp [cnd]
 ·show S_AssurGroups_l2 N p (ow, true) (innerPts p) (i : Int) kk (m + 1) (((innerPts p).take (innerPts p).length).filter (mt p ow ((innerPts p).getD i 0)), ((innerPts p).length : Int)) = _
  rw [S_AssurGroups_l2, cnd_df (by omega), List.take_length]
def outG (m : Int → Int → Bool) (l : List Int) (i : Nat) : List (List Int) := ((l.take i).filter fun v => (l.filter (m v)).getD 0 0 == v).map fun v => l.filter (m v)
theorem outG_len (m : Int → Int → Bool) (l : List Int) (i : Nat) : (outG m l i).length ≤ i := by
 unfold outG
 rw [List.length_map]
 exact Nat.le_trans (List.length_filter_le _ _) (by rw [List.length_take]; omega)
theorem groupsS_s (hN : 4000000 ≤ N) {p : Pin} (hp : isPinned p = true) {ow : List Int} (hl : ow.length = p.g.bars.length) (ho : Own p 0 ow) (kk : List (List Int) → Option (List (List Int) × Bool)) :
  S_AssurGroups_l1 N p (ow, true) (innerPts p) kk N (([] : List (List Int)), (0 : Int)) = kk (clsS (mt p ow) (innerPts p)) := by
 have hil := inner_len hp
 refine fold (N := N) (len := (innerPts p).length) (st := fun j => outG (mt p ow) (innerPts p) j) (F := fun m s => S_AssurGroups_l1 N p (ow, true) (innerPts p) kk m s) (by omega) (fun m i hi => ?_) fun m => ?_
 ·show S_AssurGroups_l1 N p (ow, true) (innerPts p) kk (m + 1) (outG (mt p ow) (innerPts p) i, (i : Int)) = S_AssurGroups_l1 N p (ow, true) (innerPts p) kk m (outG (mt p ow) (innerPts p) (i + 1), ((i + 1 : Nat) : Int))
  have hv := getD0_mem hi
  have hne := filter_ne (m := mt p ow ((innerPts p).getD i 0)) hv ((mt_eqv hp ow fun v h => inner_in hp h).rf _ hv)
  have hpos : 0 < ((innerPts p).filter (mt p ow ((innerPts p).getD i 0))).length := List.length_pos_iff.2 hne
  have ei : ((i : Int)).toNat = i := by omega
  have hol := outG_len (mt p ow) (innerPts p) i
  rw [S_AssurGroups_l1, cnd_dt (by omega)]
  show cnd true _ _ = _
  rw [cnd_true, groups2_s hN hp hl ho hi]
  show grd _ (grd _ (cnd _ _ _)) = _
  rw [grd_pos (by omega), grd_pos (by omega), grd_pos (by omega), grd_R (by omega) (by omega), grd_R (by omega) (by omega), ei, succ_cast]
  have e : outG (mt p ow) (innerPts p) (i + 1) = cnd (((innerPts p).filter (mt p ow ((innerPts p).getD i 0))).getD 0 0 == (innerPts p).getD i 0) (outG (mt p ow) (innerPts p) i ++ [(innerPts p).filter (mt p ow ((innerPts p).getD i 0))]) (outG (mt p ow) (innerPts p) i) := by
   unfold outG
   rw [take_snoc hi, filter_snoc]
   cases (((innerPts p).filter (mt p ow ((innerPts p).getD i 0))).getD 0 0 == (innerPts p).getD i 0) <;> simp [cnd]
  rw [e]
  show cnd (((innerPts p).filter (mt p ow ((innerPts p).getD i 0))).getD 0 0 == (innerPts p).getD i 0) _ _ = _
  cases (((innerPts p).filter (mt p ow ((innerPts p).getD i 0))).getD 0 0 == (innerPts p).getD i 0) <;> rfl
 ·show S_AssurGroups_l1 N p (ow, true) (innerPts p) kk (m + 1) (outG (mt p ow) (innerPts p) (innerPts p).length, ((innerPts p).length : Int)) = _
  rw [S_AssurGroups_l1, cnd_df (by omega)]
  unfold outG
  rw [List.take_length]; rfl
theorem groupsI2_s (hN : 4000000 ≤ N) {p : Pin} (hp : isPinned p = true) {ow : List Int} {i : Nat} (hi : i < (innerPts p).length) (kk : (List (List Int)) × Bool → Option (List (List Int) × Bool)) {L : List (List Int)} (hLl : L.length ≤ 8) (hne : ∀ g ∈ L, g ≠ [] ∧ (∀ v ∈ g, isIn p v = true) ∧ g.length ≤ 8) : ∀ (fuel j : Nat), j ≤ L.length → L.length < fuel + j →
  I_AssurGroups_l2 N (mat p.g.n.toNat (dp p ow), true) (innerPts p) L L.length (i : Int) kk fuel (j : Int) = cnd ((L.drop j).any fun g => mt p ow ((innerPts p).getD i 0) (g.getD 0 0)) (kk (L.take j ++ insC (mt p ow) ((innerPts p).getD i 0) (L.drop j), true)) (kk (L, false)) := by
 have hil := inner_len hp
 have ei : ((i : Int)).toNat = i := by omega
 have hv := isIn_rg (inner_in hp (getD0_mem hi))
 intro fuel
 induction fuel with
 | zero => intro j h1 h2; omega
 | succ fuel ih =>
  intro j h1 h2
  rw [I_AssurGroups_l2]
  by_cases hj : j < L.length
  ·have ej : ((j : Int)).toNat = j := by omega
   have hgm : L.getD j [] ∈ L := by rw [List.getD_eq_getElem?_getD, List.getElem?_eq_getElem hj]; exact List.getElem_mem hj
   obtain ⟨g1, g2, g3⟩ := hne _ hgm
   have hpos : 0 < (L.getD j []).length := List.length_pos_iff.2 g1
   have hh := isIn_rg (g2 _ (getD0_mem hpos))
   have hdrop : L.drop j = L.getD j [] :: L.drop (j + 1) := by
    rw [List.drop_eq_getElem_cons hj, List.getD_eq_getElem?_getD, List.getElem?_eq_getElem hj]; rfl
   have htake : L.take (j + 1) = L.take j ++ [L.getD j []] := by
    rw [List.take_add_one, List.getElem?_eq_getElem hj, List.getD_eq_getElem?_getD, List.getElem?_eq_getElem hj]; rfl
   have hset : L.set j (L.getD j [] ++ [(innerPts p).getD i 0]) = L.take j ++ (L.getD j [] ++ [(innerPts p).getD i 0]) :: L.drop (j + 1) := by
    rw [List.set_eq_take_append_cons_drop, if_pos hj]
   have hz : ((0 : Int)).toNat = 0 := rfl
   rw [cnd_dt (by omega)]
   show grd _ (grd _ (grd (0 ≤ _ ∧ _ < ((mat p.g.n.toNat (dp p ow)).length : Int)) (grd _ (grd (0 ≤ _ ∧ _ < (((mat p.g.n.toNat (dp p ow)).getD _ []).length : Int)) (cnd (((mat p.g.n.toNat (dp p ow)).getD _ []).getD _ false) (grd (0 ≤ _ ∧ _ < ((mat p.g.n.toNat (dp p ow)).length : Int)) (grd (0 ≤ _ ∧ _ < (((mat p.g.n.toNat (dp p ow)).getD _ []).length : Int)) (cnd (((mat p.g.n.toNat (dp p ow)).getD _ []).getD _ false) _ _))) _))))) = _
   rw [ei, ej, hz, mat_len, mat_rowlen _ (by omega), mat_rowlen _ (by omega), mat_get _ (by omega) (by omega), mat_get _ (by omega) (by omega), grd_pos (by omega), grd_pos (by omega), grd_pos (by omega), grd_pos (by omega), grd_pos (by omega), grd_pos (by omega), grd_pos (by omega), grd_pos (by omega), grd_R (by omega) (by omega), succ_cast, ih (j + 1) (by omega) (by omega), hset, hdrop, insC, List.any_cons, htake]
   have em : mt p ow ((innerPts p).getD i 0) ((L.getD j []).getD 0 0) = (dp p ow ((innerPts p).getD i 0).toNat ((L.getD j []).getD 0 0).toNat && dp p ow ((L.getD j []).getD 0 0).toNat ((innerPts p).getD i 0).toNat) := rfl
   rw [em]
   cases dp p ow ((innerPts p).getD i 0).toNat ((L.getD j []).getD 0 0).toNat <;> cases dp p ow ((L.getD j []).getD 0 0).toNat ((innerPts p).getD i 0).toNat <;> simp [cnd]
  ·obtain rfl : j = L.length := by omega
   rw [cnd_df (by omega), List.drop_length]; rfl
theorem ins_none {m : Int → Int → Bool} {v : Int} : ∀ {L : List (List Int)}, (L.any fun g => m v (g.getD 0 0)) = false → insC m v L = L ++ [[v]]
 | [], _ => rfl
 | g :: gs, h => by
  rw [List.any_cons, Bool.or_eq_false_iff] at h
  rw [insC, h.1, ins_none h.2]; rfl
theorem ins_some {m : Int → Int → Bool} {v : Int} : ∀ {L : List (List Int)}, (L.any fun g => m v (g.getD 0 0)) = true → (insC m v L).length = L.length
 | [], h => by cases h
 | g :: gs, h => by
  rw [List.any_cons, Bool.or_eq_true] at h
  rw [insC]
  split
  ·rfl
  ·rename_i hn
   rw [List.length_cons, List.length_cons, ins_some (h.resolve_left hn)]
theorem clsS_facts {p : Pin} (ow : List Int) {l : List Int} (h : ∀ v ∈ l, isIn p v = true) (E : Eqv (mt p ow) l) : (clsS (mt p ow) l).length ≤ l.length ∧ ∀ g ∈ clsS (mt p ow) l, g ≠ [] ∧ (∀ v ∈ g, isIn p v = true) ∧ g.length ≤ l.length := by
 unfold clsS
 refine ⟨by rw [List.length_map]; exact List.length_filter_le _ _, fun g hg => ?_⟩
 obtain ⟨u, hu, rfl⟩ := List.mem_map.1 hg
 have := (reps_sub hu).1
 exact ⟨filter_ne this (E.rf u this), fun v hv => h v (List.mem_filter.1 hv).1, List.length_filter_le _ _⟩
theorem groupsI_s (hN : 4000000 ≤ N) {p : Pin} (hp : isPinned p = true) {ow : List Int} (kk : (List (List Int)) × Nat → Option (List (List Int) × Bool)) :
  I_AssurGroups_l1 N (mat p.g.n.toNat (dp p ow), true) (innerPts p) kk N (([] : List (List Int)), 0, (0 : Int)) = kk (clsS (mt p ow) (innerPts p), (clsS (mt p ow) (innerPts p)).length) := by
 have hil := inner_len hp
 have key : ∀ (fuel i : Nat), i ≤ (innerPts p).length → (innerPts p).length < fuel + i → I_AssurGroups_l1 N (mat p.g.n.toNat (dp p ow), true) (innerPts p) kk fuel (clsS (mt p ow) ((innerPts p).take i), (clsS (mt p ow) ((innerPts p).take i)).length, (i : Int)) = kk (clsS (mt p ow) (innerPts p), (clsS (mt p ow) (innerPts p)).length) := by
  intro fuel
  induction fuel with
  | zero => intro i h1 h2; omega
  | succ fuel ih =>
   intro i h1 h2
   rw [I_AssurGroups_l1]
   by_cases hi : i < (innerPts p).length
   ·have hall : ∀ v ∈ (innerPts p).take (i + 1), isIn p v = true := fun v hv => inner_in hp (List.mem_of_mem_take hv)
    have E := mt_eqv hp ow hall
    have hnd : ((innerPts p).take (i + 1)).Nodup := (inner_nd p).sublist (List.take_sublist _ _)
    have hs := take_snoc hi
    rw [hs] at E hnd hall
    have hnd2 := List.nodup_append.1 hnd
    have hcs := cls_snoc E hnd2.1 (fun h => hnd2.2.2 _ h _ (by simp) rfl)
    have hf := clsS_facts ow (fun v hv => hall v (by simp [hv])) E.pre
    have hln : ((innerPts p).take i).length ≤ 8 := by rw [List.length_take]; omega
    have ei : ((i : Int)).toNat = i := by omega
    have nx := ih (i + 1) (by omega) (by omega)
    rw [hs, hcs] at nx
    rw [cnd_dt (by omega), grd_pos (by omega)]
    refine (groupsI2_s hN hp hi _ (by omega) (fun g hg => ⟨(hf.2 g hg).1, (hf.2 g hg).2.1, by have := (hf.2 g hg).2.2; omega⟩) N 0 (by omega) (by omega)).trans ?_
    rw [List.drop_zero, List.take_zero, List.nil_append, ei]
    cases ha : ((clsS (mt p ow) ((innerPts p).take i)).any fun g => mt p ow ((innerPts p).getD i 0) (g.getD 0 0)) with
    | true =>
     rw [cnd_true]
     show cnd (!true) _ _ = _
     rw [Bool.not_true, cnd_false, grd_R (by omega) (by omega), succ_cast, ← ins_some ha]
     exact nx
    | false =>
     rw [cnd_false]
     show cnd (!false) _ _ = _
     rw [Bool.not_false, cnd_true, grd_pos rfl, grd_pos (by omega), grd_R (by omega) (by omega), succ_cast, ← ins_none ha]
     exact nx
   ·obtain rfl : i = (innerPts p).length := by omega
    rw [cnd_df (by omega), List.take_length]
 exact key N 0 (by omega) (by omega)
theorem groups_y (hN : 4000000 ≤ N) {p : Pin} (hb : p.g.bars.length ≤ 3000000) (hg : p.ground.length ≤ 3000000) : ∃ (ow : List Int) (b : Bool), S_OwnersOf N p = some (ow, b) ∧ I_OwnersOf N p = some (ow, b) ∧ (b = true → isPinned p = true ∧ ow.length = p.g.bars.length ∧ Own p 0 ow) ∧
  S_AssurGroups N p = some (cnd b (clsS (mt p ow) (innerPts p)) [], b) ∧ I_AssurGroups N p = some (cnd b (clsS (mt p ow) (innerPts p)) [], b) := by
 obtain ⟨ow, b, hlen, hS, hI, h0, hf⟩ := owners_y (N := N) hN hb hg
 refine ⟨ow, b, hS, hI, hf, ?_, ?_⟩
 ·unfold S_AssurGroups
  rw [hS, Option.bind_some, innerS_s N hN hb hg, Option.bind_some]
  cases b with
  | false =>
   have hil : (innerPts p).length ≤ 3000000 ∨ True := .inr trivial
   obtain ⟨M, rfl⟩ : ∃ M, N = M + 1 := ⟨N - 1, by omega⟩
   rw [S_AssurGroups_l1]
   by_cases h : (0 : Int) < ((innerPts p).length : Int)
   ·rw [cnd_dt h]; rfl
   ·rw [cnd_df h]; rfl
  | true =>
   obtain ⟨hp, hl, ho⟩ := hf rfl
   rw [groupsS_s hN hp hl ho]; rfl
 ·unfold I_AssurGroups
  rw [dependence_x hN hI hf, Option.bind_some]
  cases b with
  | false => rfl
  | true =>
   obtain ⟨hp, hl, ho⟩ := hf rfl
   show cnd (!true) _ _ = _
   rw [Bool.not_true, cnd_false, innerI_s N hN hb hg, Option.bind_some, cnd_true]
   show I_AssurGroups_l1 N (mat p.g.n.toNat (dp p ow), true) (innerPts p) _ N (([] : List (List Int)), 0, (0 : Int)) = _
   rw [groupsI_s hN hp]
   show grd _ _ = _
   rw [grd_pos rfl]; rfl
theorem clsG_bd {p : Pin} (ow : List Int) (b : Bool) (hf : b = true → isPinned p = true) : (cnd b (clsS (mt p ow) (innerPts p)) []).length ≤ 8 ∧ ∀ g ∈ (cnd b (clsS (mt p ow) (innerPts p)) []), g.length ≤ 8 := by
 cases b with
 | false => exact ⟨by simp [cnd], fun g hg => by cases hg⟩
 | true =>
  have hp := hf rfl
  have hil := inner_len hp
  have := clsS_facts ow (fun v hv => inner_in hp hv) (mt_eqv hp ow fun v hv => inner_in hp hv)
  exact ⟨by rw [cnd_true]; omega, fun g hg => by rw [cnd_true] at hg; have := (this.2 g hg).2.2; omega⟩
theorem groups_x (hN : 4000000 ≤ N) {p : Pin} (hb : p.g.bars.length ≤ 3000000) (hg : p.ground.length ≤ 3000000) : ∃ (r : List (List Int)) (b : Bool), r.length ≤ 8 ∧ (∀ g ∈ r, g.length ≤ 8) ∧ S_AssurGroups N p = some (r, b) ∧ I_AssurGroups N p = some (r, b) := by
 obtain ⟨ow, b, _, _, hf, h1, h2⟩ := groups_y (N := N) hN hb hg
 have h3 := clsG_bd (p := p) ow b fun h => (hf h).1
 exact ⟨_, b, h3.1, h3.2, h1, h2⟩
theorem isGroup_x (hN : 4000000 ≤ N) {p : Pin} (hb : p.g.bars.length ≤ 3000000) (hg : p.ground.length ≤ 3000000) : ∃ b : Bool, S_IsAssurGroup N p = some b ∧ I_IsAssurGroup N p = some b := by
 obtain ⟨r, b, _, _, h1, h2⟩ := groups_x (N := N) hN hb hg
 unfold S_IsAssurGroup I_IsAssurGroup
 rw [h1, h2, Option.bind_some]
 cases b with
 | false => exact ⟨false, rfl, rfl⟩
 | true => exact ⟨_, rfl, rfl⟩
end Go.Proofs.Ytmoamglpocjhgaa
namespace Go.Proofs.Ytmoamglpocjhgaa
open Go.RowKit
def L_FnExactIsAssurGroup (N : Nat) (aP_0 : Pin) : Option (Bool) :=
 (L_szPinned N aP_0 (1048576 : Int)).bind fun v1 =>
 cnd (decide (v1 < (0 : Int))) (
  some true) (
  (L_toPinned N aP_0).bind fun v2 =>
  (S_IsAssurGroup N v2).bind fun v3 =>
  (L_toPinned N aP_0).bind fun v4 =>
  (I_IsAssurGroup N v4).bind fun v5 =>
  cnd (v5 != v3) (
   some false) (
   (L_toPinned N aP_0).bind fun v6 =>
   (L_eqPinned N v4 v6).bind fun v7 =>
   cnd (!v7) (
    some false) (
    some true)))
set_option maxRecDepth 20000 in
set_option maxHeartbeats 1600000 in
theorem L_FnExactIsAssurGroup_w (N : Nat) (aP_0 : Pin) (r : Bool) (h : L_FnExactIsAssurGroup N aP_0 = some r) : PCall Try.prog 4 [pD aP_0] [] (.bool r) := by
 unfold L_FnExactIsAssurGroup at h
 refine pcall_intro (TT := TT) tt Try.func4 rfl rfl Try.ntmps4 (congrArg Array.toList Try.results4) rfl rfl fun w0 => ?_
 refine vSeq ?_
 refine vRegion ?_
 refine oBox rfl rfl rfl rfl rfl rfl rfl rfl rfl ?_
 refine oVal tt rfl rfl rfl rfl rfl trivial ?_
 refine vNil ?_
 change VC _ _ _ _
 refine vSeq ?_
 refine vRegion ?_
 refine oVal tt rfl rfl rfl rfl rfl trivial ?_
 refine vNil ?_
 change VC _ _ _ _
 refine vSeq ?_
 refine vRegion ?_
 iterate 2 refine oVal tt rfl rfl rfl rfl rfl trivial ?_
 obtain ⟨v1, hc1, h⟩ := bind_inv h
 refine oCall (L_szPinned_w N aP_0 (1048576 : Int) v1 hc1) rfl rfl rfl rfl rfl rfl rfl rfl ⟨⟨rfl, rfl, rfl, trivial⟩, rfl, trivial⟩ ?_
 refine oVal tt rfl rfl rfl rfl rfl trivial ?_
 refine vNil ?_
 change VC _ _ _ _
 iterate 2 refine vSeq ?_
 refine vRegion ?_
 iterate 2 refine oVal tt rfl rfl rfl rfl rfl trivial ?_
 refine vNil ?_
 change VC _ _ _ _
 refine vCond rfl (fun hb2 => ?_) (fun hb2 => ?_)
 ·replace h := cnd_t hb2 h
  refine vSeq ?_
  refine vRegion ?_
  refine oVal tt rfl rfl rfl rfl rfl trivial ?_
  refine vNil ?_
  change VC _ _ _ _
  refine vRet ?_
  change ∃ _, _
  cases h
  exact ⟨[], _, rfl, trivial, rfl, (.eq rfl), rfl⟩
 ·replace h := cnd_f hb2 h
  refine vSkip ?_
  change VC _ _ _ _
  refine vSeq ?_
  refine vRegion ?_
  refine oVal tt rfl rfl rfl rfl rfl trivial ?_
  obtain ⟨v2, hc3, h⟩ := bind_inv h
  refine oCall (L_toPinned_w N aP_0 v2 hc3) rfl rfl rfl rfl rfl rfl rfl rfl ⟨⟨rfl, rfl, rfl, trivial⟩, trivial⟩ ?_
  obtain ⟨v3, hc4, h⟩ := bind_inv h
  refine oCall (S_IsAssurGroup_w N v2 v3 hc4) rfl rfl rfl rfl rfl rfl rfl rfl ⟨⟨rfl, (.inl ⟨rfl, rfl⟩), (.inl ⟨rfl, rfl⟩), trivial⟩, trivial⟩ ?_
  refine oVal tt rfl rfl rfl rfl rfl trivial ?_
  refine vNil ?_
  change VC _ _ _ _
  refine vSeq ?_
  refine vRegion ?_
  refine oVal tt rfl rfl rfl rfl rfl trivial ?_
  obtain ⟨v4, hc5, h⟩ := bind_inv h
  refine oCall (L_toPinned_w N aP_0 v4 hc5) rfl rfl rfl rfl rfl rfl rfl rfl ⟨⟨rfl, rfl, rfl, trivial⟩, trivial⟩ ?_
  refine oAlloc tt rfl rfl rfl rfl rfl rfl rfl rfl rfl ?_
  refine oStore tt rfl rfl rfl rfl rfl rfl rfl rfl rfl rfl rfl ⟨trivial, trivial, trivial, trivial⟩ ?_
  refine vNil ?_
  change VC _ _ _ _
  refine vSeq ?_
  refine vRegion ?_
  refine oVal tt rfl rfl rfl rfl rfl trivial ?_
  obtain ⟨v5, hc6, h⟩ := bind_inv h
  refine oCall (I_IsAssurGroup_w N v4 v5 hc6) rfl rfl rfl rfl rfl rfl rfl rfl ⟨⟨rfl, (.inl ⟨rfl, rfl⟩), (.inl ⟨rfl, rfl⟩), trivial⟩, trivial⟩ ?_
  refine oVal tt rfl rfl rfl rfl rfl trivial ?_
  refine vNil ?_
  change VC _ _ _ _
  iterate 2 refine vSeq ?_
  refine vRegion ?_
  iterate 2 refine oVal tt rfl rfl rfl rfl rfl trivial ?_
  refine oPure (wNone rfl) (pNeB Try.underlying4 rfl rfl rfl) rfl rfl ?_
  refine vNil ?_
  change VC _ _ _ _
  refine vCond rfl (fun hb7 => ?_) (fun hb7 => ?_)
  ·replace h := cnd_t hb7 h
   refine vSeq ?_
   refine vRegion ?_
   refine oVal tt rfl rfl rfl rfl rfl trivial ?_
   refine vNil ?_
   change VC _ _ _ _
   refine vRet ?_
   change ∃ _, _
   cases h
   exact ⟨[], _, rfl, trivial, rfl, (.eq rfl), rfl⟩
  ·replace h := cnd_f hb7 h
   refine vSkip ?_
   change VC _ _ _ _
   iterate 2 refine vSeq ?_
   refine vRegionN 3 [2] [0, 0, 2, 7, 15] (by kernel_rfl) (by kernel_rfl) (by kernel_rfl) (by kernel_rfl) (by kernel_rfl) rfl (by rfl) ?_
   iterate 2 refine nVal tt rfl (wNone rfl) rfl rfl rfl rfl rfl trivial ?_
   obtain ⟨v6, hc8, h⟩ := bind_inv h
   refine nCallR (L_toPinned_w N aP_0 v6 hc8) rfl (wNone rfl) rfl rfl rfl rfl rfl rfl (by first | rfl | kernel_rfl | (simp [nrL, nm, gdst, nmT, rowB]; done)) rfl (by first | rfl | kernel_rfl | (simp [chkE, nrL, nm, gdst, nmT, rowB, hid, ment, mentA, mentS]; done) | (simp [chkE, nrL, nm, gdst, nmT, rowB, hid, ment, mentA, mentS]; decide)) ⟨⟨rfl, rfl, rfl, trivial⟩, trivial⟩ ?_
   refine nNil ?_
   change VO _ _ _ _ _
   obtain ⟨v7, hc9, h⟩ := bind_inv h
   refine oCall (L_eqPinned_w N v4 v6 v7 hc9) rfl rfl rfl rfl rfl rfl rfl rfl ⟨⟨rfl, (.inl ⟨rfl, rfl⟩), (.inl ⟨rfl, rfl⟩), trivial⟩, ⟨rfl, (.inl ⟨rfl, rfl⟩), (.inl ⟨rfl, rfl⟩), trivial⟩, trivial⟩ ?_
   refine oVal tt rfl rfl rfl rfl rfl trivial ?_
   refine vNil ?_
   change VC _ _ _ _
   refine vCond rfl (fun hb10 => ?_) (fun hb10 => ?_)
   ·replace h := cnd_t hb10 h
    refine vSeq ?_
    refine vRegion ?_
    refine oVal tt rfl rfl rfl rfl rfl trivial ?_
    refine vNil ?_
    change VC _ _ _ _
    refine vRet ?_
    change ∃ _, _
    cases h
    exact ⟨[], _, rfl, trivial, rfl, (.eq rfl), rfl⟩
   ·replace h := cnd_f hb10 h
    refine vSkip ?_
    change VC _ _ _ _
    refine vSeq ?_
    refine vRegion ?_
    refine oVal tt rfl rfl rfl rfl rfl trivial ?_
    refine vNil ?_
    change VC _ _ _ _
    refine vRet ?_
    change ∃ _, _
    cases h
    exact ⟨[], _, rfl, trivial, rfl, (.eq rfl), rfl⟩
end Go.Proofs.Ytmoamglpocjhgaa
namespace Go.Proofs.Ytmoamglpocjhgaa
open Go.RowKit
def L_FnExactDependsOn (N : Nat) (aP_0 : Pin) (aV_1 : Int) : Option (Bool) :=
 (L_szPinned N aP_0 (1048576 : Int)).bind fun v1 =>
 cnd (decide (v1 < (0 : Int))) (
  some true) (
  (L_toPinned N aP_0).bind fun v2 =>
  (S_DependsOn N v2 aV_1).bind fun v3 =>
  (L_toPinned N aP_0).bind fun v4 =>
  (I_DependsOn N v4 aV_1).bind fun v5 =>
  (L_eqIntS N v5 v3).bind fun v6 =>
  cnd (!v6) (
   some false) (
   (L_toPinned N aP_0).bind fun v7 =>
   (L_eqPinned N v4 v7).bind fun v8 =>
   cnd (!v8) (
    some false) (
    (L_markPinned N (⟨⟨v4.g.n, v4.g.bars⟩, v4.ground⟩ : Pin) (1 : Int)).bind fun v9 =>
    cnd (decide (v9.1 < (0 : Int))) (
     some false) (
     (L_eqIntS N v5 v3).bind fun v10 =>
     cnd (!v10) (
      some false) (
      (L_markIntS N v5 (1 : Int)).bind fun v11 =>
      grd (v5.length = v11.2.length) <|
      (L_heldIntS N v11.2 (1 : Int)).bind fun v12 =>
      cnd (decide (v12 < (0 : Int))) (
       some false) (
       cnd (v12 != v11.1) (
        some false) (
        (L_toPinned N aP_0).bind fun v13 =>
        (I_DependsOn N v13 aV_1).bind fun v14 =>
        (L_eqIntS N v14 v3).bind fun v15 =>
        cnd (!v15) (
         some false) (
         (L_heldIntS N v11.2 (1 : Int)).bind fun v16 =>
         cnd (decide (v16 < (0 : Int))) (
          some false) (
          cnd (v16 != v11.1) (
           some false) (
           some true))))))))))
set_option maxRecDepth 20000 in
set_option maxHeartbeats 1600000 in
theorem L_FnExactDependsOn_w (N : Nat) (aP_0 : Pin) (aV_1 : Int) (r : Bool) (h : L_FnExactDependsOn N aP_0 aV_1 = some r) : PCall Try.prog 5 [pD aP_0, .int aV_1] [] (.bool r) := by
 unfold L_FnExactDependsOn at h
 refine pcall_intro (TT := TT) tt Try.func5 rfl rfl Try.ntmps5 (congrArg Array.toList Try.results5) rfl rfl fun w0 => ?_
 refine vSeq ?_
 refine vRegion ?_
 refine oBox rfl rfl rfl rfl rfl rfl rfl rfl rfl ?_
 refine oVal tt rfl rfl rfl rfl rfl trivial ?_
 refine vNil ?_
 change VC _ _ _ _
 refine vSeq ?_
 refine vRegion ?_
 refine oVal tt rfl rfl rfl rfl rfl trivial ?_
 refine vNil ?_
 change VC _ _ _ _
 refine vSeq ?_
 refine vRegion ?_
 iterate 2 refine oVal tt rfl rfl rfl rfl rfl trivial ?_
 obtain ⟨v1, hc1, h⟩ := bind_inv h
 refine oCall (L_szPinned_w N aP_0 (1048576 : Int) v1 hc1) rfl rfl rfl rfl rfl rfl rfl rfl ⟨⟨rfl, rfl, rfl, trivial⟩, rfl, trivial⟩ ?_
 refine oVal tt rfl rfl rfl rfl rfl trivial ?_
 refine vNil ?_
 change VC _ _ _ _
 iterate 2 refine vSeq ?_
 refine vRegion ?_
 iterate 2 refine oVal tt rfl rfl rfl rfl rfl trivial ?_
 refine vNil ?_
 change VC _ _ _ _
 refine vCond rfl (fun hb2 => ?_) (fun hb2 => ?_)
 ·replace h := cnd_t hb2 h
  refine vSeq ?_
  refine vRegion ?_
  refine oVal tt rfl rfl rfl rfl rfl trivial ?_
  refine vNil ?_
  change VC _ _ _ _
  refine vRet ?_
  change ∃ _, _
  cases h
  exact ⟨[], _, rfl, trivial, rfl, (.eq rfl), rfl⟩
 ·replace h := cnd_f hb2 h
  refine vSkip ?_
  change VC _ _ _ _
  refine vSeq ?_
  refine vRegion ?_
  refine oVal tt rfl rfl rfl rfl rfl trivial ?_
  obtain ⟨v2, hc3, h⟩ := bind_inv h
  refine oCall (L_toPinned_w N aP_0 v2 hc3) rfl rfl rfl rfl rfl rfl rfl rfl ⟨⟨rfl, rfl, rfl, trivial⟩, trivial⟩ ?_
  refine oVal tt rfl rfl rfl rfl rfl trivial ?_
  obtain ⟨v3, hc4, h⟩ := bind_inv h
  refine oCall (S_DependsOn_w N v2 aV_1 v3 hc4) rfl rfl rfl rfl rfl rfl rfl rfl ⟨⟨rfl, (.inl ⟨rfl, rfl⟩), (.inl ⟨rfl, rfl⟩), trivial⟩, rfl, trivial⟩ ?_
  refine oVal tt rfl rfl rfl rfl rfl trivial ?_
  refine vNil ?_
  change VC _ _ _ _
  refine vSeq ?_
  refine vRegion ?_
  refine oVal tt rfl rfl rfl rfl rfl trivial ?_
  obtain ⟨v4, hc5, h⟩ := bind_inv h
  refine oCall (L_toPinned_w N aP_0 v4 hc5) rfl rfl rfl rfl rfl rfl rfl rfl ⟨⟨rfl, rfl, rfl, trivial⟩, trivial⟩ ?_
  refine oAlloc tt rfl rfl rfl rfl rfl rfl rfl rfl rfl ?_
  refine oStore tt rfl rfl rfl rfl rfl rfl rfl rfl rfl rfl rfl ⟨trivial, trivial, trivial, trivial⟩ ?_
  refine vNil ?_
  change VC _ _ _ _
  refine vSeq ?_
  refine vRegion ?_
  iterate 2 refine oVal tt rfl rfl rfl rfl rfl trivial ?_
  obtain ⟨v5, hc6, h⟩ := bind_inv h
  refine oCall (I_DependsOn_w N v4 aV_1 v5 hc6) rfl rfl rfl rfl rfl rfl rfl rfl ⟨⟨rfl, (.inl ⟨rfl, rfl⟩), (.inl ⟨rfl, rfl⟩), trivial⟩, rfl, trivial⟩ ?_
  refine oVal tt rfl rfl rfl rfl rfl trivial ?_
  refine vNil ?_
  change VC _ _ _ _
  iterate 2 refine vSeq ?_
  refine vRegion ?_
  iterate 2 refine oVal tt rfl rfl rfl rfl rfl trivial ?_
  obtain ⟨v6, hc7, h⟩ := bind_inv h
  refine oCall (L_eqIntS_w N v5 v3 v6 hc7) rfl rfl rfl rfl rfl rfl rfl rfl ⟨(.inl ⟨rfl, rfl⟩), (.inl ⟨rfl, rfl⟩), trivial⟩ ?_
  refine oVal tt rfl rfl rfl rfl rfl trivial ?_
  refine vNil ?_
  change VC _ _ _ _
  refine vCond rfl (fun hb8 => ?_) (fun hb8 => ?_)
  ·replace h := cnd_t hb8 h
   refine vSeq ?_
   refine vRegion ?_
   refine oVal tt rfl rfl rfl rfl rfl trivial ?_
   refine vNil ?_
   change VC _ _ _ _
   refine vRet ?_
   change ∃ _, _
   cases h
   exact ⟨[], _, rfl, trivial, rfl, (.eq rfl), rfl⟩
  ·replace h := cnd_f hb8 h
   refine vSkip ?_
   change VC _ _ _ _
   iterate 2 refine vSeq ?_
   refine vRegionN 3 [2] [0, 0, 2, 7, 15] (by kernel_rfl) (by kernel_rfl) (by kernel_rfl) (by kernel_rfl) (by kernel_rfl) rfl (by rfl) ?_
   iterate 2 refine nVal tt rfl (wNone rfl) rfl rfl rfl rfl rfl trivial ?_
   obtain ⟨v7, hc9, h⟩ := bind_inv h
   refine nCallR (L_toPinned_w N aP_0 v7 hc9) rfl (wNone rfl) rfl rfl rfl rfl rfl rfl (by first | rfl | kernel_rfl | (simp [nrL, nm, gdst, nmT, rowB]; done)) rfl (by first | rfl | kernel_rfl | (simp [chkE, nrL, nm, gdst, nmT, rowB, hid, ment, mentA, mentS]; done) | (simp [chkE, nrL, nm, gdst, nmT, rowB, hid, ment, mentA, mentS]; decide)) ⟨⟨rfl, rfl, rfl, trivial⟩, trivial⟩ ?_
   refine nNil ?_
   change VO _ _ _ _ _
   obtain ⟨v8, hc10, h⟩ := bind_inv h
   refine oCall (L_eqPinned_w N v4 v7 v8 hc10) rfl rfl rfl rfl rfl rfl rfl rfl ⟨⟨rfl, (.inl ⟨rfl, rfl⟩), (.inl ⟨rfl, rfl⟩), trivial⟩, ⟨rfl, (.inl ⟨rfl, rfl⟩), (.inl ⟨rfl, rfl⟩), trivial⟩, trivial⟩ ?_
   refine oVal tt rfl rfl rfl rfl rfl trivial ?_
   refine vNil ?_
   change VC _ _ _ _
   refine vCond rfl (fun hb11 => ?_) (fun hb11 => ?_)
   ·replace h := cnd_t hb11 h
    refine vSeq ?_
    refine vRegion ?_
    refine oVal tt rfl rfl rfl rfl rfl trivial ?_
    refine vNil ?_
    change VC _ _ _ _
    refine vRet ?_
    change ∃ _, _
    cases h
    exact ⟨[], _, rfl, trivial, rfl, (.eq rfl), rfl⟩
   ·replace h := cnd_f hb11 h
    refine vSkip ?_
    change VC _ _ _ _
    refine vSeq ?_
    refine vRegion ?_
    refine oVal tt rfl rfl rfl rfl rfl trivial ?_
    refine vNil ?_
    change VC _ _ _ _
    refine vSeq ?_
    refine vRegion ?_
    iterate 2 refine oVal tt rfl rfl rfl rfl rfl trivial ?_
    obtain ⟨v9, hc12, h⟩ := bind_inv h
    refine oMCall (L_markPinned_w N (⟨⟨v4.g.n, v4.g.bars⟩, v4.ground⟩ : Pin) (1 : Int) v9 hc12) [1230, 1231] [] [1230, 1231] rfl rfl rfl rfl rfl rfl ⟨rfl, rfl, trivial⟩ trivial ⟨⟨⟨rfl, rfl⟩, ⟨rfl, rfl⟩, ⟨rfl, rfl⟩, trivial⟩, ⟨rfl, rfl⟩, trivial⟩ ?_
    refine oVal tt rfl rfl rfl rfl rfl trivial ?_
    refine vNil ?_
    change VC _ _ _ _
    iterate 2 refine vSeq ?_
    refine vRegion ?_
    iterate 3 refine oVal tt rfl rfl rfl rfl rfl trivial ?_
    refine oSplit rfl rfl rfl (fun hb13 => ?_) (fun hb13 => ?_)
    ·replace h := cnd_t hb13 h
     iterate 4 refine oNoF rfl rfl rfl rfl hb13 rfl rfl ?_
     refine oPick rfl rfl rfl rfl rfl hb13 rfl ?_
     refine vNil ?_
     change VC _ _ _ _
     refine vCondT rfl rfl ?_
     refine vSeq ?_
     refine vRegion ?_
     refine oVal tt rfl rfl rfl rfl rfl trivial ?_
     refine vNil ?_
     change VC _ _ _ _
     refine vRet ?_
     change ∃ _, _
     cases h
     exact ⟨[], _, rfl, trivial, rfl, (.eq rfl), rfl⟩
    ·replace h := cnd_f hb13 h
     iterate 2 refine oValG tt rfl rfl rfl rfl rfl hb13 rfl rfl rfl trivial ?_
     obtain ⟨v10, hc14, h⟩ := bind_inv h
     refine oCallG (L_eqIntS_w N v5 v3 v10 hc14) rfl rfl rfl rfl hb13 rfl rfl rfl rfl rfl rfl rfl ⟨(.inl ⟨rfl, rfl⟩), (.inl ⟨rfl, rfl⟩), trivial⟩ ?_
     refine oValG tt rfl rfl rfl rfl rfl hb13 rfl rfl rfl trivial ?_
     refine oPickF rfl rfl rfl rfl rfl hb13 rfl ?_
     refine vNil ?_
     change VC _ _ _ _
     refine vCond rfl (fun hb15 => ?_) (fun hb15 => ?_)
     ·replace h := cnd_t hb15 h
      refine vSeq ?_
      refine vRegion ?_
      refine oVal tt rfl rfl rfl rfl rfl trivial ?_
      refine vNil ?_
      change VC _ _ _ _
      refine vRet ?_
      change ∃ _, _
      cases h
      exact ⟨[], _, rfl, trivial, rfl, (.eq rfl), rfl⟩
     ·replace h := cnd_f hb15 h
      refine vSkip ?_
      change VC _ _ _ _
      refine vSeq ?_
      refine vRegion ?_
      refine oVal tt rfl rfl rfl rfl rfl trivial ?_
      refine vNil ?_
      change VC _ _ _ _
      refine vSeq ?_
      refine vRegion ?_
      iterate 2 refine oVal tt rfl rfl rfl rfl rfl trivial ?_
      obtain ⟨v11, hc16, h⟩ := bind_inv h
      refine oMCall (L_markIntS_w N v5 (1 : Int) v11 hc16) [1260] [] [1260] rfl rfl rfl rfl rfl rfl ⟨rfl, trivial⟩ trivial ⟨⟨rfl, rfl⟩, ⟨rfl, rfl⟩, trivial⟩ ?_
      refine oVal tt rfl rfl rfl rfl rfl trivial ?_
      refine vNil ?_
      change VC _ _ _ _
      refine vSeq ?_
      refine vRegion ?_
      refine oVal tt rfl rfl rfl rfl rfl trivial ?_
      refine vNil ?_
      change VC _ _ _ _
      refine vSeq ?_
      refine vRegion ?_
      iterate 2 refine oVal tt rfl rfl rfl rfl rfl trivial ?_
      obtain ⟨hg17, h⟩ := grd_inv h
      obtain ⟨v12, hc18, h⟩ := bind_inv h
      refine oCall (L_heldIntS_w N v11.2 (1 : Int) v12 hc18) rfl rfl rfl rfl rfl rfl rfl rfl ⟨(.inl ⟨hg17, rfl⟩), rfl, trivial⟩ ?_
      refine oVal tt rfl rfl rfl rfl rfl trivial ?_
      refine vNil ?_
      change VC _ _ _ _
      iterate 2 refine vSeq ?_
      refine vRegion ?_
      iterate 2 refine oVal tt rfl rfl rfl rfl rfl trivial ?_
      refine vNil ?_
      change VC _ _ _ _
      refine vCond rfl (fun hb19 => ?_) (fun hb19 => ?_)
      ·replace h := cnd_t hb19 h
       refine vSeq ?_
       refine vRegion ?_
       refine oVal tt rfl rfl rfl rfl rfl trivial ?_
       refine vNil ?_
       change VC _ _ _ _
       refine vRet ?_
       change ∃ _, _
       cases h
       exact ⟨[], _, rfl, trivial, rfl, (.eq rfl), rfl⟩
      ·replace h := cnd_f hb19 h
       refine vSkip ?_
       change VC _ _ _ _
       iterate 2 refine vSeq ?_
       refine vRegion ?_
       iterate 3 refine oVal tt rfl rfl rfl rfl rfl trivial ?_
       refine vNil ?_
       change VC _ _ _ _
       refine vCond rfl (fun hb20 => ?_) (fun hb20 => ?_)
       ·replace h := cnd_t hb20 h
        refine vSeq ?_
        refine vRegion ?_
        refine oVal tt rfl rfl rfl rfl rfl trivial ?_
        refine vNil ?_
        change VC _ _ _ _
        refine vRet ?_
        change ∃ _, _
        cases h
        exact ⟨[], _, rfl, trivial, rfl, (.eq rfl), rfl⟩
       ·replace h := cnd_f hb20 h
        refine vSkip ?_
        change VC _ _ _ _
        refine vSeq ?_
        refine vRegion ?_
        refine oVal tt rfl rfl rfl rfl rfl trivial ?_
        obtain ⟨v13, hc21, h⟩ := bind_inv h
        refine oCall (L_toPinned_w N aP_0 v13 hc21) rfl rfl rfl rfl rfl rfl rfl rfl ⟨⟨rfl, rfl, rfl, trivial⟩, trivial⟩ ?_
        refine oVal tt rfl rfl rfl rfl rfl trivial ?_
        obtain ⟨v14, hc22, h⟩ := bind_inv h
        refine oCall (I_DependsOn_w N v13 aV_1 v14 hc22) rfl rfl rfl rfl rfl rfl rfl rfl ⟨⟨rfl, (.inl ⟨rfl, rfl⟩), (.inl ⟨rfl, rfl⟩), trivial⟩, rfl, trivial⟩ ?_
        refine oVal tt rfl rfl rfl rfl rfl trivial ?_
        refine vNil ?_
        change VC _ _ _ _
        iterate 2 refine vSeq ?_
        refine vRegion ?_
        iterate 2 refine oVal tt rfl rfl rfl rfl rfl trivial ?_
        obtain ⟨v15, hc23, h⟩ := bind_inv h
        refine oCall (L_eqIntS_w N v14 v3 v15 hc23) rfl rfl rfl rfl rfl rfl rfl rfl ⟨(.inl ⟨rfl, rfl⟩), (.inl ⟨rfl, rfl⟩), trivial⟩ ?_
        refine oVal tt rfl rfl rfl rfl rfl trivial ?_
        refine vNil ?_
        change VC _ _ _ _
        refine vCond rfl (fun hb24 => ?_) (fun hb24 => ?_)
        ·replace h := cnd_t hb24 h
         refine vSeq ?_
         refine vRegion ?_
         refine oVal tt rfl rfl rfl rfl rfl trivial ?_
         refine vNil ?_
         change VC _ _ _ _
         refine vRet ?_
         change ∃ _, _
         cases h
         exact ⟨[], _, rfl, trivial, rfl, (.eq rfl), rfl⟩
        ·replace h := cnd_f hb24 h
         refine vSkip ?_
         change VC _ _ _ _
         refine vSeq ?_
         refine vRegion ?_
         refine oVal tt rfl rfl rfl rfl rfl trivial ?_
         refine vNil ?_
         change VC _ _ _ _
         refine vSeq ?_
         refine vRegion ?_
         iterate 2 refine oVal tt rfl rfl rfl rfl rfl trivial ?_
         obtain ⟨v16, hc25, h⟩ := bind_inv h
         refine oCall (L_heldIntS_w N v11.2 (1 : Int) v16 hc25) rfl rfl rfl rfl rfl rfl rfl rfl ⟨(.inl ⟨hg17, rfl⟩), rfl, trivial⟩ ?_
         refine oVal tt rfl rfl rfl rfl rfl trivial ?_
         refine vNil ?_
         change VC _ _ _ _
         iterate 2 refine vSeq ?_
         refine vRegion ?_
         iterate 2 refine oVal tt rfl rfl rfl rfl rfl trivial ?_
         refine vNil ?_
         change VC _ _ _ _
         refine vCond rfl (fun hb26 => ?_) (fun hb26 => ?_)
         ·replace h := cnd_t hb26 h
          refine vSeq ?_
          refine vRegion ?_
          refine oVal tt rfl rfl rfl rfl rfl trivial ?_
          refine vNil ?_
          change VC _ _ _ _
          refine vRet ?_
          change ∃ _, _
          cases h
          exact ⟨[], _, rfl, trivial, rfl, (.eq rfl), rfl⟩
         ·replace h := cnd_f hb26 h
          refine vSkip ?_
          change VC _ _ _ _
          iterate 2 refine vSeq ?_
          refine vRegion ?_
          iterate 3 refine oVal tt rfl rfl rfl rfl rfl trivial ?_
          refine vNil ?_
          change VC _ _ _ _
          refine vCond rfl (fun hb27 => ?_) (fun hb27 => ?_)
          ·replace h := cnd_t hb27 h
           refine vSeq ?_
           refine vRegion ?_
           refine oVal tt rfl rfl rfl rfl rfl trivial ?_
           refine vNil ?_
           change VC _ _ _ _
           refine vRet ?_
           change ∃ _, _
           cases h
           exact ⟨[], _, rfl, trivial, rfl, (.eq rfl), rfl⟩
          ·replace h := cnd_f hb27 h
           refine vSkip ?_
           change VC _ _ _ _
           refine vSeq ?_
           refine vRegion ?_
           refine oVal tt rfl rfl rfl rfl rfl trivial ?_
           refine vNil ?_
           change VC _ _ _ _
           refine vRet ?_
           change ∃ _, _
           cases h
           exact ⟨[], _, rfl, trivial, rfl, (.eq rfl), rfl⟩
end Go.Proofs.Ytmoamglpocjhgaa
