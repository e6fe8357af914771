/- Texts that the proof needs, put together: M13 M14 G71 G83 Qg Ph G19 G20 Pj G17 G22 Pk Qh G81 Qi G72 M15 M17 M18 M19. -/
import Derived.Laws.Strings
import Derived.Laws.BytesArg
import Derived.Test.YtkklfgcelmeccaaBGd3
import Derived.Test.YtkklfgcelmeccaaBGd4
import Derived.Test.YtkklfgcelmeccaaBGd5
import Derived.Test.YtkklfgcelmeccaaBGd6
set_option maxRecDepth 20000
set_option maxHeartbeats 1600000
set_option linter.unusedVariables false
set_option linter.unusedSimpArgs false
namespace Go.Proofs.Ytkklfgcelmeccaa
open Go.RowKit Go.Deep
theorem fam_get {q : Sq} (hq : q.deep = true) {k : Nat} (hk : k < q.len) : (Mw q).get k = some (q.nn k) := by rw [Gc hq, if_pos hk]
section
variable {C : Cx} {tm : List (Nat × D)} {rw' : List (Nat × Option (TypeId × Sq))} {bx : List (Nat × Option (List D))} {s' : PS}
end
theorem Rel.newFamN {C : Cx} {tm : List (Nat × D)} {rw' : List (Nat × Option (TypeId × Sq))} {bx : List (Nat × Option (List D))} {M : Mp} {a : Act} {w : World} (h : Rel C.w0 C.O0 C.n M ⟨tm, rw', bx⟩ a w) (F : Nat) (te : TypeId) (fq : Fq) (h0 : ∀ k c, fq.get k = some c → c.len = 0) (hl : lone ⟨tm, rw', bx⟩ 999999 F = true) (hl2 : PS.r ⟨tm, rw', bx⟩ 999999 = none) (hN : PS.r ⟨tm, rw', bx⟩ (FK + F) = none) (hO : ∀ u, C.O0.fr (FK + F) ≠ some u)
  (hF : F < 4294967296) : ∃ M' : Mp, Rel C.w0 C.O0 C.n M' ⟨(PS.killX ⟨tm, rw', bx⟩ 999999).tmp, (FK + F, some (te, .fam fq)) :: rw', (PS.killX ⟨tm, rw', bx⟩ 999999).box⟩ a w ∧ ∀ k c, fq.get k = some c → M'.γ (inn F k) = some none := by
 let M' : Mp := ⟨M.β, fun x => if x = FK + F then some none else if Nat.ble BIG x = true ∧ unF x = F ∧ (fq.get (unK x)).isSome = true then some none else M.γ x⟩
 have hMi : ∀ G k, G < 4294967296 → G ≠ F → M'.γ (inn G k) = M.γ (inn G k) := fun G k hG hne => by
  have : inn G k ≠ FK + F := fun e => by have h1 := Ff G k; rw [e, Wj hF] at h1; cases h1
  have h2 : unF (inn G k) ≠ F := by rw [Hg, Nat.mod_eq_of_lt hG]; exact hne
  simp [M', this, h2]
 have hMF : ∀ x, Nat.ble BIG x = false → x ≠ FK + F → M'.γ x = M.γ x := fun x h1 h2 => by simp only [M', h1, h2, if_false]; simp
 have hsub : ∀ x k c z, M'.γ x = some (some (k, c, z)) → M.γ x = some (some (k, c, z)) := fun x k c z hx => by
  simp only [M'] at hx
  split at hx
  ·cases hx
  split at hx
  ·cases hx
  exact hx
 have hown : ∀ k, M'.owned k → M.owned k := by
  rintro k (⟨b, hb⟩ | ⟨y, c, z, hy⟩)
  ·exact .inl ⟨b, hb⟩
  exact .inr ⟨y, c, z, hsub _ _ _ _ hy⟩
 have hA : ∀ f b, b < w.heap.size → Ow (Fs C.w0 C.O0) M f b → Ow (Fs C.w0 C.O0) M' f b ∧ b < w.heap.size ∧ w.heap[b]? = w.heap[b]? := fun f b h1 h2 => ⟨⟨fun h3 => h2.1 (hown b h3), h2.2⟩, h1, rfl⟩
 have hγ' : ∀ x y, x ≠ 999999 → Dz x = true → M'.γ x = some y → M.γ x = some y := fun x y _ h2 h3 => by
  rw [hMF x (Bx h2) (fun e => fk_ne hF h2 e.symm)] at h3
  exact h3
 refine ⟨M', ?_, fun k c hc => by
  have h1 : inn F k ≠ FK + F := fun e => by have h1 := Ff F k; rw [e, Wj hF] at h1; cases h1
  have h2 : unF (inn F k) = F := by rw [Hg, Nat.mod_eq_of_lt hF]
  simp [M', h1, h2, Ff, Lm, hc]⟩
 refine h.remap 999999 F hF (fun _ => rfl) (fun x k c z hx => ⟨x, hsub _ _ _ _ hx⟩) (fun x y k c z c' z' h1 h2 => h.inj2 _ _ _ _ _ _ _ (hsub _ _ _ _ h1) (hsub _ _ _ _ h2)) hγ' (fun x y h1 h2 h3 h4 => ?_) (.inl (by decide)) (fun u u' h1 _ => absurd h1 (hO u)) (fun G k y h1 h2 h3 => by rw [← hMi G k h1 h2]; exact h3) (fun t => ?_) (fun b => ?_) (fun x e q hx => ?_) fun x hx => ?_
 ·rw [hMF x h3 h1] at h4
  exact h4
 ·have : PS.t ⟨(PS.killX ⟨tm, rw', bx⟩ 999999).tmp, (FK + F, some (te, .fam fq)) :: rw', (PS.killX ⟨tm, rw', bx⟩ 999999).box⟩ t = klX 999999 (PS.t ⟨tm, rw', bx⟩ t) := PS.t_killX ⟨tm, rw', bx⟩ 999999 t
  rw [this]
  exact VR.klX hA hγ' (fun _ _ h => h) (h.tmp t)
 ·exact PS.b_killX ⟨tm, rw', bx⟩ 999999 b
 ·rw [PS.r_app (s := ⟨tm, rw', bx⟩) (l := [(FK + F, some (te, .fam fq))]) rfl, Ep, Ep] at hx
  cases hbx : Nat.ble BIG x with
  | true =>
   rw [hbx] at hx
   have hxf : x ≠ FK + F := fun e => by rw [e, Wj hF] at hbx; cases hbx
   by_cases hu : FK + F = FK + unF x
   ·simp only [hu, if_true, Aan] at hx
    split at hx
    ·rename_i c hc
     cases hx
     have hu' : unF x = F := by omega
     exact .inr (.inl ⟨by simp [M', hxf, hbx, hu', hc], h0 _ _ hc⟩)
    cases hx
   have hu' : unF x ≠ F := fun e => hu (by rw [e])
   have hMx : M'.γ x = M.γ x := by simp [M', hxf, hu']
   simp only [hu, if_false] at hx
   refine .inl ⟨hx, hMx, fun G hG => ?_⟩
   rcases Sd hl hx hG with h1 | h1
   ·rw [h1, hl2] at hx; cases hx
   exact h1
  | false =>
   rw [hbx] at hx
   by_cases hxf : FK + F = x
   ·subst hxf
    simp only [if_true] at hx
    cases hx
    exact .inr (.inl ⟨by simp [M'], rfl⟩)
   simp only [hxf, if_false] at hx
   refine .inl ⟨hx, hMF x hbx (Ne.symm hxf), fun G hG => ?_⟩
   rcases Sd hl hx hG with h1 | h1
   ·rw [h1, hl2] at hx; cases hx
   exact h1
 rw [PS.r_app (s := ⟨tm, rw', bx⟩) (l := [(FK + F, some (te, .fam fq))]) rfl, Ep, Ep] at hx
 cases hbx : Nat.ble BIG x with
 | true =>
  rw [hbx] at hx
  have hxf : x ≠ FK + F := fun e => by rw [e, Wj hF] at hbx; cases hbx
  by_cases hu : FK + F = FK + unF x
  ·simp only [hu, if_true, Aan] at hx
   split at hx
   ·cases hx
   rename_i hc
   have hMx : M'.γ x = M.γ x := by simp [M', hxf, hc]
   rw [hMx]
   refine h.rown x ?_
   rw [PS.r_hi _ hbx, PS.inn_r, ← hu, hN]; rfl
  have hu' : unF x ≠ F := fun e => hu (by rw [e])
  have hMx : M'.γ x = M.γ x := by simp [M', hxf, hu']
  rw [hMx]
  simp only [hu, if_false] at hx; exact h.rown x hx
 | false =>
  rw [hbx] at hx
  by_cases hxf : FK + F = x
  ·simp only [hxf, if_true] at hx; cases hx
  simp only [hxf, if_false] at hx
  rw [hMF x hbx (Ne.symm hxf)]
  exact h.rown x hx
theorem Rel.newRowW {w0 : World} {O0 : Hd} {n : Nat} {M : Mp} {s : PS} {a : Act} {w w' : World} (h : Rel w0 O0 n M s a w) {r m : Nat} {e : TypeId} {q : Sq} {cur : Array Value} (hq : q.len = m) (hm : m ≤ maxLen) (hc : cur.size = m * q.sz) (g1 : w'.heap[w.heap.size]? = some (.cells cur e (0, 0))) (ho : w'.os = w.os) (htp : w'.tape = w.tape) (hou : w'.output = w.output) (hsi : w.heap.size ≤ w'.heap.size) (hbl : ∀ k, k < w.heap.size → w'.heap[k]? = w.heap[k]?)
  (hv : ∀ i j d, i < m → (q.relem i)[j]? = some d → VR M (Ow (Fs w0 O0) M) w d (cur.getD (i * q.sz + j) undef)) (hf : Fresh s noB (isR r)) (hlo : r < 1000000) :
  ∃ M', Rel w0 O0 n M' (s.setR r (some (e, q))) a w' ∧ VR M' (Ow (Fs w0 O0) M') w' (.row r 0 m) (.slice (some ⟨w.heap.size, 0, none⟩) m m) := by
 have hF := Ck hlo
 let M' : Mp := ⟨M.β, fun x => if x = r then some (some (w.heap.size, m, q.sz)) else M.γ x⟩
 have m1 : M'.γ r = some (some (w.heap.size, m, q.sz)) := by simp [M']
 have m2 : ∀ x, x ≠ r → M'.γ x = M.γ x := fun x hx => by simp [M', hx]
 have hown : ∀ k, M'.owned k → M.owned k ∨ k = w.heap.size := by
  rintro k (⟨x, hx⟩ | ⟨y, c, z, hy⟩)
  ·exact .inl (.inl ⟨x, hx⟩)
  by_cases hyr : y = r
  ·rw [hyr, m1] at hy; cases hy; exact .inr rfl
  rw [m2 y hyr] at hy; exact .inl (.inr ⟨y, c, z, hy⟩)
 have hA : ∀ f k, k < w.heap.size → Ow (Fs w0 O0) M f k → Ow (Fs w0 O0) M' f k ∧ k < w'.heap.size ∧ w'.heap[k]? = w.heap[k]? := fun f k h1 h2 =>
  ⟨⟨fun h3 => by rcases hown k h3 with h4 | h4; exact h2.1 h4; omega, h2.2⟩, by omega, hbl k h1⟩
 have hγ : ∀ x y, isR r x = false → M'.γ x = some y → M.γ x = some y := fun x y h1 h2 => by
  rw [m2 x (fun e => by subst e; simp [isR, Nat.beq_refl] at h1)] at h2; exact h2
 have hrb := Bx hF
 have hbig : ∀ x y, BIG ≤ x → M'.γ x = some y → M.γ x = some y := fun x y hx h2 => by
  rw [m2 x (fun e => by rw [← e, Nat.ble_eq_true_of_le hx] at hrb; cases hrb)] at h2; exact h2
 have hno : ∀ y c z, M.γ y ≠ some (some (w.heap.size, c, z)) := fun y c z hy => by have := h.lt _ (.inr ⟨y, c, z, hy⟩); omega
 refine ⟨M', ⟨?_, h.dfr, h.sz, fun t => ?_, fun x ds hx => ?_, fun x hx => h.boxn x hx, fun x e' p hx => ?_, fun x hx => ?_, fun k hk => ?_, h.inj1, fun x y k c z c' z' h1 h2 => ?_, fun x y k c z h1 h2 => ?_, h.nle, h.fxb, fun x u u' h1 h2 => ?_⟩, ?_⟩
 ·exact h.fr.step ho htp hou hsi fun k h1 _ => hbl k (Nat.lt_of_lt_of_le h1 h.fr.size)
 ·exact VR.new (b := noB) (r := isR r) hA hγ (fun _ _ _ h => h) (hf.t t) (h.tmp t) (hi := fun _ => hbig)
 ·obtain ⟨k, cur', e', h1, h2, h3, h4⟩ := h.box x ds hx
  have hlt := (Array.getElem?_eq_some_iff.1 h2).1
  exact ⟨k, cur', e', h1, (hbl k hlt).trans h2, h3, fun j d hd => VR.newS (b := noB) (r := isR r) hA hγ (fun _ _ _ h => h) (hf.b _ _ hx d (List.mem_of_getElem? hd)) (h4 j d hd) (hi := fun _ => hbig)⟩
 ·rw [PS.r_setR _ _ _ _ hF] at hx
  by_cases hxr : r = x
  ·subst hxr
   rw [if_pos rfl] at hx
   cases hx
   exact .inr ⟨w.heap.size, m, cur, m1, g1, by omega, hm, hc, fun i j d hi hd => (hv i j d (by omega) hd).relem_any hd hA hbig⟩
  rw [if_neg hxr] at hx
  rcases h.row x e' p hx with ⟨h1, h2⟩ | ⟨g, cap, cur', h1, h2, h3, h4, h5, h6⟩
  ·exact .inl ⟨(m2 x (Ne.symm hxr)).trans h1, h2⟩
  have hlt := (Array.getElem?_eq_some_iff.1 h2).1
  exact .inr ⟨g, cap, cur', (m2 x (Ne.symm hxr)).trans h1, (hbl g hlt).trans h2, h3, h4, h5, fun i j d hi hd => (h6 i j d hi hd).relem_any hd hA hbig⟩
 ·rw [PS.r_setR _ _ _ _ hF] at hx
  by_cases hxr : r = x
  ·rw [if_pos hxr] at hx; cases hx
  rw [if_neg hxr] at hx; exact (m2 x (Ne.symm hxr)).trans (h.rown x hx)
 ·rcases hown k hk with h1 | rfl
  ·exact h.low k h1
  exact .inl h.fr.size
 ·by_cases hx : x = r
  ·by_cases hy : y = r
   ·rw [hx, hy]
   rw [hx, m1] at h1; cases h1; rw [m2 y hy] at h2; exact absurd h2 (hno _ _ _)
  by_cases hy : y = r
  ·rw [hy, m1] at h2; cases h2; rw [m2 x hx] at h1; exact absurd h1 (hno _ _ _)
  rw [m2 x hx] at h1; rw [m2 y hy] at h2; exact h.inj2 _ _ _ _ _ _ _ h1 h2
 ·by_cases hy : y = r
  ·rw [hy, m1] at h2; cases h2
   have := h.lt _ (.inl ⟨x, h1⟩); omega
  rw [m2 y hy] at h2; exact h.inj3 _ _ _ _ _ h1 h2
 ·have h3 := (O0.lor x u h1).1
  rw [m2 x (by omega)] at h2
  exact h.fxr x u u' h1 h2
 exact .row _ _ _ _ rfl fun x hx => by rw [m1] at hx; cases hx; exact ⟨by omega, _, by rw [Nat.sub_zero], fun _ => by rw [Nat.zero_mul]⟩
def kD (k q : Sq) : Bool := match k, q with
 | .intss _, .intss _ | .pairss _, .pairss _ | .boolss _, .boolss _ | .raises _, .raises _ => true
 | _, _ => false
structure ZeroD (q : Sq) (m : Nat) : Prop where
 deep : q.deep = true
 len : q.len = m
 inner : ∀ i, i < q.len → (q.nn i).len = 0
 fst : ∀ (i j : Nat) (x : Int), i < q.len → (q.elem true i)[j]? = some (D.int x) → x = 0
theorem zeroB (m : Nat) : ZeroD (.boolss (List.replicate m ([] : List Bool))) m := ⟨rfl, by simp [Sq.len], fun i hi => by simp only [Sq.len, List.length_replicate] at hi; simp [Sq.nn, Sq.len, hi], fun i j x hi hx => by rcases j with _ | j <;> simp [Sq.elem] at hx⟩
section
variable {C : Cx} {ops : Array Oper} {K : PS → Prop} {o : Oper} {rest : List Oper} {s : PS} {TT : List (Nat × Ty)} {tm : List (Nat × D)} {rw' : List (Nat × Option (TypeId × Sq))} {bx : List (Nat × Option (List D))}
theorem oMakeD (F : Nat) (te : TypeId) (q : Sq) (hT : Jk C.P TT) (hg : o.guard = none) {t e : TypeId} {k : Sq} {by' b : Nat} {x y : Operand} {n : Int} (hop : o.op = .makeSlice t x y) (hd : o.dst = some b) (hy : Az TT t = some (.sl e k by')) (hx : (PS.ev ⟨tm, rw', bx⟩ x) = .int n) (hyy : (PS.ev ⟨tm, rw', bx⟩ y) = .int n)
  (hb : Nat.ble by' 32 = true) (hn : Nat.blt b C.n = true) (hk : kD k q = true) (hl : lone ⟨tm, rw', bx⟩ 999999 F = true) (hl2 : PS.r ⟨tm, rw', bx⟩ 999999 = none) (hN : PS.r ⟨tm, rw', bx⟩ (FK + F) = none) (hO : ∀ u, C.O0.fr (FK + F) ≠ some u)
  (hf : frB ⟨(PS.killX ⟨tm, rw', bx⟩ 999999).tmp, (FK + F, some (te, dF q)) :: rw', (PS.killX ⟨tm, rw', bx⟩ 999999).box⟩ noB (isR b) = true) {m : Nat} {s' : PS} (hm : m = q.len) (hnf : nf ⟨(b, .row b 0 m) :: (PS.killX ⟨tm, rw', bx⟩ 999999).tmp, (b, some (e, dR F q)) :: (FK + F, some (te, dF q)) :: rw', (PS.killX ⟨tm, rw', bx⟩ 999999).box⟩ = some s')
  (hz : ZeroD q n.toNat) (hob : 0 ≤ n ∧ n ≤ 4294967296) (h : VO C ops K rest s') (hF : Nat.blt F 4294967296 = true := by rfl) : VO C ops K (o :: rest) ⟨tm, rw', bx⟩ := by
 refine vOp hg ⟨fun M a w Q K' hr hk' => ?_⟩
 subst hm
 have hty := hT t _ hy
 obtain ⟨hu, _, i, hi, hsz, hby, z, hz0, hzc⟩ := hty
 have e1 := hr.ev x
 have e2 := hr.ev y
 rw [hx] at e1
 rw [hyy] at e2
 have hb' := Nat.le_of_ble_eq_true hb
 rw [Nat.blt_eq] at hF
 obtain ⟨m, rfl⟩ : ∃ m : Nat, n = (m : Int) := ⟨n.toNat, by omega⟩
 have hmm : m ≤ 4294967296 := by omega
 obtain ⟨w', hrun, hown, hgr⟩ := run_make_full (P := C.P) w w.heap.size t e i z k.sz hu hi hz0 hsz .i64 .i64 m (by rw [hby]; have := Nat.mul_le_mul hb' hmm; omega) (by unfold maxLen; omega) (Nat.le_refl _)
 have hzs : z.cells.size = k.sz := by rw [hzc]; cases k <;> rfl
 have hheap : ∃ cur, w'.heap[w.heap.size]? = some (.cells cur e (0, 0)) ∧ cur.size = m * k.sz ∧ cur.toList = (madeCells z.cells (m * k.sz)).toList := by
  rcases hown.2 with ⟨h1, _⟩ | ⟨g, cap, cur, h1, _, h2, h3, h4, h5, h6⟩
  ·cases h1
  cases h1
  refine ⟨cur, h2, h5, ?_⟩
  rw [← h6, List.take_of_length_le (by simp [h5])]
 obtain ⟨cur, g1, g2, g3⟩ := hheap
 rw [Int.toNat_natCast] at hz
 obtain ⟨z0, z1, z2, z3⟩ := hz
 have hks : k.sz = q.sz := by
  cases k <;> cases q <;> first | rfl | (cases hk; done)
 obtain ⟨M1, hr1, hi1⟩ := hr.newFamN F te (Mw q) (fun j c hc => by
  rw [Gc z0] at hc
  split at hc
  ·rename_i hj; cases hc; exact z2 j hj
  cases hc) hl hl2 hN hO hF
 rw [← Yg] at hr1
 obtain ⟨M', h1, h2⟩ := hr1.newRowW (r := b) (m := m) (e := e) (q := dR F q) (cur := cur) (w' := w') (by rw [Kf]; exact z1) (by unfold maxLen; omega) (by rw [Tz, ← hks]; exact g2) g1 hgr.os hgr.tape hgr.output hgr.size (fun k hk => hgr.block k hk (by simp)) (fun i j d hi hd => by
  have hj : j < k.sz := by rw [hks, ← Tz F q, ← Sq.relem_len (dR F q) i]; exact (List.getElem?_eq_some_iff.1 hd).1
  have hlt : i * k.sz + j < m * k.sz := by
   have : (i + 1) * k.sz ≤ m * k.sz := Nat.mul_le_mul_right _ hi
   rw [Nat.add_mul, Nat.one_mul] at this; omega
  have hget : cur.getD (i * (dR F q).sz + j) undef = k.zero1.toArray.getD j undef := by
   have hc : cur = madeCells z.cells (m * k.sz) := by rw [← Array.toList_inj]; exact g3
   have hzz : k.zero1.toArray.size = k.sz := by rw [← hzc, hzs]
   rw [Tz, ← hks, hc, ← hzc]
   have hmod : (i * k.sz + j) % k.sz = j := by rw [Nat.mul_comm, Nat.mul_add_mod, Nat.mod_eq_of_lt hj]
   simp [madeCells, hlt, hzs, hmod, hj]
  rw [hget]
  have hi' : i < q.len := by rw [z1]; exact hi
  have hin : ∀ n, n = 0 → VR M1 (Ow (Fs C.w0 C.O0) M1) w (.irow F i n) (.slice none 0 0) := fun n hn0 => .irow _ _ _ _ rfl fun x hx => by
   rw [hi1 i (q.nn i) (by rw [Gc z0, if_pos hi'])] at hx
   cases hx
   exact ⟨⟨none, rfl⟩, hn0, rfl⟩
  have hlen0 := z2 i hi'
  rcases Sm z0 hi' hd with ⟨rfl, h5⟩ | ⟨x, rfl, h5⟩
  ·have : k.zero1.toArray.getD j undef = .slice none 0 0 := by
    cases k <;> cases q <;> first | (cases hk; done) | skip
    case raises.raises => rcases j with _ | _ | j <;> first | rfl | (simp [Sq.elem] at h5; done) | (exfalso; simp [Sq.sz] at hj; done) | (exfalso; simp [Sq.sz] at hj; omega)
    all_goals (rcases j with _ | j <;> first | rfl | (exfalso; simp [Sq.sz] at hj; done) | (exfalso; simp [Sq.sz] at hj; omega))
   rw [this]
   exact hin _ hlen0
  have hx0 := z3 i j x hi' (h5 true)
  subst hx0
  have : k.zero1.toArray.getD j undef = .int .i64 0 := by
   cases k <;> cases q <;> first | (cases hk; done) | skip
   case raises.raises => rcases j with _ | _ | j <;> first | rfl | (simp [Sq.elem] at h5; done)
   all_goals (rcases j with _ | j <;> simp [Sq.elem] at h5)
  rw [this]
  exact .int 0) (Ke hf) (by have h1000 := hr.nle; rw [Nat.blt_eq] at hn; omega)
 have hrun' : (execOp a.eval o).run C.P w = .ok (.value (.slice (some ⟨w.heap.size, 0, none⟩) m m)) w' := by
  unfold execOp
  rw [hop]
  simp only [Sem.run_bind, e1.int_inv, e2.int_inv, hrun, Result.andThen_ok]
  rfl
 unfold Oper.wp
 rw [hrun']
 refine hk' M' _ _ _ (vNf hnf h) ?_
 rw [hd, z1]
 exact h1.put (o := some b) hn h2
end
end Go.Proofs.Ytkklfgcelmeccaa
namespace Go.Proofs.Ytkklfgcelmeccaa
open Go.RowKit Go.Deep
section
variable {C : Cx} {ops : Array Oper} {K : PS → Prop} {o : Oper} {rest : List Oper} {TT : List (Nat × Ty)} {tm : List (Nat × D)} {rw' : List (Nat × Option (TypeId × Sq))} {bx : List (Nat × Option (List D))} {cr B : List Nat} {j : Nat}
end
end Go.Proofs.Ytkklfgcelmeccaa
namespace Go.Proofs.Ytkklfgcelmeccaa
open Go.RowKit Go.Deep
def Bu (N : Nat) (p_0 : Pin) (l75 : List Int) (k : (List Int) → Option (List Int)) : Nat → ((List Int) × Int) → Option (List Int)
 | 0, _ => none
 | n + 1, (l86, u87) =>
  cnd (decide (u87 < p_0.g.n)) (
   (Fc N l75 u87).bind fun v89 =>
   cnd v89 (
    grd (l86.length + 1 ≤ 4294967296) <|
    grd (Bk (u87 + (1 : Int))) <|
    Bu N p_0 l75 k n ((l86 ++ ([u87] : List Int)), (u87 + (1 : Int)))) (
    grd (Bk (u87 + (1 : Int))) <|
    Bu N p_0 l75 k n (l86, (u87 + (1 : Int))))) (
   k l86)
def Cr (N : Nat) (p_0 : Pin) (owner_1 : List Int) (k116 : Int) (k : (List Int) → Option (List Int)) : Nat → ((List Int) × Int) → Option (List Int)
 | 0, _ => none
 | n + 1, (l157, i158) =>
  cnd (decide (i158 < (owner_1.length : Int))) (
   grd (0 ≤ i158 ∧ i158 < (owner_1.length : Int)) <|
   grd (0 ≤ k116 ∧ k116 < (l157.length : Int)) <|
   cnd ((owner_1.getD ((i158).toNat) 0) == (l157.getD ((k116).toNat) 0)) (
    grd (0 ≤ i158 ∧ i158 < (p_0.g.bars.length : Int)) <|
    (Hq N (p_0.g.bars.getD ((i158).toNat) (0, 0)) (owner_1.getD ((i158).toNat) 0)).bind fun v162 =>
    (Fc N l157 v162).bind fun v163 =>
    cnd (!v163) (
     (Fc N p_0.ground v162).bind fun v164 =>
     cnd (!v164) (
      grd (l157.length + 1 ≤ 4294967296) <|
      grd (Bk (i158 + (1 : Int))) <|
      Cr N p_0 owner_1 k116 k n ((l157 ++ ([v162] : List Int)), (i158 + (1 : Int)))) (
      grd (Bk (i158 + (1 : Int))) <|
      Cr N p_0 owner_1 k116 k n (l157, (i158 + (1 : Int))))) (
     grd (Bk (i158 + (1 : Int))) <|
     Cr N p_0 owner_1 k116 k n (l157, (i158 + (1 : Int))))) (
    grd (Bk (i158 + (1 : Int))) <|
    Cr N p_0 owner_1 k116 k n (l157, (i158 + (1 : Int))))) (
   k l157)
def Dw (N : Nat) (p_0 : Pin) (owner_1 : List Int) (k : (List Int) → Option (List Int)) : Nat → ((List Int) × Int) → Option (List Int)
 | 0, _ => none
 | n + 1, (l115, k116) =>
  cnd (decide (k116 < (l115.length : Int))) (
   Cr N p_0 owner_1 k116 (fun (l152 : List Int) =>
      grd (Bk (k116 + (1 : Int))) <|
      Dw N p_0 owner_1 k n (l152, (k116 + (1 : Int)))) N (l115, (0 : Int))) (
   k l115)
def Hl (N : Nat) (p_0 : Pin) (owner_1 : List Int) (v_2 : Int) : Option (List Int) :=
 Dw N p_0 owner_1 (fun (l75 : List Int) =>
    Bu N p_0 l75 (fun (l82 : List Int) =>
       some l82) N (([] : List Int), (0 : Int))) N (([v_2] : List Int), (0 : Int))
theorem Qh (N : Nat) (p_0 : Pin) (owner_1 : List Int) (v_2 : Int) (r : List Int) (h : Hl N p_0 owner_1 v_2 = some r) : PCall Try.prog 56 [pD p_0, .ro false (.ints owner_1), .int v_2] [(3, .ints r)] (.row 0 0 r.length) := by
 unfold Hl at h
 refine Aj (TT := TT) tt Try.func56 rfl rfl Try.ntmps56 (congrArg Array.toList Try.results56) rfl rfl fun w0 => ?_
 refine Ah ?_
 refine Aa ?_
 refine Jc rfl rfl rfl rfl rfl rfl rfl rfl rfl ?_
 refine Ac tt rfl rfl rfl rfl rfl Tvv ?_
 refine Af ?_
 change VC _ _ _ _
 refine Ah ?_
 refine Aa ?_
 refine Ac tt rfl rfl rfl rfl rfl Tvv ?_
 refine Dt tt rfl rfl rfl rfl rfl rfl rfl rfl rfl rfl rfl ?_
 refine Ac tt rfl rfl rfl rfl rfl Tvv ?_
 refine Af ?_
 change VC _ _ _ _
 iterate 2 refine Ah ?_
 refine Aa ?_
 refine Ac tt rfl rfl rfl rfl rfl Tvv ?_
 refine Af ?_
 change VC _ _ _ _
 refine Cc (F := fun k => Dw N p_0 owner_1 k) h (α := List Int) (J := fun (l75 : List Int) => (⟨[(3, .ptr 3 0), (7, .row 14 0 l75.length)], [(14, some (3, .ints l75))], [(3, some [.int p_0.g.n, .ro false (.pairs p_0.g.bars), .ro false (.ints p_0.ground)])]⟩ : PS)) ?_ ?_
 ·rintro l75 h
  show VC _ _ _ (⟨[(3, .ptr 3 0), (7, .row 14 0 l75.length)], [(14, some (3, .ints l75))], [(3, some [.int p_0.g.n, .ro false (.pairs p_0.g.bars), .ro false (.ints p_0.ground)])]⟩ : PS)
  refine Ah ?_
  refine Aa ?_
  refine Gx tt (Ag rfl) rfl rfl rfl rfl ?_
  refine Ac tt rfl rfl rfl rfl rfl Tvv ?_
  refine Af ?_
  change VC _ _ _ _
  iterate 2 refine Ah ?_
  refine Aa ?_
  refine Ac tt rfl rfl rfl rfl rfl Tvv ?_
  refine Af ?_
  change VC _ _ _ _
  refine Cc (F := fun k => Bu N p_0 l75 k) h (α := List Int) (J := fun (l82 : List Int) => (⟨[(11, .row 76 0 l82.length)], [(76, some (3, .ints l82))], []⟩ : PS)) ?_ ?_
  ·rintro l82 h
   show VC _ _ _ (⟨[(11, .row 76 0 l82.length)], [(76, some (3, .ints l82))], []⟩ : PS)
   refine Ah ?_
   refine Aa ?_
   iterate 2 refine Ac tt rfl rfl rfl rfl rfl Tvv ?_
   refine Af ?_
   change VC _ _ _ _
   refine Bh ?_
   change ∃ _, _
   cases h
   exact ⟨[76], _, rfl, ⟨rfl, Tvv⟩, rfl, (.eq rfl), rfl⟩
  intro k h
  refine Ar ?_
  refine Lp 11 76 3 (.ints []) rfl rfl rfl rfl ?_
  refine Ba (α := (List Int) × Int) (fun | (l86, u87) => (⟨[(3, .ptr 3 0), (7, .row 14 0 l75.length), (11, .row 76 0 l86.length), (12, .int u87)], [(14, some (3, .ints l75)), (76, some (3, .ints l86))], [(3, some [.int p_0.g.n, .ro false (.pairs p_0.g.bars), .ro false (.ints p_0.ground)])]⟩ : PS)) (Bu N p_0 l75 k) h (En.of ⟨rfl, rfl, rfl, rfl, Tvv⟩ ⟨rfl, rfl, Tvv⟩ ⟨rfl, Tvv⟩) (fun _ => rfl) ?_
  rintro n ⟨l86, u87⟩ h
  rw [Bu] at h
  show VC _ _ _ (⟨[(3, .ptr 3 0), (7, .row 14 0 l75.length), (11, .row 76 0 l86.length), (12, .int u87)], [(14, some (3, .ints l75)), (76, some (3, .ints l86))], [(3, some [.int p_0.g.n, .ro false (.pairs p_0.g.bars), .ro false (.ints p_0.ground)])]⟩ : PS)
  iterate 2 refine Ah ?_
  refine Aa ?_
  iterate 5 refine Ac tt rfl rfl rfl rfl rfl Tvv ?_
  refine Af ?_
  change VC _ _ _ _
  refine Av rfl (fun hb1 => ?_) (fun hb1 => ?_)
  ·replace h := Ao hb1 h
   refine Au ?_
   change VC _ _ _ _
   refine Ah ?_
   refine Ar ?_
   refine Ah ?_
   refine Aa ?_
   iterate 2 refine Ac tt rfl rfl rfl rfl rfl Tvv ?_
   obtain ⟨v89, hc2, h⟩ := Ai h
   refine Bm (Fg N l75 u87 v89 hc2) rfl rfl rfl rfl rfl rfl rfl rfl ⟨(.inl ⟨rfl, rfl⟩), rfl, Tvv⟩ ?_
   refine Af ?_
   change VC _ _ _ _
   refine Av rfl (fun hb3 => ?_) (fun hb3 => ?_)
   ·replace h := Ao hb3 h
    refine Aa ?_
    iterate 2 refine Ac tt rfl rfl rfl rfl rfl Tvv ?_
    refine Dt tt rfl rfl rfl rfl rfl rfl rfl rfl rfl rfl rfl ?_
    obtain ⟨hg4, h⟩ := Ab h
    refine Cp tt rfl rfl rfl rfl rfl rfl rfl rfl rfl rfl rfl rfl rfl rfl rfl rfl (Nat.le_of_eq (Nat.zero_add _)) hg4 ?_
    refine Ac tt rfl rfl rfl rfl rfl Tvv ?_
    refine Af ?_
    change VC _ _ _ _
    refine Aa ?_
    refine Ac tt rfl rfl rfl rfl rfl Tvv ?_
    obtain ⟨hg5, h⟩ := Ab h
    refine Ac tt rfl rfl rfl rfl rfl hg5 ?_
    refine Ac tt rfl rfl rfl rfl rfl Tvv ?_
    refine Af ?_
    change ∃ _, _
    exact ⟨((l86 ++ ([u87] : List Int)), (u87 + (1 : Int))), (En.of ⟨rfl, rfl, rfl, rfl, Tvv⟩ ⟨rfl, rfl, Tvv⟩ ⟨rfl, Tvv⟩), h⟩
   replace h := Ap hb3 h
   refine Au ?_
   change VC _ _ _ _
   refine Aa ?_
   refine Ac tt rfl rfl rfl rfl rfl Tvv ?_
   obtain ⟨hg6, h⟩ := Ab h
   refine Ac tt rfl rfl rfl rfl rfl hg6 ?_
   refine Ac tt rfl rfl rfl rfl rfl Tvv ?_
   refine Af ?_
   change ∃ _, _
   exact ⟨(l86, (u87 + (1 : Int))), (En.of ⟨rfl, rfl, rfl, rfl, Tvv⟩ ⟨rfl, rfl, Tvv⟩ ⟨rfl, Tvv⟩), h⟩
  replace h := Ap hb1 h
  refine Bl ?_
  change ∃ _, _
  exact ⟨l86, (En.of ⟨rfl, Tvv⟩ ⟨rfl, Tvv⟩ trivial), h⟩
 intro k h
 refine Ar ?_
 refine Ba (α := (List Int) × Int) (fun | (l115, k116) => (⟨[(1, .ro false (.ints owner_1)), (3, .ptr 3 0), (7, .row 14 0 l115.length), (8, .int k116)], [(14, some (3, .ints l115))], [(3, some [.int p_0.g.n, .ro false (.pairs p_0.g.bars), .ro false (.ints p_0.ground)])]⟩ : PS)) (Dw N p_0 owner_1 k) h (En.of ⟨rfl, rfl, rfl, rfl, Tvv⟩ ⟨rfl, Tvv⟩ ⟨rfl, Tvv⟩) (fun _ => rfl) ?_
 rintro n ⟨l115, k116⟩ h
 rw [Dw] at h
 show VC _ _ _ (⟨[(1, .ro false (.ints owner_1)), (3, .ptr 3 0), (7, .row 14 0 l115.length), (8, .int k116)], [(14, some (3, .ints l115))], [(3, some [.int p_0.g.n, .ro false (.pairs p_0.g.bars), .ro false (.ints p_0.ground)])]⟩ : PS)
 iterate 2 refine Ah ?_
 refine Aa ?_
 iterate 4 refine Ac tt rfl rfl rfl rfl rfl Tvv ?_
 refine Af ?_
 change VC _ _ _ _
 refine Av rfl (fun hb7 => ?_) (fun hb7 => ?_)
 ·replace h := Ao hb7 h
  refine Au ?_
  change VC _ _ _ _
  refine Ah ?_
  refine Ar ?_
  refine Ah ?_
  refine Aa ?_
  refine Ac tt rfl rfl rfl rfl rfl Tvv ?_
  refine Af ?_
  change VC _ _ _ _
  refine Cc (F := fun k => Cr N p_0 owner_1 k116 k) h (α := List Int) (J := fun (l152 : List Int) => (⟨[(1, .ro false (.ints owner_1)), (3, .ptr 3 0), (7, .row 14 0 l152.length), (8, .int k116)], [(14, some (3, .ints l152))], [(3, some [.int p_0.g.n, .ro false (.pairs p_0.g.bars), .ro false (.ints p_0.ground)])]⟩ : PS)) ?_ ?_
  ·rintro l152 h
   show VC _ _ _ (⟨[(1, .ro false (.ints owner_1)), (3, .ptr 3 0), (7, .row 14 0 l152.length), (8, .int k116)], [(14, some (3, .ints l152))], [(3, some [.int p_0.g.n, .ro false (.pairs p_0.g.bars), .ro false (.ints p_0.ground)])]⟩ : PS)
   refine Aa ?_
   refine Ac tt rfl rfl rfl rfl rfl Tvv ?_
   obtain ⟨hg8, h⟩ := Ab h
   refine Ac tt rfl rfl rfl rfl rfl hg8 ?_
   refine Ac tt rfl rfl rfl rfl rfl Tvv ?_
   refine Af ?_
   change ∃ _, _
   exact ⟨(l152, (k116 + (1 : Int))), (En.of ⟨rfl, rfl, rfl, rfl, Tvv⟩ ⟨rfl, Tvv⟩ ⟨rfl, Tvv⟩), h⟩
  intro k h
  refine Ar ?_
  refine Ba (α := (List Int) × Int) (fun | (l157, i158) => (⟨[(1, .ro false (.ints owner_1)), (3, .ptr 3 0), (7, .row 14 0 l157.length), (8, .int k116), (9, .int i158)], [(14, some (3, .ints l157))], [(3, some [.int p_0.g.n, .ro false (.pairs p_0.g.bars), .ro false (.ints p_0.ground)])]⟩ : PS)) (Cr N p_0 owner_1 k116 k) h (En.of ⟨rfl, rfl, rfl, rfl, rfl, Tvv⟩ ⟨rfl, Tvv⟩ ⟨rfl, Tvv⟩) (fun _ => rfl) ?_
  rintro n ⟨l157, i158⟩ h
  rw [Cr] at h
  show VC _ _ _ (⟨[(1, .ro false (.ints owner_1)), (3, .ptr 3 0), (7, .row 14 0 l157.length), (8, .int k116), (9, .int i158)], [(14, some (3, .ints l157))], [(3, some [.int p_0.g.n, .ro false (.pairs p_0.g.bars), .ro false (.ints p_0.ground)])]⟩ : PS)
  iterate 2 refine Ah ?_
  refine Aa ?_
  iterate 4 refine Ac tt rfl rfl rfl rfl rfl Tvv ?_
  refine Af ?_
  change VC _ _ _ _
  refine Av rfl (fun hb9 => ?_) (fun hb9 => ?_)
  ·replace h := Ao hb9 h
   refine Au ?_
   change VC _ _ _ _
   refine Ah ?_
   refine Ar ?_
   refine Ah ?_
   refine Ca (by kernel_rfl) (by kernel_rfl) ?_
   iterate 2 refine Bi tt rfl (Ag rfl) rfl rfl rfl Tvv ?_
   obtain ⟨hg10, h⟩ := Ab h
   refine Bi tt rfl (Ag rfl) rfl rfl rfl hg10 ?_
   iterate 3 refine Bi tt rfl (Ag rfl) rfl rfl rfl Tvv ?_
   obtain ⟨hg11, h⟩ := Ab h
   iterate 2 refine Bi tt rfl (Ag rfl) rfl rfl rfl hg11 ?_
   refine Bi tt rfl (Ag rfl) rfl rfl rfl Tvv ?_
   refine Lo ?_
   change VC _ _ _ _
   refine Av rfl (fun hb12 => ?_) (fun hb12 => ?_)
   ·replace h := Ao hb12 h
    refine Ah ?_
    refine Ca (by kernel_rfl) (by kernel_rfl) ?_
    iterate 4 refine Bi tt rfl (Ag rfl) rfl rfl rfl Tvv ?_
    obtain ⟨hg13, h⟩ := Ab h
    refine Bi tt rfl (Ag rfl) rfl rfl rfl hg13 ?_
    iterate 3 refine Bi tt rfl (Ag rfl) rfl rfl rfl Tvv ?_
    refine Bi tt rfl (Ag rfl) rfl rfl rfl hg10 ?_
    refine Bi tt rfl (Ag rfl) rfl rfl rfl Tvv ?_
    obtain ⟨v162, hc14, h⟩ := Ai h
    refine Mq (Mt N (p_0.g.bars.getD ((i158).toNat) (0, 0)) (owner_1.getD ((i158).toNat) 0) v162 hc14) rfl (Ag rfl) rfl rfl rfl rfl rfl rfl ⟨⟨rfl, rfl, Tvv⟩, rfl, Tvv⟩ ?_
    refine Bi tt rfl (Ag rfl) rfl rfl rfl Tvv ?_
    refine Lo ?_
    change VC _ _ _ _
    refine Ah ?_
    refine Aa ?_
    iterate 2 refine Ac tt rfl rfl rfl rfl rfl Tvv ?_
    obtain ⟨v163, hc15, h⟩ := Ai h
    refine Bm (Fg N l157 v162 v163 hc15) rfl rfl rfl rfl rfl rfl rfl rfl ⟨(.inl ⟨rfl, rfl⟩), rfl, Tvv⟩ ?_
    iterate 2 refine Ac tt rfl rfl rfl rfl rfl Tvv ?_
    refine Dc rfl rfl rfl (fun hb16 => ?_) (fun hb16 => ?_)
    ·replace h := Ao hb16 h
     iterate 3 refine Cl tt rfl rfl rfl rfl rfl hb16 rfl rfl rfl Tvv ?_
     obtain ⟨v164, hc17, h⟩ := Ai h
     refine Qm (Fg N p_0.ground v162 v164 hc17) rfl rfl rfl rfl hb16 rfl rfl rfl rfl rfl rfl rfl ⟨rfl, rfl, Tvv⟩ ?_
     refine Cl tt rfl rfl rfl rfl rfl hb16 rfl rfl rfl Tvv ?_
     refine Eo rfl rfl rfl rfl rfl hb16 rfl ?_
     refine Af ?_
     change VC _ _ _ _
     refine Av rfl (fun hb18 => ?_) (fun hb18 => ?_)
     ·replace h := Ao hb18 h
      refine Aa ?_
      iterate 2 refine Ac tt rfl rfl rfl rfl rfl Tvv ?_
      refine Dt tt rfl rfl rfl rfl rfl rfl rfl rfl rfl rfl rfl ?_
      obtain ⟨hg19, h⟩ := Ab h
      refine Cp tt rfl rfl rfl rfl rfl rfl rfl rfl rfl rfl rfl rfl rfl rfl rfl rfl (Nat.le_of_eq (Nat.zero_add _)) hg19 ?_
      refine Ac tt rfl rfl rfl rfl rfl Tvv ?_
      refine Af ?_
      change VC _ _ _ _
      refine Aa ?_
      refine Ac tt rfl rfl rfl rfl rfl Tvv ?_
      obtain ⟨hg20, h⟩ := Ab h
      refine Ac tt rfl rfl rfl rfl rfl hg20 ?_
      refine Ac tt rfl rfl rfl rfl rfl Tvv ?_
      refine Af ?_
      change ∃ _, _
      exact ⟨((l157 ++ ([v162] : List Int)), (i158 + (1 : Int))), (En.of ⟨rfl, rfl, rfl, rfl, rfl, Tvv⟩ ⟨rfl, Tvv⟩ ⟨rfl, Tvv⟩), h⟩
     replace h := Ap hb18 h
     refine Au ?_
     change VC _ _ _ _
     refine Aa ?_
     refine Ac tt rfl rfl rfl rfl rfl Tvv ?_
     obtain ⟨hg21, h⟩ := Ab h
     refine Ac tt rfl rfl rfl rfl rfl hg21 ?_
     refine Ac tt rfl rfl rfl rfl rfl Tvv ?_
     refine Af ?_
     change ∃ _, _
     exact ⟨(l157, (i158 + (1 : Int))), (En.of ⟨rfl, rfl, rfl, rfl, rfl, Tvv⟩ ⟨rfl, Tvv⟩ ⟨rfl, Tvv⟩), h⟩
    replace h := Ap hb16 h
    iterate 5 refine Zf rfl rfl rfl rfl hb16 rfl rfl ?_
    refine Cv rfl rfl rfl rfl rfl hb16 rfl ?_
    refine Af ?_
    change VC _ _ _ _
    refine Gw rfl rfl ?_
    refine Au ?_
    change VC _ _ _ _
    refine Aa ?_
    refine Ac tt rfl rfl rfl rfl rfl Tvv ?_
    obtain ⟨hg22, h⟩ := Ab h
    refine Ac tt rfl rfl rfl rfl rfl hg22 ?_
    refine Ac tt rfl rfl rfl rfl rfl Tvv ?_
    refine Af ?_
    change ∃ _, _
    exact ⟨(l157, (i158 + (1 : Int))), (En.of ⟨rfl, rfl, rfl, rfl, rfl, Tvv⟩ ⟨rfl, Tvv⟩ ⟨rfl, Tvv⟩), h⟩
   replace h := Ap hb12 h
   refine Au ?_
   change VC _ _ _ _
   refine Aa ?_
   refine Ac tt rfl rfl rfl rfl rfl Tvv ?_
   obtain ⟨hg23, h⟩ := Ab h
   refine Ac tt rfl rfl rfl rfl rfl hg23 ?_
   refine Ac tt rfl rfl rfl rfl rfl Tvv ?_
   refine Af ?_
   change ∃ _, _
   exact ⟨(l157, (i158 + (1 : Int))), (En.of ⟨rfl, rfl, rfl, rfl, rfl, Tvv⟩ ⟨rfl, Tvv⟩ ⟨rfl, Tvv⟩), h⟩
  replace h := Ap hb9 h
  refine Bl ?_
  change ∃ _, _
  exact ⟨l157, (En.of ⟨rfl, rfl, rfl, rfl, Tvv⟩ ⟨rfl, Tvv⟩ ⟨rfl, Tvv⟩), h⟩
 replace h := Ap hb7 h
 refine Bl ?_
 change ∃ _, _
 exact ⟨l115, (En.of ⟨rfl, rfl, Tvv⟩ ⟨rfl, Tvv⟩ ⟨rfl, Tvv⟩), h⟩
def Bb (N : Nat) (p_0 : Pin) (v1 : (List Int) × Bool) (v2 : List Int) (i236 : Int) (k : (List Int) → Option ((List (List Int)) × Bool)) : Nat → ((List Int) × Int) → Option ((List (List Int)) × Bool)
 | 0, _ => none
 | n + 1, (l303, k304) =>
  cnd (decide (k304 < (v2.length : Int))) (
   grd (0 ≤ i236 ∧ i236 < (v2.length : Int)) <|
   (Hl N p_0 v1.1 (v2.getD ((i236).toNat) 0)).bind fun v309 =>
   grd (0 ≤ k304 ∧ k304 < (v2.length : Int)) <|
   (Fc N v309 (v2.getD ((k304).toNat) 0)).bind fun v310 =>
   cnd v310 (
    (Hl N p_0 v1.1 (v2.getD ((k304).toNat) 0)).bind fun v311 =>
    (Fc N v311 (v2.getD ((i236).toNat) 0)).bind fun v312 =>
    cnd v312 (
     grd (l303.length + 1 ≤ 4294967296) <|
     grd (Bk (k304 + (1 : Int))) <|
     Bb N p_0 v1 v2 i236 k n ((l303 ++ ([(v2.getD ((k304).toNat) 0)] : List Int)), (k304 + (1 : Int)))) (
     grd (Bk (k304 + (1 : Int))) <|
     Bb N p_0 v1 v2 i236 k n (l303, (k304 + (1 : Int))))) (
    grd (Bk (k304 + (1 : Int))) <|
    Bb N p_0 v1 v2 i236 k n (l303, (k304 + (1 : Int))))) (
   k l303)
def Bc (N : Nat) (p_0 : Pin) (v1 : (List Int) × Bool) (v2 : List Int) (k : (List (List Int)) → Option ((List (List Int)) × Bool)) : Nat → ((List (List Int)) × Int) → Option ((List (List Int)) × Bool)
 | 0, _ => none
 | n + 1, (l235, i236) =>
  cnd (decide (i236 < (v2.length : Int))) (
   cnd v1.2 (
    Bb N p_0 v1 v2 i236 (fun (l293 : List Int) =>
       grd (0 ≤ (0 : Int) ∧ (0 : Int) < (l293.length : Int)) <|
       grd (0 ≤ i236 ∧ i236 < (v2.length : Int)) <|
       cnd ((l293.getD ((0 : Int).toNat) 0) == (v2.getD ((i236).toNat) 0)) (
        grd (l235.length + 1 ≤ 4294967296) <|
        grd (Bk (i236 + (1 : Int))) <|
        Bc N p_0 v1 v2 k n ((l235 ++ ([l293] : List (List Int))), (i236 + (1 : Int)))) (
        grd (Bk (i236 + (1 : Int))) <|
        Bc N p_0 v1 v2 k n (l235, (i236 + (1 : Int))))) N (([] : List Int), (0 : Int))) (
    k l235)) (
   k l235)
def Hu (N : Nat) (p_0 : Pin) : Option ((List (List Int)) × Bool) :=
 (Jn N p_0).bind fun v1 =>
 (Gg N p_0).bind fun v2 =>
 Bc N p_0 v1 v2 (fun (l157 : List (List Int)) =>
    some (l157, v1.2)) N (([] : List (List Int)), (0 : Int))
theorem Zc (N : Nat) (p_0 : Pin) (r : (List (List Int)) × Bool) (h : Hu N p_0 = some r) : PCall Try.prog 53 [pD p_0] [(35, .intss r.1)] (.tup [.row 0 0 r.1.length, .bool r.2]) := by
 unfold Hu at h
 refine Aj (TT := TT) tt Try.func53 rfl rfl Try.ntmps53 (congrArg Array.toList Try.results53) rfl rfl fun w0 => ?_
 refine Ah ?_
 refine Aa ?_
 refine Jc rfl rfl rfl rfl rfl rfl rfl rfl rfl ?_
 iterate 2 refine Ac tt rfl rfl rfl rfl rfl Tvv ?_
 refine Af ?_
 change VC _ _ _ _
 refine Ah ?_
 refine Aa ?_
 refine Gx tt (Ag rfl) rfl rfl rfl rfl ?_
 refine Ac tt rfl rfl rfl rfl rfl Tvv ?_
 refine Af ?_
 change VC _ _ _ _
 refine Ah ?_
 refine Aa ?_
 refine Ac tt rfl rfl rfl rfl rfl Tvv ?_
 obtain ⟨v1, hc1, h⟩ := Ai h
 refine Bm (Wc N p_0 v1 hc1) rfl rfl rfl rfl rfl rfl rfl rfl ⟨⟨rfl, rfl, rfl, Tvv⟩, Tvv⟩ ?_
 iterate 5 refine Ac tt rfl rfl rfl rfl rfl Tvv ?_
 refine Af ?_
 change VC _ _ _ _
 refine Ah ?_
 refine Aa ?_
 refine Ac tt rfl rfl rfl rfl rfl Tvv ?_
 obtain ⟨v2, hc2, h⟩ := Ai h
 refine Bm (Pp N p_0 v2 hc2) rfl rfl rfl rfl rfl rfl rfl rfl ⟨⟨rfl, rfl, rfl, Tvv⟩, Tvv⟩ ?_
 refine Ac tt rfl rfl rfl rfl rfl Tvv ?_
 refine Af ?_
 change VC _ _ _ _
 iterate 2 refine Ah ?_
 refine Aa ?_
 refine Ac tt rfl rfl rfl rfl rfl Tvv ?_
 refine Af ?_
 change VC _ _ _ _
 refine Cc (F := fun k => Bc N p_0 v1 v2 k) h (α := List (List Int)) (J := fun (l157 : List (List Int)) => (⟨[(4, .row 79 0 l157.length), (6, .bool v1.2)], [(79, some (35, .intss l157))], []⟩ : PS)) ?_ ?_
 ·rintro l157 h
  show VC _ _ _ (⟨[(4, .row 79 0 l157.length), (6, .bool v1.2)], [(79, some (35, .intss l157))], []⟩ : PS)
  refine Ah ?_
  refine Aa ?_
  iterate 4 refine Ac tt rfl rfl rfl rfl rfl Tvv ?_
  refine Af ?_
  change VC _ _ _ _
  refine Bh ?_
  change ∃ _, _
  cases h
  exact ⟨[79], _, rfl, ⟨rfl, Tvv⟩, rfl, (.eq rfl), rfl⟩
 intro k h
 refine Ar ?_
 refine Lp 4 79 35 (.intss []) rfl rfl rfl rfl ?_
 refine Ba (α := (List (List Int)) × Int) (fun | (l235, i236) => (⟨[(1, .ptr 1 0), (4, .row 79 0 l235.length), (5, .row 1140 0 v1.1.length), (6, .bool v1.2), (7, .row 1180 0 v2.length), (8, .int i236)], [(79, some (35, .intss l235)), (1140, some (3, .ints v1.1)), (1180, some (3, .ints v2))], [(1, some [.int p_0.g.n, .ro false (.pairs p_0.g.bars), .ro false (.ints p_0.ground)])]⟩ : PS)) (Bc N p_0 v1 v2 k) h (En.of ⟨rfl, rfl, rfl, rfl, rfl, rfl, Tvv⟩ ⟨rfl, rfl, rfl, Tvv⟩ ⟨rfl, Tvv⟩) (fun _ => rfl) ?_
 rintro n ⟨l235, i236⟩ h
 rw [Bc] at h
 show VC _ _ _ (⟨[(1, .ptr 1 0), (4, .row 79 0 l235.length), (5, .row 1140 0 v1.1.length), (6, .bool v1.2), (7, .row 1180 0 v2.length), (8, .int i236)], [(79, some (35, .intss l235)), (1140, some (3, .ints v1.1)), (1180, some (3, .ints v2))], [(1, some [.int p_0.g.n, .ro false (.pairs p_0.g.bars), .ro false (.ints p_0.ground)])]⟩ : PS)
 iterate 2 refine Ah ?_
 refine Aa ?_
 iterate 5 refine Ac tt rfl rfl rfl rfl rfl Tvv ?_
 refine Dc rfl rfl rfl (fun hb3 => ?_) (fun hb3 => ?_)
 ·replace h := Ao hb3 h
  refine Cl tt rfl rfl rfl rfl rfl hb3 rfl rfl rfl Tvv ?_
  refine Eo rfl rfl rfl rfl rfl hb3 rfl ?_
  refine Af ?_
  change VC _ _ _ _
  refine Av rfl (fun hb4 => ?_) (fun hb4 => ?_)
  ·replace h := Ao hb4 h
   refine Au ?_
   change VC _ _ _ _
   refine Ah ?_
   refine Ar ?_
   refine Ah ?_
   refine Aa ?_
   refine Gx tt (Ag rfl) rfl rfl rfl rfl ?_
   refine Ac tt rfl rfl rfl rfl rfl Tvv ?_
   refine Af ?_
   change VC _ _ _ _
   iterate 2 refine Ah ?_
   refine Aa ?_
   refine Ac tt rfl rfl rfl rfl rfl Tvv ?_
   refine Af ?_
   change VC _ _ _ _
   refine Cc (F := fun k => Bb N p_0 v1 v2 i236 k) h (α := List Int) (J := fun (l293 : List Int) => (⟨[(1, .ptr 1 0), (4, .row 79 0 l235.length), (5, .row 1140 0 v1.1.length), (6, .bool v1.2), (7, .row 1180 0 v2.length), (8, .int i236), (9, .row 67 0 l293.length)], [(79, some (35, .intss l235)), (1140, some (3, .ints v1.1)), (1180, some (3, .ints v2)), (67, some (3, .ints l293))], [(1, some [.int p_0.g.n, .ro false (.pairs p_0.g.bars), .ro false (.ints p_0.ground)])]⟩ : PS)) ?_ ?_
   ·rintro l293 h
    show VC _ _ _ (⟨[(1, .ptr 1 0), (4, .row 79 0 l235.length), (5, .row 1140 0 v1.1.length), (6, .bool v1.2), (7, .row 1180 0 v2.length), (8, .int i236), (9, .row 67 0 l293.length)], [(79, some (35, .intss l235)), (1140, some (3, .ints v1.1)), (1180, some (3, .ints v2)), (67, some (3, .ints l293))], [(1, some [.int p_0.g.n, .ro false (.pairs p_0.g.bars), .ro false (.ints p_0.ground)])]⟩ : PS)
    refine Ah ?_
    refine Ca (by kernel_rfl) (by kernel_rfl) ?_
    refine Bi tt rfl (Ag rfl) rfl rfl rfl Tvv ?_
    obtain ⟨hg5, h⟩ := Ab h
    iterate 2 refine Bi tt rfl (Ag rfl) rfl rfl rfl hg5 ?_
    iterate 2 refine Bi tt rfl (Ag rfl) rfl rfl rfl Tvv ?_
    obtain ⟨hg6, h⟩ := Ab h
    iterate 2 refine Bi tt rfl (Ag rfl) rfl rfl rfl hg6 ?_
    refine Bi tt rfl (Ag rfl) rfl rfl rfl Tvv ?_
    refine Lo ?_
    change VC _ _ _ _
    refine Av rfl (fun hb7 => ?_) (fun hb7 => ?_)
    ·replace h := Ao hb7 h
     refine Aa ?_
     iterate 2 refine Ac tt rfl rfl rfl rfl rfl Tvv ?_
     refine oFreeze (t := 77) rfl rfl rfl rfl ?_
     refine Dt tt rfl rfl rfl rfl rfl rfl rfl rfl rfl rfl rfl ?_
     obtain ⟨hg8, h⟩ := Ab h
     refine Cp tt rfl rfl rfl rfl rfl rfl rfl rfl rfl rfl rfl rfl rfl rfl rfl rfl (Nat.le_of_eq (Nat.zero_add _)) hg8 ?_
     refine Ac tt rfl rfl rfl rfl rfl Tvv ?_
     refine Af ?_
     change VC _ _ _ _
     refine Aa ?_
     refine Ac tt rfl rfl rfl rfl rfl Tvv ?_
     obtain ⟨hg9, h⟩ := Ab h
     refine Ac tt rfl rfl rfl rfl rfl hg9 ?_
     refine Ac tt rfl rfl rfl rfl rfl Tvv ?_
     refine Af ?_
     change ∃ _, _
     exact ⟨((l235 ++ ([l293] : List (List Int))), (i236 + (1 : Int))), (En.of ⟨rfl, rfl, rfl, rfl, rfl, rfl, Tvv⟩ ⟨rfl, rfl, rfl, Tvv⟩ ⟨rfl, Tvv⟩), h⟩
    replace h := Ap hb7 h
    refine Au ?_
    change VC _ _ _ _
    refine Aa ?_
    refine Ac tt rfl rfl rfl rfl rfl Tvv ?_
    obtain ⟨hg10, h⟩ := Ab h
    refine Ac tt rfl rfl rfl rfl rfl hg10 ?_
    refine Ac tt rfl rfl rfl rfl rfl Tvv ?_
    refine Af ?_
    change ∃ _, _
    exact ⟨(l235, (i236 + (1 : Int))), (En.of ⟨rfl, rfl, rfl, rfl, rfl, rfl, Tvv⟩ ⟨rfl, rfl, rfl, Tvv⟩ ⟨rfl, Tvv⟩), h⟩
   intro k h
   refine Ar ?_
   refine Lp 9 67 3 (.ints []) rfl rfl rfl rfl ?_
   refine Ba (α := (List Int) × Int) (fun | (l303, k304) => (⟨[(1, .ptr 1 0), (4, .row 79 0 l235.length), (5, .row 1140 0 v1.1.length), (6, .bool v1.2), (7, .row 1180 0 v2.length), (8, .int i236), (9, .row 67 0 l303.length), (10, .int k304)], [(79, some (35, .intss l235)), (1140, some (3, .ints v1.1)), (1180, some (3, .ints v2)), (67, some (3, .ints l303))], [(1, some [.int p_0.g.n, .ro false (.pairs p_0.g.bars), .ro false (.ints p_0.ground)])]⟩ : PS)) (Bb N p_0 v1 v2 i236 k) h (En.of ⟨rfl, rfl, rfl, rfl, rfl, rfl, rfl, rfl, Tvv⟩ ⟨rfl, rfl, rfl, rfl, Tvv⟩ ⟨rfl, Tvv⟩) (fun _ => rfl) ?_
   rintro n ⟨l303, k304⟩ h
   rw [Bb] at h
   show VC _ _ _ (⟨[(1, .ptr 1 0), (4, .row 79 0 l235.length), (5, .row 1140 0 v1.1.length), (6, .bool v1.2), (7, .row 1180 0 v2.length), (8, .int i236), (9, .row 67 0 l303.length), (10, .int k304)], [(79, some (35, .intss l235)), (1140, some (3, .ints v1.1)), (1180, some (3, .ints v2)), (67, some (3, .ints l303))], [(1, some [.int p_0.g.n, .ro false (.pairs p_0.g.bars), .ro false (.ints p_0.ground)])]⟩ : PS)
   iterate 2 refine Ah ?_
   refine Aa ?_
   iterate 4 refine Ac tt rfl rfl rfl rfl rfl Tvv ?_
   refine Af ?_
   change VC _ _ _ _
   refine Av rfl (fun hb11 => ?_) (fun hb11 => ?_)
   ·replace h := Ao hb11 h
    refine Au ?_
    change VC _ _ _ _
    refine Ah ?_
    refine Ar ?_
    refine Ah ?_
    refine Cd 24 [6, 19] [0, 0, 0, 0, 12, 28, 63, 0, 0, 384, 896, 2047, 4095, 8191, 8191, 8191, 8191, 106495, 237567, 524287, 8191, 8191, 3153919, 7348223, 16777215, 33554431] (by kernel_rfl) (by kernel_rfl) (by kernel_rfl) (by kernel_rfl) (by kernel_rfl) rfl (by rfl) ?_
    iterate 4 refine Cz tt rfl (Ag rfl) rfl rfl rfl rfl rfl Tvv ?_
    obtain ⟨hg12, h⟩ := Ab h
    iterate 2 refine Cz tt rfl (Ag rfl) rfl rfl rfl rfl rfl hg12 ?_
    obtain ⟨v309, hc13, h⟩ := Ai h
    refine Pg (Qh N p_0 v1.1 (v2.getD ((i236).toNat) 0) v309 hc13) rfl (Ag rfl) rfl rfl rfl rfl rfl rfl (by first | rfl | kernel_rfl | (simp [nrL, nm, Fj, nmT, Gu]; done)) rfl (by first | rfl | kernel_rfl | (simp [Kp, nrL, nm, Fj, nmT, Gu, hid, Fp, Dg, Cj]; done) | (simp [Kp, nrL, nm, Fj, nmT, Gu, hid, Fp, Dg, Cj]; decide)) ⟨⟨rfl, rfl, rfl, Tvv⟩, (.inl ⟨rfl, rfl⟩), rfl, Tvv⟩ ?_
    iterate 2 refine Cz tt rfl (Ag rfl) rfl rfl rfl rfl rfl Tvv ?_
    obtain ⟨hg14, h⟩ := Ab h
    iterate 2 refine Cz tt rfl (Ag rfl) rfl rfl rfl rfl rfl hg14 ?_
    obtain ⟨v310, hc15, h⟩ := Ai h
    refine nCall (Fg N v309 (v2.getD ((k304).toNat) 0) v310 hc15) rfl (Ag rfl) rfl rfl rfl rfl rfl rfl rfl rfl ⟨(.inl ⟨rfl, rfl⟩), rfl, Tvv⟩ ?_
    refine Cz tt rfl (Ag rfl) rfl rfl rfl rfl rfl Tvv ?_
    refine nSplit rfl rfl rfl (fun hb16 => ?_) (fun hb16 => ?_)
    ·replace h := Ao hb16 h
     iterate 4 refine Cz tt rfl (Be rfl rfl rfl rfl hb16) rfl rfl rfl rfl rfl Tvv ?_
     iterate 2 refine Cz tt rfl (Be rfl rfl rfl rfl hb16) rfl rfl rfl rfl rfl hg14 ?_
     obtain ⟨v311, hc17, h⟩ := Ai h
     refine Pg (Qh N p_0 v1.1 (v2.getD ((k304).toNat) 0) v311 hc17) rfl (Be rfl rfl rfl rfl hb16) rfl rfl rfl rfl rfl rfl (by first | rfl | kernel_rfl | (simp [nrL, nm, Fj, nmT, Gu]; done)) rfl (by first | rfl | kernel_rfl | (simp [Kp, nrL, nm, Fj, nmT, Gu, hid, Fp, Dg, Cj]; done) | (simp [Kp, nrL, nm, Fj, nmT, Gu, hid, Fp, Dg, Cj]; decide)) ⟨⟨rfl, rfl, rfl, Tvv⟩, (.inl ⟨rfl, rfl⟩), rfl, Tvv⟩ ?_
     iterate 2 refine Cz tt rfl (Be rfl rfl rfl rfl hb16) rfl rfl rfl rfl rfl Tvv ?_
     iterate 2 refine Cz tt rfl (Be rfl rfl rfl rfl hb16) rfl rfl rfl rfl rfl hg12 ?_
     refine Su ?_
     change VO _ _ _ _ _
     obtain ⟨v312, hc18, h⟩ := Ai h
     refine Qm (Fg N v311 (v2.getD ((i236).toNat) 0) v312 hc18) rfl rfl rfl rfl hb16 rfl rfl rfl rfl rfl rfl rfl ⟨(.inl ⟨rfl, rfl⟩), rfl, Tvv⟩ ?_
     refine Eo rfl rfl rfl rfl rfl hb16 rfl ?_
     refine Af ?_
     change VC _ _ _ _
     refine Av rfl (fun hb19 => ?_) (fun hb19 => ?_)
     ·replace h := Ao hb19 h
      refine Aa ?_
      iterate 3 refine Ac tt rfl rfl rfl rfl rfl Tvv ?_
      iterate 2 refine Ac tt rfl rfl rfl rfl rfl hg14 ?_
      refine Dt tt rfl rfl rfl rfl rfl rfl rfl rfl rfl rfl rfl ?_
      obtain ⟨hg20, h⟩ := Ab h
      refine Cp tt rfl rfl rfl rfl rfl rfl rfl rfl rfl rfl rfl rfl rfl rfl rfl rfl (Nat.le_of_eq (Nat.zero_add _)) hg20 ?_
      refine Ac tt rfl rfl rfl rfl rfl Tvv ?_
      refine Af ?_
      change VC _ _ _ _
      refine Aa ?_
      refine Ac tt rfl rfl rfl rfl rfl Tvv ?_
      obtain ⟨hg21, h⟩ := Ab h
      refine Ac tt rfl rfl rfl rfl rfl hg21 ?_
      refine Ac tt rfl rfl rfl rfl rfl Tvv ?_
      refine Af ?_
      change ∃ _, _
      exact ⟨((l303 ++ ([(v2.getD ((k304).toNat) 0)] : List Int)), (k304 + (1 : Int))), (En.of ⟨rfl, rfl, rfl, rfl, rfl, rfl, rfl, rfl, Tvv⟩ ⟨rfl, rfl, rfl, rfl, Tvv⟩ ⟨rfl, Tvv⟩), h⟩
     replace h := Ap hb19 h
     refine Au ?_
     change VC _ _ _ _
     refine Aa ?_
     refine Ac tt rfl rfl rfl rfl rfl Tvv ?_
     obtain ⟨hg22, h⟩ := Ab h
     refine Ac tt rfl rfl rfl rfl rfl hg22 ?_
     refine Ac tt rfl rfl rfl rfl rfl Tvv ?_
     refine Af ?_
     change ∃ _, _
     exact ⟨(l303, (k304 + (1 : Int))), (En.of ⟨rfl, rfl, rfl, rfl, rfl, rfl, rfl, rfl, Tvv⟩ ⟨rfl, rfl, rfl, rfl, Tvv⟩ ⟨rfl, Tvv⟩), h⟩
    replace h := Ap hb16 h
    iterate 11 refine nNoT rfl rfl rfl rfl hb16 rfl rfl ?_
    refine Su ?_
    change VO _ _ _ _ _
    refine Zf rfl rfl rfl rfl hb16 rfl rfl ?_
    refine Cv rfl rfl rfl rfl rfl hb16 rfl ?_
    refine Af ?_
    change VC _ _ _ _
    refine Gw rfl rfl ?_
    refine Au ?_
    change VC _ _ _ _
    refine Aa ?_
    refine Ac tt rfl rfl rfl rfl rfl Tvv ?_
    obtain ⟨hg23, h⟩ := Ab h
    refine Ac tt rfl rfl rfl rfl rfl hg23 ?_
    refine Ac tt rfl rfl rfl rfl rfl Tvv ?_
    refine Af ?_
    change ∃ _, _
    exact ⟨(l303, (k304 + (1 : Int))), (En.of ⟨rfl, rfl, rfl, rfl, rfl, rfl, rfl, rfl, Tvv⟩ ⟨rfl, rfl, rfl, rfl, Tvv⟩ ⟨rfl, Tvv⟩), h⟩
   replace h := Ap hb11 h
   refine Bl ?_
   change ∃ _, _
   exact ⟨l303, (En.of ⟨rfl, rfl, rfl, rfl, rfl, rfl, rfl, Tvv⟩ ⟨rfl, rfl, rfl, rfl, Tvv⟩ ⟨rfl, Tvv⟩), h⟩
  replace h := Ap hb4 h
  refine Bl ?_
  change ∃ _, _
  exact ⟨l235, (En.of ⟨rfl, rfl, Tvv⟩ ⟨rfl, Tvv⟩ trivial), h⟩
 replace h := Ap hb3 h
 refine Zf rfl rfl rfl rfl hb3 rfl rfl ?_
 refine Cv rfl rfl rfl rfl rfl hb3 rfl ?_
 refine Af ?_
 change VC _ _ _ _
 refine Gw rfl rfl ?_
 refine Bl ?_
 change ∃ _, _
 exact ⟨l235, (En.of ⟨rfl, rfl, Tvv⟩ ⟨rfl, Tvv⟩ trivial), h⟩
def Bj (N : Nat) (p_0 : Pin) (x190 : Int) (x262 : Int) (k : (List (List Bool)) → Option ((List (List Bool)) × Bool)) : Nat → ((List (List Bool)) × Int) → Option ((List (List Bool)) × Bool)
 | 0, _ => none
 | n + 1, (l273, x274) =>
  cnd (decide (x274 < ((List.replicate ((p_0.g.n).toNat) ([] : (List Bool))).length : Int))) (
   grd (0 ≤ x262 ∧ x262 < ((List.replicate ((p_0.g.n).toNat) ([] : (List Bool))).length : Int)) <|
   grd (0 ≤ x262 ∧ x262 < (l273.length : Int)) <|
   grd (0 ≤ x274 ∧ x274 < ((l273.getD ((x262).toNat) []).length : Int)) <|
   cnd ((l273.getD ((x262).toNat) []).getD ((x274).toNat) false) (
    grd (Bk (x274 + (1 : Int))) <|
    Bj N p_0 x190 x262 k n ((l273.set ((x262).toNat) ((l273.getD ((x262).toNat) []).set ((x274).toNat) true)), (x274 + (1 : Int)))) (
    grd (0 ≤ x190 ∧ x190 < ((l273.getD ((x262).toNat) []).length : Int)) <|
    cnd ((l273.getD ((x262).toNat) []).getD ((x190).toNat) false) (
     grd (0 ≤ x190 ∧ x190 < ((List.replicate ((p_0.g.n).toNat) ([] : (List Bool))).length : Int)) <|
     grd (0 ≤ x190 ∧ x190 < (l273.length : Int)) <|
     grd (0 ≤ x274 ∧ x274 < ((l273.getD ((x190).toNat) []).length : Int)) <|
     grd (Bk (x274 + (1 : Int))) <|
     Bj N p_0 x190 x262 k n ((l273.set ((x262).toNat) ((l273.getD ((x262).toNat) []).set ((x274).toNat) ((l273.getD ((x190).toNat) []).getD ((x274).toNat) false))), (x274 + (1 : Int)))) (
     grd (Bk (x274 + (1 : Int))) <|
     Bj N p_0 x190 x262 k n ((l273.set ((x262).toNat) ((l273.getD ((x262).toNat) []).set ((x274).toNat) false)), (x274 + (1 : Int)))))) (
   k l273)
def Bo (N : Nat) (p_0 : Pin) (x190 : Int) (k : (List (List Bool)) → Option ((List (List Bool)) × Bool)) : Nat → ((List (List Bool)) × Int) → Option ((List (List Bool)) × Bool)
 | 0, _ => none
 | n + 1, (l261, x262) =>
  cnd (decide (x262 < ((List.replicate ((p_0.g.n).toNat) ([] : (List Bool))).length : Int))) (
   Bj N p_0 x190 x262 (fun (l271 : List (List Bool)) =>
      grd (Bk (x262 + (1 : Int))) <|
      Bo N p_0 x190 k n (l271, (x262 + (1 : Int)))) N (l261, (0 : Int))) (
   k l261)
def Bq (N : Nat) (p_0 : Pin) (k : (List (List Bool)) → Option ((List (List Bool)) × Bool)) : Nat → ((List (List Bool)) × Int) → Option ((List (List Bool)) × Bool)
 | 0, _ => none
 | n + 1, (l189, x190) =>
  cnd (decide (x190 < ((List.replicate ((p_0.g.n).toNat) ([] : (List Bool))).length : Int))) (
   Bo N p_0 x190 (fun (l253 : List (List Bool)) =>
      grd (Bk (x190 + (1 : Int))) <|
      Bq N p_0 k n (l253, (x190 + (1 : Int)))) N (l189, (0 : Int))) (
   k l189)
def Bd (N : Nat) (p_0 : Pin) (v1 : (List Int) × Bool) (k : (List (List Bool)) → Option ((List (List Bool)) × Bool)) : Nat → ((List (List Bool)) × Int) → Option ((List (List Bool)) × Bool)
 | 0, _ => none
 | n + 1, (l278, x279) =>
  cnd (decide (x279 < (v1.1.length : Int))) (
   grd (0 ≤ x279 ∧ x279 < (v1.1.length : Int)) <|
   grd (0 ≤ x279 ∧ x279 < (p_0.g.bars.length : Int)) <|
   (Fz N (p_0.g.bars.getD ((x279).toNat) (0, 0)) (v1.1.getD ((x279).toNat) 0)).bind fun v282 =>
   (Ci N p_0 v282).bind fun v283 =>
   cnd v283 (
    grd (0 ≤ (v1.1.getD ((x279).toNat) 0) ∧ (v1.1.getD ((x279).toNat) 0) < ((List.replicate ((p_0.g.n).toNat) ([] : (List Bool))).length : Int)) <|
    grd (0 ≤ (v1.1.getD ((x279).toNat) 0) ∧ (v1.1.getD ((x279).toNat) 0) < (l278.length : Int)) <|
    grd (0 ≤ v282 ∧ v282 < ((l278.getD (((v1.1.getD ((x279).toNat) 0)).toNat) []).length : Int)) <|
    grd (Bk (x279 + (1 : Int))) <|
    Bd N p_0 v1 k n ((l278.set (((v1.1.getD ((x279).toNat) 0)).toNat) ((l278.getD (((v1.1.getD ((x279).toNat) 0)).toNat) []).set ((v282).toNat) true)), (x279 + (1 : Int)))) (
    grd (Bk (x279 + (1 : Int))) <|
    Bd N p_0 v1 k n (l278, (x279 + (1 : Int))))) (
   k l278)
def Br (N : Nat) (p_0 : Pin) (k : (List (List Bool)) → Option ((List (List Bool)) × Bool)) : Nat → ((List (List Bool)) × Int) → Option ((List (List Bool)) × Bool)
 | 0, _ => none
 | n + 1, (l286, x287) =>
  cnd (decide (x287 < ((List.replicate ((p_0.g.n).toNat) ([] : (List Bool))).length : Int))) (
   grd (0 ≤ x287 ∧ x287 < ((List.replicate ((p_0.g.n).toNat) ([] : (List Bool))).length : Int)) <|
   grd (0 ≤ x287 ∧ x287 < (l286.length : Int)) <|
   grd (0 ≤ x287 ∧ x287 < ((l286.set ((x287).toNat) (List.replicate ((p_0.g.n).toNat) (false : Bool))).length : Int)) <|
   (Ci N p_0 x287).bind fun v289 =>
   grd (0 ≤ x287 ∧ x287 < (((l286.set ((x287).toNat) (List.replicate ((p_0.g.n).toNat) (false : Bool))).getD ((x287).toNat) []).length : Int)) <|
   grd (Bk (x287 + (1 : Int))) <|
   Br N p_0 k n (((l286.set ((x287).toNat) (List.replicate ((p_0.g.n).toNat) (false : Bool))).set ((x287).toNat) (((l286.set ((x287).toNat) (List.replicate ((p_0.g.n).toNat) (false : Bool))).getD ((x287).toNat) []).set ((x287).toNat) v289)), (x287 + (1 : Int)))) (
   k l286)
def Hm (N : Nat) (p_0 : Pin) : Option ((List (List Bool)) × Bool) :=
 (Fh N p_0).bind fun v1 =>
 cnd (!v1.2) (
  some (([] : List (List Bool)), false)) (
  grd (0 ≤ p_0.g.n ∧ p_0.g.n ≤ 4294967296) <|
  Br N p_0 (fun (l7 : List (List Bool)) =>
     Bd N p_0 v1 (fun (l16 : List (List Bool)) =>
        Bq N p_0 (fun (l145 : List (List Bool)) =>
           grd ((List.replicate ((p_0.g.n).toNat) ([] : (List Bool))).length = l145.length) <|
           some (l145, true)) N (l16, (0 : Int))) N (l7, (0 : Int))) N ((List.replicate ((p_0.g.n).toNat) ([] : (List Bool))), (0 : Int)))
theorem Re (N : Nat) (p_0 : Pin) (r : (List (List Bool)) × Bool) (h : Hm N p_0 = some r) : PCallD Try.prog 89 [pD p_0] 128 4 (.boolss r.1) (.tup [.row 0 0 r.1.length, .bool r.2]) := by
 unfold Hm at h
 refine Qa (TT := TT) tt Try.func89 rfl rfl Try.ntmps89 (congrArg Array.toList Try.results89) rfl rfl rfl fun w0 => ?_
 refine Ah ?_
 refine Aa ?_
 refine Jc rfl rfl rfl rfl rfl rfl rfl rfl rfl ?_
 iterate 2 refine Ac tt rfl rfl rfl rfl rfl Tvv ?_
 refine Af ?_
 change VC _ _ _ _
 refine Ah ?_
 refine Aa ?_
 refine Ac tt rfl rfl rfl rfl rfl Tvv ?_
 obtain ⟨v1, hc1, h⟩ := Ai h
 refine Bm (I_OwnersOf_w N p_0 v1 hc1) rfl rfl rfl rfl rfl rfl rfl rfl ⟨⟨rfl, rfl, rfl, Tvv⟩, Tvv⟩ ?_
 iterate 5 refine Ac tt rfl rfl rfl rfl rfl Tvv ?_
 refine Af ?_
 change VC _ _ _ _
 iterate 2 refine Ah ?_
 refine Aa ?_
 iterate 2 refine Ac tt rfl rfl rfl rfl rfl Tvv ?_
 refine Af ?_
 change VC _ _ _ _
 refine Av rfl (fun hb2 => ?_) (fun hb2 => ?_)
 ·replace h := Ao hb2 h
  refine Ah ?_
  refine Aa ?_
  iterate 2 refine Ac tt rfl rfl rfl rfl rfl Tvv ?_
  refine Af ?_
  change VC _ _ _ _
  refine Lp 2 9001 128 (.boolss []) rfl rfl rfl rfl ?_
  refine vEn (En.newFam 11 4 (.bools []) rfl rfl rfl rfl (fun _ h => by cases h) rfl) ?_
  refine vEn (En.asRefs 9001 11 (q := .boolss []) (qR := dR 11 (.boolss [])) rfl rfl rfl rfl) ?_
  refine Bh ?_
  change ∃ _, _
  cases h
  exact ⟨9001, 11, _, rfl, rfl, rfl, rfl, rfl, (.eq rfl), rfl⟩
 replace h := Ap hb2 h
 refine Au ?_
 change VC _ _ _ _
 refine Ah ?_
 refine Aa ?_
 iterate 3 refine Ac tt rfl rfl rfl rfl rfl Tvv ?_
 obtain ⟨hg3, h⟩ := Ab h
 refine oMakeD 10 4 (.boolss (List.replicate ((p_0.g.n).toNat) ([] : (List Bool)))) tt rfl rfl rfl rfl rfl rfl rfl rfl rfl rfl rfl rfl (fun _ h => by cases h) rfl (m := (List.replicate ((p_0.g.n).toNat) ([] : (List Bool))).length) rfl rfl (zeroB _) hg3 ?_
 refine Ac tt rfl rfl rfl rfl rfl Tvv ?_
 refine Af ?_
 change VC _ _ _ _
 iterate 2 refine Ah ?_
 refine Aa ?_
 iterate 3 refine Ac tt rfl rfl rfl rfl rfl Tvv ?_
 refine Af ?_
 change VC _ _ _ _
 refine Cc (F := fun k => Br N p_0 k) h (α := List (List Bool)) (J := fun (l7 : List (List Bool)) => (⟨[(1, .ptr 1 0), (4, .row 1160 0 v1.1.length), (6, .row 24 0 ((List.replicate ((p_0.g.n).toNat) ([] : (List Bool))).length))], [(1160, some (3, .ints v1.1)), (24, some (128, dR 10 (.boolss l7))), (8589934602, some (4, dF (.boolss l7)))], [(1, some [.int p_0.g.n, .ro false (.pairs p_0.g.bars), .ro false (.ints p_0.ground)])]⟩ : PS)) ?_ ?_
 ·rintro l7 h
  show VC _ _ _ (⟨[(1, .ptr 1 0), (4, .row 1160 0 v1.1.length), (6, .row 24 0 ((List.replicate ((p_0.g.n).toNat) ([] : (List Bool))).length))], [(1160, some (3, .ints v1.1)), (24, some (128, dR 10 (.boolss l7))), (8589934602, some (4, dF (.boolss l7)))], [(1, some [.int p_0.g.n, .ro false (.pairs p_0.g.bars), .ro false (.ints p_0.ground)])]⟩ : PS)
  iterate 2 refine Ah ?_
  refine Aa ?_
  iterate 3 refine Ac tt rfl rfl rfl rfl rfl Tvv ?_
  refine Af ?_
  change VC _ _ _ _
  refine Cc (F := fun k => Bd N p_0 v1 k) h (α := List (List Bool)) (J := fun (l16 : List (List Bool)) => (⟨[(6, .row 24 0 ((List.replicate ((p_0.g.n).toNat) ([] : (List Bool))).length))], [(24, some (128, dR 10 (.boolss l16))), (8589934602, some (4, dF (.boolss l16)))], []⟩ : PS)) ?_ ?_
  ·rintro l16 h
   show VC _ _ _ (⟨[(6, .row 24 0 ((List.replicate ((p_0.g.n).toNat) ([] : (List Bool))).length))], [(24, some (128, dR 10 (.boolss l16))), (8589934602, some (4, dF (.boolss l16)))], []⟩ : PS)
   iterate 2 refine Ah ?_
   refine Aa ?_
   iterate 3 refine Ac tt rfl rfl rfl rfl rfl Tvv ?_
   refine Af ?_
   change VC _ _ _ _
   refine Cc (F := fun k => Bq N p_0 k) h (α := List (List Bool)) (J := fun (l145 : List (List Bool)) => (⟨[(6, .row 24 0 ((List.replicate ((p_0.g.n).toNat) ([] : (List Bool))).length))], [(24, some (128, dR 10 (.boolss l145))), (8589934602, some (4, dF (.boolss l145)))], []⟩ : PS)) ?_ ?_
   ·rintro l145 h
    show VC _ _ _ (⟨[(6, .row 24 0 ((List.replicate ((p_0.g.n).toNat) ([] : (List Bool))).length))], [(24, some (128, dR 10 (.boolss l145))), (8589934602, some (4, dF (.boolss l145)))], []⟩ : PS)
    refine Ah ?_
    refine Aa ?_
    iterate 3 refine Ac tt rfl rfl rfl rfl rfl Tvv ?_
    refine Af ?_
    change VC _ _ _ _
    obtain ⟨hg4, h⟩ := Ab h
    refine Bh ?_
    change ∃ _, _
    cases h
    exact ⟨24, 10, _, rfl, rfl, rfl, rfl, rfl, (.eq (by simp only [hg4]; rfl)), rfl⟩
   intro k h
   refine Ar ?_
   refine Ba (α := (List (List Bool)) × Int) (fun | (l189, x190) => (⟨[(6, .row 24 0 ((List.replicate ((p_0.g.n).toNat) ([] : (List Bool))).length)), (73, .int ((List.replicate ((p_0.g.n).toNat) ([] : (List Bool))).length : Int)), (74, .int x190)], [(24, some (128, dR 10 (.boolss l189))), (8589934602, some (4, dF (.boolss l189)))], []⟩ : PS)) (Bq N p_0 k) h (En.of ⟨rfl, rfl, rfl, Tvv⟩ ⟨rfl, rfl, Tvv⟩ trivial) (fun _ => rfl) ?_
   rintro n ⟨l189, x190⟩ h
   rw [Bq] at h
   show VC _ _ _ (⟨[(6, .row 24 0 ((List.replicate ((p_0.g.n).toNat) ([] : (List Bool))).length)), (73, .int ((List.replicate ((p_0.g.n).toNat) ([] : (List Bool))).length : Int)), (74, .int x190)], [(24, some (128, dR 10 (.boolss l189))), (8589934602, some (4, dF (.boolss l189)))], []⟩ : PS)
   refine Ah ?_
   refine Aa ?_
   refine Ac tt rfl rfl rfl rfl rfl Tvv ?_
   refine Af ?_
   change VC _ _ _ _
   refine Ah ?_
   refine Av rfl (fun hb5 => ?_) (fun hb5 => ?_)
   ·replace h := Ao hb5 h
    refine Au ?_
    change VC _ _ _ _
    refine Ah ?_
    refine Ar ?_
    refine Ah ?_
    refine Aa ?_
    iterate 2 refine Ac tt rfl rfl rfl rfl rfl Tvv ?_
    refine Af ?_
    change VC _ _ _ _
    refine Ah ?_
    refine Aa ?_
    iterate 3 refine Ac tt rfl rfl rfl rfl rfl Tvv ?_
    refine Af ?_
    change VC _ _ _ _
    refine Cc (F := fun k => Bo N p_0 x190 k) h (α := List (List Bool)) (J := fun (l253 : List (List Bool)) => (⟨[(6, .row 24 0 ((List.replicate ((p_0.g.n).toNat) ([] : (List Bool))).length)), (73, .int ((List.replicate ((p_0.g.n).toNat) ([] : (List Bool))).length : Int)), (74, .int x190)], [(24, some (128, dR 10 (.boolss l253))), (8589934602, some (4, dF (.boolss l253)))], []⟩ : PS)) ?_ ?_
    ·rintro l253 h
     show VC _ _ _ (⟨[(6, .row 24 0 ((List.replicate ((p_0.g.n).toNat) ([] : (List Bool))).length)), (73, .int ((List.replicate ((p_0.g.n).toNat) ([] : (List Bool))).length : Int)), (74, .int x190)], [(24, some (128, dR 10 (.boolss l253))), (8589934602, some (4, dF (.boolss l253)))], []⟩ : PS)
     refine Aa ?_
     obtain ⟨hg6, h⟩ := Ab h
     refine Ac tt rfl rfl rfl rfl rfl hg6 ?_
     refine Ac tt rfl rfl rfl rfl rfl Tvv ?_
     refine Af ?_
     change ∃ _, _
     exact ⟨(l253, (x190 + (1 : Int))), (En.of ⟨rfl, rfl, rfl, Tvv⟩ ⟨rfl, rfl, Tvv⟩ trivial), h⟩
    intro k h
    refine Ar ?_
    refine Ba (α := (List (List Bool)) × Int) (fun | (l261, x262) => (⟨[(6, .row 24 0 ((List.replicate ((p_0.g.n).toNat) ([] : (List Bool))).length)), (11, .int x190), (73, .int ((List.replicate ((p_0.g.n).toNat) ([] : (List Bool))).length : Int)), (74, .int x190), (78, .int ((List.replicate ((p_0.g.n).toNat) ([] : (List Bool))).length : Int)), (79, .int x262)], [(24, some (128, dR 10 (.boolss l261))), (8589934602, some (4, dF (.boolss l261)))], []⟩ : PS)) (Bo N p_0 x190 k) h (En.of ⟨rfl, rfl, rfl, rfl, rfl, rfl, Tvv⟩ ⟨rfl, rfl, Tvv⟩ trivial) (fun _ => rfl) ?_
    rintro n ⟨l261, x262⟩ h
    rw [Bo] at h
    show VC _ _ _ (⟨[(6, .row 24 0 ((List.replicate ((p_0.g.n).toNat) ([] : (List Bool))).length)), (11, .int x190), (73, .int ((List.replicate ((p_0.g.n).toNat) ([] : (List Bool))).length : Int)), (74, .int x190), (78, .int ((List.replicate ((p_0.g.n).toNat) ([] : (List Bool))).length : Int)), (79, .int x262)], [(24, some (128, dR 10 (.boolss l261))), (8589934602, some (4, dF (.boolss l261)))], []⟩ : PS)
    refine Ah ?_
    refine Aa ?_
    refine Ac tt rfl rfl rfl rfl rfl Tvv ?_
    refine Af ?_
    change VC _ _ _ _
    refine Ah ?_
    refine Av rfl (fun hb7 => ?_) (fun hb7 => ?_)
    ·replace h := Ao hb7 h
     refine Au ?_
     change VC _ _ _ _
     refine Ah ?_
     refine Ar ?_
     refine Ah ?_
     refine Aa ?_
     iterate 2 refine Ac tt rfl rfl rfl rfl rfl Tvv ?_
     refine Af ?_
     change VC _ _ _ _
     refine Ah ?_
     refine Aa ?_
     iterate 3 refine Ac tt rfl rfl rfl rfl rfl Tvv ?_
     refine Af ?_
     change VC _ _ _ _
     refine Cc (F := fun k => Bj N p_0 x190 x262 k) h (α := List (List Bool)) (J := fun (l271 : List (List Bool)) => (⟨[(6, .row 24 0 ((List.replicate ((p_0.g.n).toNat) ([] : (List Bool))).length)), (11, .int x190), (73, .int ((List.replicate ((p_0.g.n).toNat) ([] : (List Bool))).length : Int)), (74, .int x190), (78, .int ((List.replicate ((p_0.g.n).toNat) ([] : (List Bool))).length : Int)), (79, .int x262)], [(24, some (128, dR 10 (.boolss l271))), (8589934602, some (4, dF (.boolss l271)))], []⟩ : PS)) ?_ ?_
     ·rintro l271 h
      show VC _ _ _ (⟨[(6, .row 24 0 ((List.replicate ((p_0.g.n).toNat) ([] : (List Bool))).length)), (11, .int x190), (73, .int ((List.replicate ((p_0.g.n).toNat) ([] : (List Bool))).length : Int)), (74, .int x190), (78, .int ((List.replicate ((p_0.g.n).toNat) ([] : (List Bool))).length : Int)), (79, .int x262)], [(24, some (128, dR 10 (.boolss l271))), (8589934602, some (4, dF (.boolss l271)))], []⟩ : PS)
      refine Aa ?_
      obtain ⟨hg8, h⟩ := Ab h
      refine Ac tt rfl rfl rfl rfl rfl hg8 ?_
      refine Ac tt rfl rfl rfl rfl rfl Tvv ?_
      refine Af ?_
      change ∃ _, _
      exact ⟨(l271, (x262 + (1 : Int))), (En.of ⟨rfl, rfl, rfl, rfl, rfl, rfl, Tvv⟩ ⟨rfl, rfl, Tvv⟩ trivial), h⟩
     intro k h
     refine Ar ?_
     refine Ba (α := (List (List Bool)) × Int) (fun | (l273, x274) => (⟨[(6, .row 24 0 ((List.replicate ((p_0.g.n).toNat) ([] : (List Bool))).length)), (11, .int x190), (12, .int x262), (73, .int ((List.replicate ((p_0.g.n).toNat) ([] : (List Bool))).length : Int)), (74, .int x190), (78, .int ((List.replicate ((p_0.g.n).toNat) ([] : (List Bool))).length : Int)), (79, .int x262), (83, .int ((List.replicate ((p_0.g.n).toNat) ([] : (List Bool))).length : Int)), (84, .int x274)], [(24, some (128, dR 10 (.boolss l273))), (8589934602, some (4, dF (.boolss l273)))], []⟩ : PS)) (Bj N p_0 x190 x262 k) h (En.of ⟨rfl, rfl, rfl, rfl, rfl, rfl, rfl, rfl, rfl, Tvv⟩ ⟨rfl, rfl, Tvv⟩ trivial) (fun _ => rfl) ?_
     rintro n ⟨l273, x274⟩ h
     rw [Bj] at h
     show VC _ _ _ (⟨[(6, .row 24 0 ((List.replicate ((p_0.g.n).toNat) ([] : (List Bool))).length)), (11, .int x190), (12, .int x262), (73, .int ((List.replicate ((p_0.g.n).toNat) ([] : (List Bool))).length : Int)), (74, .int x190), (78, .int ((List.replicate ((p_0.g.n).toNat) ([] : (List Bool))).length : Int)), (79, .int x262), (83, .int ((List.replicate ((p_0.g.n).toNat) ([] : (List Bool))).length : Int)), (84, .int x274)], [(24, some (128, dR 10 (.boolss l273))), (8589934602, some (4, dF (.boolss l273)))], []⟩ : PS)
     refine Ah ?_
     refine Aa ?_
     refine Ac tt rfl rfl rfl rfl rfl Tvv ?_
     refine Af ?_
     change VC _ _ _ _
     refine Ah ?_
     refine Av rfl (fun hb9 => ?_) (fun hb9 => ?_)
     ·replace h := Ao hb9 h
      refine Au ?_
      change VC _ _ _ _
      refine Ah ?_
      refine Ar ?_
      refine Ah ?_
      refine Aa ?_
      iterate 2 refine Ac tt rfl rfl rfl rfl rfl Tvv ?_
      refine Af ?_
      change VC _ _ _ _
      refine Cd 30 [] [0, 0, 3, 7, 0, 0, 0, 96, 224, 0, 992, 2016, 4064, 8160, 8160, 32736, 65504, 8160, 262112, 524256, 1048544, 2097120, 2097120, 8388576, 16777184, 2097120, 67108832, 134217696, 268435424, 536870880, 1073741823, 2147483647] (by kernel_rfl) (by kernel_rfl) (by kernel_rfl) (by kernel_rfl) (by kernel_rfl) rfl (by rfl) ?_
      iterate 2 refine Cz tt rfl (Ag rfl) rfl rfl rfl rfl rfl Tvv ?_
      obtain ⟨hg10, h⟩ := Ab h
      refine Cz tt rfl (Ag rfl) rfl rfl rfl rfl rfl hg10 ?_
      obtain ⟨hg11, h⟩ := Ab h
      refine nLoadD tt (Ag rfl) (.boolss l273) rfl rfl rfl rfl rfl rfl rfl rfl rfl rfl rfl hg11 ?_
      iterate 3 refine Cz tt rfl (Ag rfl) rfl rfl rfl rfl rfl Tvv ?_
      refine Cz tt rfl (Ag rfl) rfl rfl rfl rfl rfl hg10 ?_
      refine nLoadD tt (Ag rfl) (.boolss l273) rfl rfl rfl rfl rfl rfl rfl rfl rfl rfl rfl hg11 ?_
      refine Cz tt rfl (Ag rfl) rfl rfl rfl rfl rfl Tvv ?_
      obtain ⟨hg12, h⟩ := Ab h
      refine Wi (Ag rfl) (Sr tt (q := (.boolss l273)) rfl rfl rfl rfl rfl rfl (by simp only [Sq.len, List.length_set, List.length_append, List.length_replicate] at *; omega) rfl hg12) rfl rfl rfl ?_
      refine Wi (Ag rfl) (Ta tt (q := (.boolss l273)) rfl rfl rfl rfl rfl (by simp only [Sq.len, List.length_set, List.length_append, List.length_replicate] at *; omega) hg12 rfl) rfl rfl rfl ?_
      refine Cz tt rfl (Ag rfl) rfl rfl rfl rfl rfl Tvv ?_
      refine nSplit rfl rfl rfl (fun hb13 => ?_) (fun hb13 => ?_)
      ·replace h := Ao hb13 h
       iterate 8 refine nNoF rfl rfl rfl rfl hb13 rfl rfl ?_
       iterate 7 refine nNoU rfl rfl rfl rfl rfl ?_
       refine nNoF rfl rfl rfl rfl hb13 rfl rfl ?_
       refine nPickT rfl (Ag rfl) rfl rfl rfl hb13 rfl rfl ?_
       refine Su ?_
       change VO _ _ _ _ _
       refine Wg (Ag rfl) (Sr tt (q := (.boolss l273)) rfl rfl rfl rfl rfl rfl (by simp only [Sq.len, List.length_set, List.length_append, List.length_replicate] at *; omega) rfl hg12) rfl rfl ?_
       refine Za 24 (.boolss (l273.set ((x262).toNat) ((l273.getD ((x262).toNat) []).set ((x274).toNat) true))) tt (q := (.boolss l273)) rfl rfl rfl rfl rfl rfl rfl rfl rfl rfl (by simp only [Sq.len, List.length_set, List.length_append, List.length_replicate] at *; omega) hg12 rfl (inBo _ _ _ _ (by first | omega | (simp only [List.length_set, List.length_append, List.length_replicate] at *; omega)) (by simp)) ?_
       refine Af ?_
       change VC _ _ _ _
       refine Aa ?_
       obtain ⟨hg14, h⟩ := Ab h
       refine Ac tt rfl rfl rfl rfl rfl hg14 ?_
       refine Ac tt rfl rfl rfl rfl rfl Tvv ?_
       refine Af ?_
       change ∃ _, _
       exact ⟨((l273.set ((x262).toNat) ((l273.getD ((x262).toNat) []).set ((x274).toNat) true)), (x274 + (1 : Int))), (En.of ⟨rfl, rfl, rfl, rfl, rfl, rfl, rfl, rfl, rfl, Tvv⟩ ⟨rfl, rfl, Tvv⟩ trivial), h⟩
      replace h := Ap hb13 h
      iterate 2 refine Cz tt rfl (Be rfl rfl rfl rfl hb13) rfl rfl rfl rfl rfl Tvv ?_
      refine Cz tt rfl (Be rfl rfl rfl rfl hb13) rfl rfl rfl rfl rfl hg10 ?_
      refine nLoadD tt (Be rfl rfl rfl rfl hb13) (.boolss l273) rfl rfl rfl rfl rfl rfl rfl rfl rfl rfl rfl hg11 ?_
      refine Cz tt rfl (Be rfl rfl rfl rfl hb13) rfl rfl rfl rfl rfl Tvv ?_
      obtain ⟨hg15, h⟩ := Ab h
      refine Wi (Be rfl rfl rfl rfl hb13) (Sr tt (q := (.boolss l273)) rfl rfl rfl rfl rfl rfl (by simp only [Sq.len, List.length_set, List.length_append, List.length_replicate] at *; omega) rfl hg15) rfl rfl rfl ?_
      refine Wi (Be rfl rfl rfl rfl hb13) (Ta tt (q := (.boolss l273)) rfl rfl rfl rfl rfl (by simp only [Sq.len, List.length_set, List.length_append, List.length_replicate] at *; omega) hg15 rfl) rfl rfl rfl ?_
      refine Cz tt rfl (Be rfl rfl rfl rfl hb13) rfl rfl rfl rfl rfl Tvv ?_
      refine nSplit rfl rfl rfl (fun hb16 => ?_) (fun hb16 => ?_)
      ·replace h := Ao hb16 h
       iterate 2 refine Cz tt rfl (Be rfl rfl rfl rfl hb16) rfl rfl rfl rfl rfl Tvv ?_
       obtain ⟨hg17, h⟩ := Ab h
       refine Cz tt rfl (Be rfl rfl rfl rfl hb16) rfl rfl rfl rfl rfl hg17 ?_
       obtain ⟨hg18, h⟩ := Ab h
       refine nLoadD tt (Be rfl rfl rfl rfl hb16) (.boolss l273) rfl rfl rfl rfl rfl rfl rfl rfl rfl rfl rfl hg18 ?_
       refine Cz tt rfl (Be rfl rfl rfl rfl hb16) rfl rfl rfl rfl rfl Tvv ?_
       obtain ⟨hg19, h⟩ := Ab h
       refine Wi (Be rfl rfl rfl rfl hb16) (Sr tt (q := (.boolss l273)) rfl rfl rfl rfl rfl rfl (by simp only [Sq.len, List.length_set, List.length_append, List.length_replicate] at *; omega) rfl hg19) rfl rfl rfl ?_
       refine Wi (Be rfl rfl rfl rfl hb16) (Ta tt (q := (.boolss l273)) rfl rfl rfl rfl rfl (by simp only [Sq.len, List.length_set, List.length_append, List.length_replicate] at *; omega) hg19 rfl) rfl rfl rfl ?_
       refine nPickT rfl (Be rfl rfl rfl rfl hb13) rfl rfl rfl hb16 rfl rfl ?_
       refine nPickF rfl (Ag rfl) rfl rfl rfl hb13 rfl rfl ?_
       refine Su ?_
       change VO _ _ _ _ _
       refine Wg (Ag rfl) (Sr tt (q := (.boolss l273)) rfl rfl rfl rfl rfl rfl (by simp only [Sq.len, List.length_set, List.length_append, List.length_replicate] at *; omega) rfl hg12) rfl rfl ?_
       refine Za 24 (.boolss (l273.set ((x262).toNat) ((l273.getD ((x262).toNat) []).set ((x274).toNat) ((l273.getD ((x190).toNat) []).getD ((x274).toNat) false)))) tt (q := (.boolss l273)) rfl rfl rfl rfl rfl rfl rfl rfl rfl rfl (by simp only [Sq.len, List.length_set, List.length_append, List.length_replicate] at *; omega) hg12 rfl (inBo _ _ _ _ (by first | omega | (simp only [List.length_set, List.length_append, List.length_replicate] at *; omega)) (by simp)) ?_
       refine Af ?_
       change VC _ _ _ _
       refine Aa ?_
       obtain ⟨hg20, h⟩ := Ab h
       refine Ac tt rfl rfl rfl rfl rfl hg20 ?_
       refine Ac tt rfl rfl rfl rfl rfl Tvv ?_
       refine Af ?_
       change ∃ _, _
       exact ⟨((l273.set ((x262).toNat) ((l273.getD ((x262).toNat) []).set ((x274).toNat) ((l273.getD ((x190).toNat) []).getD ((x274).toNat) false))), (x274 + (1 : Int))), (En.of ⟨rfl, rfl, rfl, rfl, rfl, rfl, rfl, rfl, rfl, Tvv⟩ ⟨rfl, rfl, Tvv⟩ trivial), h⟩
      replace h := Ap hb16 h
      iterate 7 refine nNoT rfl rfl rfl rfl hb16 rfl rfl ?_
      refine nPickF rfl (Be rfl rfl rfl rfl hb13) rfl rfl rfl hb16 rfl rfl ?_
      refine nPickF rfl (Ag rfl) rfl rfl rfl hb13 rfl rfl ?_
      refine Su ?_
      change VO _ _ _ _ _
      refine Wg (Ag rfl) (Sr tt (q := (.boolss l273)) rfl rfl rfl rfl rfl rfl (by simp only [Sq.len, List.length_set, List.length_append, List.length_replicate] at *; omega) rfl hg12) rfl rfl ?_
      refine Za 24 (.boolss (l273.set ((x262).toNat) ((l273.getD ((x262).toNat) []).set ((x274).toNat) false))) tt (q := (.boolss l273)) rfl rfl rfl rfl rfl rfl rfl rfl rfl rfl (by simp only [Sq.len, List.length_set, List.length_append, List.length_replicate] at *; omega) hg12 rfl (inBo _ _ _ _ (by first | omega | (simp only [List.length_set, List.length_append, List.length_replicate] at *; omega)) (by simp)) ?_
      refine Af ?_
      change VC _ _ _ _
      refine Aa ?_
      obtain ⟨hg21, h⟩ := Ab h
      refine Ac tt rfl rfl rfl rfl rfl hg21 ?_
      refine Ac tt rfl rfl rfl rfl rfl Tvv ?_
      refine Af ?_
      change ∃ _, _
      exact ⟨((l273.set ((x262).toNat) ((l273.getD ((x262).toNat) []).set ((x274).toNat) false)), (x274 + (1 : Int))), (En.of ⟨rfl, rfl, rfl, rfl, rfl, rfl, rfl, rfl, rfl, Tvv⟩ ⟨rfl, rfl, Tvv⟩ trivial), h⟩
     replace h := Ap hb9 h
     refine Bl ?_
     change ∃ _, _
     exact ⟨l273, (En.of ⟨rfl, rfl, rfl, rfl, rfl, rfl, Tvv⟩ ⟨rfl, rfl, Tvv⟩ trivial), h⟩
    replace h := Ap hb7 h
    refine Bl ?_
    change ∃ _, _
    exact ⟨l261, (En.of ⟨rfl, rfl, rfl, Tvv⟩ ⟨rfl, rfl, Tvv⟩ trivial), h⟩
   replace h := Ap hb5 h
   refine Bl ?_
   change ∃ _, _
   exact ⟨l189, (En.of ⟨rfl, Tvv⟩ ⟨rfl, rfl, Tvv⟩ trivial), h⟩
  intro k h
  refine Ar ?_
  refine Ba (α := (List (List Bool)) × Int) (fun | (l278, x279) => (⟨[(1, .ptr 1 0), (6, .row 24 0 ((List.replicate ((p_0.g.n).toNat) ([] : (List Bool))).length)), (47, .row 1160 0 v1.1.length), (48, .int (v1.1.length : Int)), (49, .int x279)], [(24, some (128, dR 10 (.boolss l278))), (8589934602, some (4, dF (.boolss l278))), (1160, some (3, .ints v1.1))], [(1, some [.int p_0.g.n, .ro false (.pairs p_0.g.bars), .ro false (.ints p_0.ground)])]⟩ : PS)) (Bd N p_0 v1 k) h (En.of ⟨rfl, rfl, rfl, rfl, rfl, Tvv⟩ ⟨rfl, rfl, rfl, Tvv⟩ ⟨rfl, Tvv⟩) (fun _ => rfl) ?_
  rintro n ⟨l278, x279⟩ h
  rw [Bd] at h
  show VC _ _ _ (⟨[(1, .ptr 1 0), (6, .row 24 0 ((List.replicate ((p_0.g.n).toNat) ([] : (List Bool))).length)), (47, .row 1160 0 v1.1.length), (48, .int (v1.1.length : Int)), (49, .int x279)], [(24, some (128, dR 10 (.boolss l278))), (8589934602, some (4, dF (.boolss l278))), (1160, some (3, .ints v1.1))], [(1, some [.int p_0.g.n, .ro false (.pairs p_0.g.bars), .ro false (.ints p_0.ground)])]⟩ : PS)
  refine Ah ?_
  refine Aa ?_
  refine Ac tt rfl rfl rfl rfl rfl Tvv ?_
  refine Af ?_
  change VC _ _ _ _
  refine Ah ?_
  refine Av rfl (fun hb22 => ?_) (fun hb22 => ?_)
  ·replace h := Ao hb22 h
   refine Au ?_
   change VC _ _ _ _
   refine Ah ?_
   refine Ar ?_
   refine Ah ?_
   refine Aa ?_
   refine Ac tt rfl rfl rfl rfl rfl Tvv ?_
   obtain ⟨hg23, h⟩ := Ab h
   iterate 2 refine Ac tt rfl rfl rfl rfl rfl hg23 ?_
   iterate 2 refine Ac tt rfl rfl rfl rfl rfl Tvv ?_
   refine Af ?_
   change VC _ _ _ _
   refine Ah ?_
   refine Aa ?_
   iterate 4 refine Ac tt rfl rfl rfl rfl rfl Tvv ?_
   obtain ⟨hg24, h⟩ := Ab h
   refine Ac tt rfl rfl rfl rfl rfl hg24 ?_
   iterate 2 refine Ac tt rfl rfl rfl rfl rfl Tvv ?_
   obtain ⟨v282, hc25, h⟩ := Ai h
   refine Bm (Td N (p_0.g.bars.getD ((x279).toNat) (0, 0)) (v1.1.getD ((x279).toNat) 0) v282 hc25) rfl rfl rfl rfl rfl rfl rfl rfl ⟨⟨rfl, rfl, Tvv⟩, rfl, Tvv⟩ ?_
   refine Ac tt rfl rfl rfl rfl rfl Tvv ?_
   refine Af ?_
   change VC _ _ _ _
   refine Ah ?_
   refine Aa ?_
   iterate 2 refine Ac tt rfl rfl rfl rfl rfl Tvv ?_
   obtain ⟨v283, hc26, h⟩ := Ai h
   refine Bm (Fn N p_0 v282 v283 hc26) rfl rfl rfl rfl rfl rfl rfl rfl ⟨⟨rfl, rfl, rfl, Tvv⟩, rfl, Tvv⟩ ?_
   refine Af ?_
   change VC _ _ _ _
   refine Av rfl (fun hb27 => ?_) (fun hb27 => ?_)
   ·replace h := Ao hb27 h
    refine Aa ?_
    iterate 2 refine Ac tt rfl rfl rfl rfl rfl Tvv ?_
    obtain ⟨hg28, h⟩ := Ab h
    refine Ac tt rfl rfl rfl rfl rfl hg28 ?_
    obtain ⟨hg29, h⟩ := Ab h
    refine oLoadD tt (Ag rfl) (.boolss l278) rfl rfl rfl rfl rfl rfl rfl rfl rfl hg29 ?_
    refine Ac tt rfl rfl rfl rfl rfl Tvv ?_
    obtain ⟨hg30, h⟩ := Ab h
    refine Wg (Ag rfl) (Sr tt (q := (.boolss l278)) rfl rfl rfl rfl rfl rfl (by simp only [Sq.len, List.length_set, List.length_append, List.length_replicate] at *; omega) rfl hg30) rfl rfl ?_
    refine Za 24 (.boolss (l278.set (((v1.1.getD ((x279).toNat) 0)).toNat) ((l278.getD (((v1.1.getD ((x279).toNat) 0)).toNat) []).set ((v282).toNat) true))) tt (q := (.boolss l278)) rfl rfl rfl rfl rfl rfl rfl rfl rfl rfl (by simp only [Sq.len, List.length_set, List.length_append, List.length_replicate] at *; omega) hg30 rfl (inBo _ _ _ _ (by first | omega | (simp only [List.length_set, List.length_append, List.length_replicate] at *; omega)) (by simp)) ?_
    refine Af ?_
    change VC _ _ _ _
    refine Aa ?_
    obtain ⟨hg31, h⟩ := Ab h
    refine Ac tt rfl rfl rfl rfl rfl hg31 ?_
    refine Ac tt rfl rfl rfl rfl rfl Tvv ?_
    refine Af ?_
    change ∃ _, _
    exact ⟨((l278.set (((v1.1.getD ((x279).toNat) 0)).toNat) ((l278.getD (((v1.1.getD ((x279).toNat) 0)).toNat) []).set ((v282).toNat) true)), (x279 + (1 : Int))), (En.of ⟨rfl, rfl, rfl, rfl, rfl, Tvv⟩ ⟨rfl, rfl, rfl, Tvv⟩ ⟨rfl, Tvv⟩), h⟩
   replace h := Ap hb27 h
   refine Au ?_
   change VC _ _ _ _
   refine Aa ?_
   obtain ⟨hg32, h⟩ := Ab h
   refine Ac tt rfl rfl rfl rfl rfl hg32 ?_
   refine Ac tt rfl rfl rfl rfl rfl Tvv ?_
   refine Af ?_
   change ∃ _, _
   exact ⟨(l278, (x279 + (1 : Int))), (En.of ⟨rfl, rfl, rfl, rfl, rfl, Tvv⟩ ⟨rfl, rfl, rfl, Tvv⟩ ⟨rfl, Tvv⟩), h⟩
  replace h := Ap hb22 h
  refine Bl ?_
  change ∃ _, _
  exact ⟨l278, (En.of ⟨rfl, Tvv⟩ ⟨rfl, rfl, Tvv⟩ trivial), h⟩
 intro k h
 refine Ar ?_
 refine Ba (α := (List (List Bool)) × Int) (fun | (l286, x287) => (⟨[(1, .ptr 1 0), (4, .row 1160 0 v1.1.length), (6, .row 24 0 ((List.replicate ((p_0.g.n).toNat) ([] : (List Bool))).length)), (26, .int ((List.replicate ((p_0.g.n).toNat) ([] : (List Bool))).length : Int)), (27, .int x287)], [(1160, some (3, .ints v1.1)), (24, some (128, dR 10 (.boolss l286))), (8589934602, some (4, dF (.boolss l286)))], [(1, some [.int p_0.g.n, .ro false (.pairs p_0.g.bars), .ro false (.ints p_0.ground)])]⟩ : PS)) (Br N p_0 k) h (En.of ⟨rfl, rfl, rfl, rfl, rfl, Tvv⟩ ⟨rfl, rfl, rfl, Tvv⟩ ⟨rfl, Tvv⟩) (fun _ => rfl) ?_
 rintro n ⟨l286, x287⟩ h
 rw [Br] at h
 show VC _ _ _ (⟨[(1, .ptr 1 0), (4, .row 1160 0 v1.1.length), (6, .row 24 0 ((List.replicate ((p_0.g.n).toNat) ([] : (List Bool))).length)), (26, .int ((List.replicate ((p_0.g.n).toNat) ([] : (List Bool))).length : Int)), (27, .int x287)], [(1160, some (3, .ints v1.1)), (24, some (128, dR 10 (.boolss l286))), (8589934602, some (4, dF (.boolss l286)))], [(1, some [.int p_0.g.n, .ro false (.pairs p_0.g.bars), .ro false (.ints p_0.ground)])]⟩ : PS)
 refine Ah ?_
 refine Aa ?_
 refine Ac tt rfl rfl rfl rfl rfl Tvv ?_
 refine Af ?_
 change VC _ _ _ _
 refine Ah ?_
 refine Av rfl (fun hb33 => ?_) (fun hb33 => ?_)
 ·replace h := Ao hb33 h
  refine Au ?_
  change VC _ _ _ _
  refine Ah ?_
  refine Ar ?_
  refine Ah ?_
  refine Aa ?_
  iterate 2 refine Ac tt rfl rfl rfl rfl rfl Tvv ?_
  refine Af ?_
  change VC _ _ _ _
  refine Ah ?_
  refine Aa ?_
  iterate 5 refine Ac tt rfl rfl rfl rfl rfl Tvv ?_
  refine Zk tt rfl rfl rfl rfl rfl rfl rfl rfl rfl rfl rfl hg3 ?_
  obtain ⟨hg34, h⟩ := Ab h
  refine Ac tt rfl rfl rfl rfl rfl hg34 ?_
  obtain ⟨hg35, h⟩ := Ab h
  refine vEnO (En.adopt 35 35 24 10 (q := (.boolss l286)) rfl rfl rfl rfl rfl rfl (by simp [Sq.len, Fq.len, Mw, Fq.hole]) rfl rfl rfl rfl) ?_
  refine Ax tt rfl rfl rfl rfl rfl rfl rfl rfl rfl rfl ⟨_, _, rfl, hg35.1, (by simpa [Sq.len, dR, Eh, Yu] using hg35.2)⟩ ⟨(by simpa [Sq.len, dR, Eh, Yu] using hg35), Tvv⟩ ?_
  refine vEnO (En.re 24 10 rfl rfl (reB _ l286 ((x287).toNat) (List.replicate ((p_0.g.n).toNat) (false : Bool)) (l286.map some) (by first | omega | (simp only [List.length_set, List.length_append, List.length_replicate] at *; omega)) (fun _ _ => rfl) (by simp)) rfl rfl rfl) ?_
  refine Af ?_
  change VC _ _ _ _
  refine Cd 8 [] [0, 0, 3, 7, 0, 0, 0, 96, 255, 511] (by kernel_rfl) (by kernel_rfl) (by kernel_rfl) (by kernel_rfl) (by kernel_rfl) rfl (by rfl) ?_
  iterate 2 refine Cz tt rfl (Ag rfl) rfl rfl rfl rfl rfl Tvv ?_
  refine Cz tt rfl (Ag rfl) rfl rfl rfl rfl rfl hg34 ?_
  obtain ⟨hg36, h⟩ := Ab h
  refine nLoadD tt (Ag rfl) (.boolss (l286.set ((x287).toNat) (List.replicate ((p_0.g.n).toNat) (false : Bool)))) rfl rfl rfl rfl rfl rfl rfl rfl rfl rfl rfl hg36 ?_
  iterate 3 refine Cz tt rfl (Ag rfl) rfl rfl rfl rfl rfl Tvv ?_
  obtain ⟨v289, hc37, h⟩ := Ai h
  refine nCall (Fn N p_0 x287 v289 hc37) rfl (Ag rfl) rfl rfl rfl rfl rfl rfl rfl rfl ⟨⟨rfl, rfl, rfl, Tvv⟩, rfl, Tvv⟩ ?_
  refine Su ?_
  change VO _ _ _ _ _
  obtain ⟨hg38, h⟩ := Ab h
  refine Wg (Ag rfl) (Sr tt (q := (.boolss (l286.set ((x287).toNat) (List.replicate ((p_0.g.n).toNat) (false : Bool))))) rfl rfl rfl rfl rfl rfl (by simp only [Sq.len, List.length_set, List.length_append, List.length_replicate] at *; omega) rfl hg38) rfl rfl ?_
  refine Za 24 (.boolss ((l286.set ((x287).toNat) (List.replicate ((p_0.g.n).toNat) (false : Bool))).set ((x287).toNat) (((l286.set ((x287).toNat) (List.replicate ((p_0.g.n).toNat) (false : Bool))).getD ((x287).toNat) []).set ((x287).toNat) v289))) tt (q := (.boolss (l286.set ((x287).toNat) (List.replicate ((p_0.g.n).toNat) (false : Bool))))) rfl rfl rfl rfl rfl rfl rfl rfl rfl rfl (by simp only [Sq.len, List.length_set, List.length_append, List.length_replicate] at *; omega) hg38 rfl (inBo _ _ _ _ (by first | omega | (simp only [List.length_set, List.length_append, List.length_replicate] at *; omega)) (by simp)) ?_
  refine Af ?_
  change VC _ _ _ _
  refine Aa ?_
  obtain ⟨hg39, h⟩ := Ab h
  refine Ac tt rfl rfl rfl rfl rfl hg39 ?_
  refine Ac tt rfl rfl rfl rfl rfl Tvv ?_
  refine Af ?_
  change ∃ _, _
  exact ⟨(((l286.set ((x287).toNat) (List.replicate ((p_0.g.n).toNat) (false : Bool))).set ((x287).toNat) (((l286.set ((x287).toNat) (List.replicate ((p_0.g.n).toNat) (false : Bool))).getD ((x287).toNat) []).set ((x287).toNat) v289)), (x287 + (1 : Int))), (En.of ⟨rfl, rfl, rfl, rfl, rfl, Tvv⟩ ⟨rfl, rfl, rfl, Tvv⟩ ⟨rfl, Tvv⟩), h⟩
 replace h := Ap hb33 h
 refine Bl ?_
 change ∃ _, _
 exact ⟨l286, (En.of ⟨rfl, rfl, rfl, Tvv⟩ ⟨rfl, rfl, rfl, Tvv⟩ ⟨rfl, Tvv⟩), h⟩
end Go.Proofs.Ytkklfgcelmeccaa
namespace Go.Proofs.Ytkklfgcelmeccaa
open Go.RowKit Go.Deep
def By (N : Nat) (v_1 : Int) (v1 : (List (List Bool)) × Bool) (k : (List Int) → Option (List Int)) : Nat → ((List Int) × Int) → Option (List Int)
 | 0, _ => none
 | n + 1, (l7, x8) =>
  cnd (decide (x8 < ((v1.1.getD ((v_1).toNat) []).length : Int))) (
   grd (0 ≤ x8 ∧ x8 < ((v1.1.getD ((v_1).toNat) []).length : Int)) <|
   cnd ((v1.1.getD ((v_1).toNat) []).getD ((x8).toNat) false) (
    grd (l7.length + 1 ≤ 4294967296) <|
    grd (Bk (x8 + (1 : Int))) <|
    By N v_1 v1 k n ((l7 ++ ([x8] : List Int)), (x8 + (1 : Int)))) (
    grd (Bk (x8 + (1 : Int))) <|
    By N v_1 v1 k n (l7, (x8 + (1 : Int))))) (
   k l7)
def Lj (N : Nat) (p_0 : Pin) (v_1 : Int) : Option (List Int) :=
 (Hm N p_0).bind fun v1 =>
 cnd (!v1.2) (
  some ([] : List Int)) (
  (Ci N p_0 v_1).bind fun v2 =>
  cnd (!v2) (
   some ([] : List Int)) (
   grd (0 ≤ v_1 ∧ v_1 < (v1.1.length : Int)) <|
   By N v_1 v1 (fun (l5 : List Int) =>
      some l5) N (([] : List Int), (0 : Int))))
theorem I_DependsOn_w (N : Nat) (p_0 : Pin) (v_1 : Int) (r : List Int) (h : Lj N p_0 v_1 = some r) : PCall Try.prog 58 [pD p_0, .int v_1] [(3, .ints r)] (.row 0 0 r.length) := by
 unfold Lj at h
 refine Aj (TT := TT) tt Try.func58 rfl rfl Try.ntmps58 (congrArg Array.toList Try.results58) rfl rfl fun w0 => ?_
 refine Ah ?_
 refine Aa ?_
 refine Jc rfl rfl rfl rfl rfl rfl rfl rfl rfl ?_
 refine Ac tt rfl rfl rfl rfl rfl Tvv ?_
 refine Af ?_
 change VC _ _ _ _
 refine Ah ?_
 refine Aa ?_
 refine Gx tt (Ag rfl) rfl rfl rfl rfl ?_
 refine Ac tt rfl rfl rfl rfl rfl Tvv ?_
 refine Af ?_
 change VC _ _ _ _
 refine Ah ?_
 refine Aa ?_
 refine Ac tt rfl rfl rfl rfl rfl Tvv ?_
 obtain ⟨v1, hc1, h⟩ := Ai h
 refine oCallD 10 (Re N p_0 v1 hc1) rfl rfl rfl rfl rfl rfl rfl rfl rfl rfl rfl (fun _ h => by cases h) ⟨⟨rfl, rfl, rfl, Tvv⟩, Tvv⟩ ?_
 iterate 5 refine Ac tt rfl rfl rfl rfl rfl Tvv ?_
 refine Af ?_
 change VC _ _ _ _
 iterate 2 refine Ah ?_
 refine Aa ?_
 iterate 3 refine Ac tt rfl rfl rfl rfl rfl Tvv ?_
 refine Dc rfl rfl rfl (fun hb2 => ?_) (fun hb2 => ?_)
 ·replace h := Ao hb2 h
  iterate 4 refine Tv rfl rfl rfl rfl hb2 rfl rfl ?_
  refine Eo rfl rfl rfl rfl rfl hb2 rfl ?_
  refine Af ?_
  change VC _ _ _ _
  refine Ev rfl rfl ?_
  refine Ah ?_
  refine Aa ?_
  iterate 2 refine Ac tt rfl rfl rfl rfl rfl Tvv ?_
  refine Af ?_
  change VC _ _ _ _
  refine Lp 4 9001 3 (.ints []) rfl rfl rfl rfl ?_
  refine Bh ?_
  change ∃ _, _
  cases h
  exact ⟨[9001], _, rfl, ⟨rfl, Tvv⟩, rfl, (.eq rfl), rfl⟩
 replace h := Ap hb2 h
 iterate 2 refine Cl tt rfl rfl rfl rfl rfl hb2 rfl rfl rfl Tvv ?_
 obtain ⟨v2, hc3, h⟩ := Ai h
 refine Qm (Fn N p_0 v_1 v2 hc3) rfl rfl rfl rfl hb2 rfl rfl rfl rfl rfl rfl rfl ⟨⟨rfl, rfl, rfl, Tvv⟩, rfl, Tvv⟩ ?_
 refine Cl tt rfl rfl rfl rfl rfl hb2 rfl rfl rfl Tvv ?_
 refine Cv rfl rfl rfl rfl rfl hb2 rfl ?_
 refine Af ?_
 change VC _ _ _ _
 refine Av rfl (fun hb4 => ?_) (fun hb4 => ?_)
 ·replace h := Ao hb4 h
  refine Ah ?_
  refine Aa ?_
  iterate 2 refine Ac tt rfl rfl rfl rfl rfl Tvv ?_
  refine Af ?_
  change VC _ _ _ _
  refine Lp 4 9001 3 (.ints []) rfl rfl rfl rfl ?_
  refine Bh ?_
  change ∃ _, _
  cases h
  exact ⟨[9001], _, rfl, ⟨rfl, Tvv⟩, rfl, (.eq rfl), rfl⟩
 replace h := Ap hb4 h
 refine Au ?_
 change VC _ _ _ _
 iterate 2 refine Ah ?_
 refine Aa ?_
 iterate 2 refine Ac tt rfl rfl rfl rfl rfl Tvv ?_
 obtain ⟨hg5, h⟩ := Ab h
 refine Ac tt rfl rfl rfl rfl rfl hg5 ?_
 refine oLoadD tt (Ag rfl) (.boolss v1.1) rfl rfl rfl rfl rfl rfl rfl rfl rfl hg5 ?_
 refine Wg (Ag rfl) (pLenI tt (q := (.boolss v1.1)) rfl rfl rfl rfl rfl (by simp only [Sq.len, List.length_set, List.length_append, List.length_replicate] at *; omega)) rfl rfl ?_
 refine Ac tt rfl rfl rfl rfl rfl Tvv ?_
 refine Af ?_
 change VC _ _ _ _
 refine Cc (F := fun k => By N v_1 v1 k) h (α := List Int) (J := fun (l5 : List Int) => (⟨[(5, .row 39 0 l5.length)], [(39, some (3, .ints l5))], []⟩ : PS)) ?_ ?_
 ·rintro l5 h
  show VC _ _ _ (⟨[(5, .row 39 0 l5.length)], [(39, some (3, .ints l5))], []⟩ : PS)
  refine Ah ?_
  refine Aa ?_
  iterate 2 refine Ac tt rfl rfl rfl rfl rfl Tvv ?_
  refine Af ?_
  change VC _ _ _ _
  refine Bh ?_
  change ∃ _, _
  cases h
  exact ⟨[39], _, rfl, ⟨rfl, Tvv⟩, rfl, (.eq rfl), rfl⟩
 intro k h
 refine Ar ?_
 refine Lp 5 39 3 (.ints []) rfl rfl rfl rfl ?_
 refine Ba (α := (List Int) × Int) (fun | (l7, x8) => (⟨[(5, .row 39 0 l7.length), (28, .irow 10 ((v_1).toNat) ((v1.1.getD ((v_1).toNat) []).length)), (29, .int ((v1.1.getD ((v_1).toNat) []).length : Int)), (30, .int x8)], [(39, some (3, .ints l7)), (1130, some (128, dR 10 (.boolss v1.1))), (8589934602, some (4, dF (.boolss v1.1)))], []⟩ : PS)) (By N v_1 v1 k) h (En.of ⟨rfl, rfl, rfl, rfl, Tvv⟩ ⟨rfl, rfl, rfl, Tvv⟩ trivial) (fun _ => rfl) ?_
 rintro n ⟨l7, x8⟩ h
 rw [By] at h
 show VC _ _ _ (⟨[(5, .row 39 0 l7.length), (28, .irow 10 ((v_1).toNat) ((v1.1.getD ((v_1).toNat) []).length)), (29, .int ((v1.1.getD ((v_1).toNat) []).length : Int)), (30, .int x8)], [(39, some (3, .ints l7)), (1130, some (128, dR 10 (.boolss v1.1))), (8589934602, some (4, dF (.boolss v1.1)))], []⟩ : PS)
 refine Ah ?_
 refine Aa ?_
 refine Ac tt rfl rfl rfl rfl rfl Tvv ?_
 refine Af ?_
 change VC _ _ _ _
 refine Ah ?_
 refine Av rfl (fun hb6 => ?_) (fun hb6 => ?_)
 ·replace h := Ao hb6 h
  refine Au ?_
  change VC _ _ _ _
  refine Ah ?_
  refine Ar ?_
  refine Ah ?_
  refine Aa ?_
  refine Ac tt rfl rfl rfl rfl rfl Tvv ?_
  obtain ⟨hg7, h⟩ := Ab h
  refine Wg (Ag rfl) (Sr tt (q := (.boolss v1.1)) rfl rfl rfl rfl rfl rfl (by simp only [Sq.len, List.length_set, List.length_append, List.length_replicate] at *; omega) rfl hg7) rfl rfl ?_
  refine Wg (Ag rfl) (Ta tt (q := (.boolss v1.1)) rfl rfl rfl rfl rfl (by simp only [Sq.len, List.length_set, List.length_append, List.length_replicate] at *; omega) hg7 rfl) rfl rfl ?_
  iterate 2 refine Ac tt rfl rfl rfl rfl rfl Tvv ?_
  refine Af ?_
  change VC _ _ _ _
  refine Ah ?_
  refine Aa ?_
  refine Ac tt rfl rfl rfl rfl rfl Tvv ?_
  refine Af ?_
  change VC _ _ _ _
  refine Av rfl (fun hb8 => ?_) (fun hb8 => ?_)
  ·replace h := Ao hb8 h
   refine Aa ?_
   iterate 2 refine Ac tt rfl rfl rfl rfl rfl Tvv ?_
   refine Dt tt rfl rfl rfl rfl rfl rfl rfl rfl rfl rfl rfl ?_
   obtain ⟨hg9, h⟩ := Ab h
   refine Cp tt rfl rfl rfl rfl rfl rfl rfl rfl rfl rfl rfl rfl rfl rfl rfl rfl (Nat.le_of_eq (Nat.zero_add _)) hg9 ?_
   refine Ac tt rfl rfl rfl rfl rfl Tvv ?_
   refine Af ?_
   change VC _ _ _ _
   refine Aa ?_
   obtain ⟨hg10, h⟩ := Ab h
   refine Ac tt rfl rfl rfl rfl rfl hg10 ?_
   refine Ac tt rfl rfl rfl rfl rfl Tvv ?_
   refine Af ?_
   change ∃ _, _
   exact ⟨((l7 ++ ([x8] : List Int)), (x8 + (1 : Int))), (En.of ⟨rfl, rfl, rfl, rfl, Tvv⟩ ⟨rfl, rfl, rfl, Tvv⟩ trivial), h⟩
  replace h := Ap hb8 h
  refine Au ?_
  change VC _ _ _ _
  refine Aa ?_
  obtain ⟨hg11, h⟩ := Ab h
  refine Ac tt rfl rfl rfl rfl rfl hg11 ?_
  refine Ac tt rfl rfl rfl rfl rfl Tvv ?_
  refine Af ?_
  change ∃ _, _
  exact ⟨(l7, (x8 + (1 : Int))), (En.of ⟨rfl, rfl, rfl, rfl, Tvv⟩ ⟨rfl, rfl, rfl, Tvv⟩ trivial), h⟩
 replace h := Ap hb6 h
 refine Bl ?_
 change ∃ _, _
 exact ⟨l7, (En.of ⟨rfl, Tvv⟩ ⟨rfl, Tvv⟩ trivial), h⟩
end Go.Proofs.Ytkklfgcelmeccaa
namespace Go.Proofs.Ytkklfgcelmeccaa
variable {N : Nat}
def wst (k : Nat) (f : Nat → Nat → Bool) : Nat → Nat → Bool := fun a b => f a b || (f a k && f k b)
def wall : Nat → (Nat → Nat → Bool) → Nat → Nat → Bool
 | 0, f => f
 | k + 1, f => wst k (wall k f)
theorem St (f : Nat → Nat → Bool) : ∀ K a b, f a b = true → wall K f a b = true
 | 0, _, _, h => h
 | K + 1, a, b, h => by simp [wall, wst, St f K a b h]
theorem wall_tr (f : Nat → Nat → Bool) : ∀ K i m j, m < K → wall K f i m = true → wall K f m j = true → wall K f i j = true
 | 0, _, _, _, h, _, _ => by omega
 | K + 1, i, m, j, h, h1, h2 => by
  have ih := wall_tr f K
  simp only [wall, wst, Bool.or_eq_true, Bool.and_eq_true] at h1 h2 ⊢
  by_cases hm : m < K
  ·rcases h1 with h1 | ⟨h1, h1'⟩ <;> rcases h2 with h2 | ⟨h2, h2'⟩
   ·exact .inl (ih i m j hm h1 h2)
   ·exact .inr ⟨ih i m K hm h1 h2, h2'⟩
   ·exact .inr ⟨h1, ih K m j hm h1' h2⟩
   exact .inr ⟨h1, h2'⟩
  obtain rfl : m = K := by omega
  have g1 : wall m f i m = true := by rcases h1 with h1 | ⟨h1, _⟩ <;> exact h1
  have g2 : wall m f m j = true := by rcases h2 with h2 | ⟨_, h2⟩ <;> exact h2
  exact .inr ⟨g1, g2⟩
inductive Way (n : Nat) (f : Nat → Nat → Bool) : Nat → Nat → Prop
 | one {a b : Nat} : a < n → b < n → f a b = true → Way n f a b
 | step {a b c : Nat} : a < n → b < n → f a b = true → Way n f b c → Way n f a c
theorem Way.trans {n : Nat} {f : Nat → Nat → Bool} {a b c : Nat} (h : Way n f a b) (h' : Way n f b c) : Way n f a c := by
 induction h with
 | one h1 h2 h3 => exact .step h1 h2 h3 h'
 | step h1 h2 h3 _ ih => exact .step h1 h2 h3 (ih h')
theorem Th {n : Nat} {f : Nat → Nat → Bool} : ∀ K, K ≤ n → ∀ a b, a < n → b < n → wall K f a b = true → Way n f a b
 | 0, _, a, b, ha, hb, h => .one ha hb h
 | K + 1, hK, a, b, ha, hb, h => by
  simp only [wall, wst, Bool.or_eq_true, Bool.and_eq_true] at h
  rcases h with h | ⟨h1, h2⟩
  ·exact Th K (by omega) a b ha hb h
  exact (Th K (by omega) a K ha (by omega) h1).trans (Th K (by omega) K b (by omega) hb h2)
theorem way_wall {n : Nat} {f : Nat → Nat → Bool} {a b : Nat} (h : Way n f a b) : wall n f a b = true := by
 induction h with
 | one h1 h2 h3 => exact St f n _ _ h3
 | step h1 h2 h3 _ ih => exact wall_tr f n _ _ _ h2 (St f n _ _ h3) ih
theorem wall_iff {n : Nat} {f : Nat → Nat → Bool} {a b : Nat} (ha : a < n) (hb : b < n) : wall n f a b = true ↔ Way n f a b := ⟨Th n (Nat.le_refl _) a b ha hb, way_wall⟩
def mat (n : Nat) (f : Nat → Nat → Bool) : List (List Bool) := (List.range n).map fun a => (List.range n).map fun b => f a b
theorem Yc (n : Nat) (f : Nat → Nat → Bool) : (mat n f).length = n := by simp [mat]
theorem mat_row {n a : Nat} (f : Nat → Nat → Bool) (h : a < n) : (mat n f).getD a [] = (List.range n).map fun b => f a b := by simp [mat, List.getD_eq_getElem?_getD, h]
theorem Jg {n a : Nat} (f : Nat → Nat → Bool) (h : a < n) : ((mat n f).getD a []).length = n := by rw [mat_row f h]; simp
theorem Vl {n a b : Nat} (f : Nat → Nat → Bool) (h : a < n) (hb : b < n) : ((mat n f).getD a []).getD b false = f a b := by rw [mat_row f h]; simp [List.getD_eq_getElem?_getD, hb]
def upd (f : Nat → Nat → Bool) (i j : Nat) (x : Bool) : Nat → Nat → Bool := fun a b => if a = i ∧ b = j then x else f a b
theorem mat_set {n i j : Nat} (f : Nat → Nat → Bool) (x : Bool) (hi : i < n) (hj : j < n) : (mat n f).set i (((mat n f).getD i []).set j x) = mat n (upd f i j x) := by
 rw [mat_row f hi]
 apply List.ext_getElem
 ·simp [mat]
 intro a h1 h2
 have ha : a < n := by simpa [mat] using h2
 rw [List.getElem_set]
 simp only [mat, List.getElem_map, List.getElem_range]
 by_cases hia : i = a
 ·subst hia
  rw [if_pos rfl]
  apply List.ext_getElem
  ·simp
  intro b h3 h4
  rw [List.getElem_set]
  by_cases hb : j = b
  ·subst hb; simp [upd]
  simp [upd, hb, Ne.symm hb]
 rw [if_neg hia]
 apply List.ext_getElem
 ·simp
 intro b h3 h4
 simp [upd, Ne.symm hia]
theorem Jy {n : Nat} {f g : Nat → Nat → Bool} (h : ∀ a b, a < n → b < n → f a b = g a b) : mat n f = mat n g := by
 unfold mat
 apply List.map_congr_left
 intro a ha
 apply List.map_congr_left
 intro b hb
 exact h a b (by simpa using ha) (by simpa using hb)
def rowU (f : Nat → Nat → Bool) (k i j : Nat) : Nat → Nat → Bool := fun a b => if a = i ∧ b < j then f i b || (f i k && f k b) else f a b
theorem dep3_s (hN : 4000000 ≤ N) {p : Pin} {n : Nat} (hn : p.g.n = n) (hn8 : n ≤ 8) {k i : Nat} (hk : k < n) (hi : i < n) (f : Nat → Nat → Bool) (kk : List (List Bool) → Option (List (List Bool) × Bool)) :
  Bj N p (k : Int) (i : Int) kk N (mat n f, (0 : Int)) = kk (mat n (rowU f k i n)) := by
 have e0 : mat n f = mat n (rowU f k i 0) := Jy fun a b _ _ => by simp [rowU]
 rw [e0]
 refine fold (N := N) (len := n) (st := fun j => mat n (rowU f k i j)) (F := fun m s => Bj N p (k : Int) (i : Int) kk m s) (by omega) (fun m j hj => ?_) fun m => ?_
 ·show Bj N p (k : Int) (i : Int) kk (m + 1) (mat n (rowU f k i j), (j : Int)) = Bj N p (k : Int) (i : Int) kk m (mat n (rowU f k i (j + 1)), ((j + 1 : Nat) : Int))
  rw [Bj]
  have en : (p.g.n).toNat = n := by omega
  have ei : ((i : Int)).toNat = i := by omega
  have ej : ((j : Int)).toNat = j := by omega
  have ek : ((k : Int)).toNat = k := by omega
  have g1 : (rowU f k i j) i j = f i j := by simp [rowU]
  have g2 : (rowU f k i j) i k = f i k := by
   simp only [rowU]
   split
   ·cases f i k <;> simp
   rfl
  have g3 : (rowU f k i j) k j = f k j := by
   simp only [rowU]
   split
   ·omega
   rfl
  have hu : ∀ x : Bool, x = (f i j || (f i k && f k j)) → mat n (upd (rowU f k i j) i j x) = mat n (rowU f k i (j + 1)) := fun x hx => Jy fun a b _ _ => by
   simp only [upd, rowU]
   by_cases ha : a = i
   ·subst ha
    by_cases hb : b = j
    ·subst hb; simp [hx]
    by_cases hbj : b < j
    ·simp [hb, hbj, show b < j + 1 by omega]
    simp [hb, hbj, show ¬ b < j + 1 by omega]
   simp [ha]
  rw [List.length_replicate, en, ei, ej, ek, Jg _ hi, Vl _ hi hj, Vl _ hi hk, Jg _ hk, Vl _ hk hj, Yc, g1, g2, g3]
  rw [Ak (by omega), Ad (by omega), Ad (by omega), Ad (by omega), As (by omega) (by omega), Am, mat_set _ _ hi hj, mat_set _ _ hi hj, mat_set _ _ hi hj, Ad (by omega), Ad (by omega), Ad (by omega), Ad (by omega)]
  cases hij : f i j with
  | true => rw [cnd_true, hu true (by simp [hij])]
  | false =>
   rw [cnd_false]
   cases hik : f i k with
   | true => rw [cnd_true, hu (f k j) (by simp [hij, hik]), As (by omega) (by omega)]
   | false => rw [cnd_false, hu false (by simp [hij, hik]), As (by omega) (by omega)]
 show Bj N p (k : Int) (i : Int) kk (m + 1) (mat n (rowU f k i n), (n : Int)) = _
 rw [Bj, List.length_replicate, Al (by omega)]
def Ru (f : Nat → Nat → Bool) (k i : Nat) : Nat → Nat → Bool := fun a b => if a < i then f a b || (f a k && f k b) else f a b
theorem dep2_s (hN : 4000000 ≤ N) {p : Pin} {n : Nat} (hn : p.g.n = n) (hn8 : n ≤ 8) {k : Nat} (hk : k < n) (f : Nat → Nat → Bool) (kk : List (List Bool) → Option (List (List Bool) × Bool)) :
  Bo N p (k : Int) kk N (mat n f, (0 : Int)) = kk (mat n (wst k f)) := by
 have e0 : mat n f = mat n (Ru f k 0) := Jy fun a b _ _ => by simp [Ru]
 rw [e0]
 refine fold (N := N) (len := n) (st := fun j => mat n (Ru f k j)) (F := fun m s => Bo N p (k : Int) kk m s) (by omega) (fun m i hi => ?_) fun m => ?_
 ·show Bo N p (k : Int) kk (m + 1) (mat n (Ru f k i), (i : Int)) = Bo N p (k : Int) kk m (mat n (Ru f k (i + 1)), ((i + 1 : Nat) : Int))
  rw [Bo]
  have en : (p.g.n).toNat = n := by omega
  rw [List.length_replicate, en, Ak (by omega), dep3_s hN hn hn8 hk hi, As (by omega) (by omega), Am]
  congr 2
  refine Jy fun a b _ hb => ?_
  have g2 : (Ru f k i) i k = f i k := by simp [Ru]
  have g3 : (Ru f k i) k b = f k b := by
   simp only [Ru]
   split
   ·cases f k b <;> cases f k k <;> rfl
   rfl
  have g1 : (Ru f k i) i b = f i b := by simp [Ru]
  simp only [rowU, g1, g2, g3]
  by_cases ha : a = i
  ·subst ha; simp [hb, Ru]
  simp only [ha, false_and, if_false, Ru]
  by_cases hai : a < i
  ·simp [hai, show a < i + 1 by omega]
  simp [hai, show ¬ a < i + 1 by omega]
 show Bo N p (k : Int) kk (m + 1) (mat n (Ru f k n), (n : Int)) = _
 rw [Bo, List.length_replicate, Al (by omega)]
 congr 1
 exact Jy fun a b ha _ => by simp [Ru, ha, wst]
theorem dep1_s (hN : 4000000 ≤ N) {p : Pin} {n : Nat} (hn : p.g.n = n) (hn8 : n ≤ 8) (f : Nat → Nat → Bool) (kk : List (List Bool) → Option (List (List Bool) × Bool)) :
  Bq N p kk N (mat n f, (0 : Int)) = kk (mat n (wall n f)) := by
 refine fold (N := N) (len := n) (st := fun j => mat n (wall j f)) (F := fun m s => Bq N p kk m s) (by omega) (fun m i hi => ?_) fun m => ?_
 ·show Bq N p kk (m + 1) (mat n (wall i f), (i : Int)) = Bq N p kk m (mat n (wall (i + 1) f), ((i + 1 : Nat) : Int))
  rw [Bq]
  have en : (p.g.n).toNat = n := by omega
  rw [List.length_replicate, en, Ak (by omega), dep2_s hN hn hn8 hi, As (by omega) (by omega), Am]
  rfl
 show Bq N p kk (m + 1) (mat n (wall n f), (n : Int)) = _
 rw [Bq, List.length_replicate, Al (by omega)]
def arc (p : Pin) (ow : List Int) (e : Nat) : Nat → Nat → Bool := fun a b => (List.range e).any fun i => (ow.getD i 0 == (a : Int)) && (Cg (p.g.bars.getD i (0, 0)) (ow.getD i 0) == (b : Int)) && Pi p (b : Int)
def Ze (p : Pin) (ow : List Int) (e : Nat) : Nat → Nat → Bool := fun a b => (decide (a = b) && Pi p (a : Int)) || arc p ow e a b
theorem arc_succ (p : Pin) (ow : List Int) (e a b : Nat) : arc p ow (e + 1) a b = (arc p ow e a b || ((ow.getD e 0 == (a : Int)) && (Cg (p.g.bars.getD e (0, 0)) (ow.getD e 0) == (b : Int)) && Pi p (b : Int))) := by
 simp only [arc, List.range_succ, List.any_append, List.any_cons, List.any_nil, Bool.or_false]
theorem own_facts {p : Pin} (hp : Ay p = true) {ow : List Int} (ho : Own p 0 ow) {i : Nat} (hi : i < p.g.bars.length) : 0 ≤ ow.getD i 0 ∧ ow.getD i 0 < p.g.n ∧ hasEnd (p.g.bars.getD i (0, 0)) (ow.getD i 0) = true ∧ 0 ≤ Cg (p.g.bars.getD i (0, 0)) (ow.getD i 0) ∧ Cg (p.g.bars.getD i (0, 0)) (ow.getD i 0) < p.g.n := by
 have hbar := Pm hp hi
 obtain ⟨h1, h2⟩ := ho i (Nat.zero_le _) hi
 unfold Cg hasEnd
 rcases h1 with h1 | h1
 ·rw [h1]
  simp
  exact ⟨hbar.1, hbar.2.2.2.2.1, hbar.2.2.1, hbar.2.2.2.2.2.1⟩
 rw [h1]
 have : ((p.g.bars.getD i (0, 0)).1 == (p.g.bars.getD i (0, 0)).2) = false := by
  rw [beq_eq_false_iff_ne]; have := hbar.2.2.2.2.2.2; omega
 rw [this]
 simp [cnd]
 exact ⟨hbar.2.2.1, hbar.2.2.2.2.2.1, hbar.1, hbar.2.2.2.2.1⟩
end Go.Proofs.Ytkklfgcelmeccaa
namespace Go.Proofs.Ytkklfgcelmeccaa
variable (N : Nat)
end Go.Proofs.Ytkklfgcelmeccaa
namespace Go.Proofs.Ytkklfgcelmeccaa
open Go.RowKit
end Go.Proofs.Ytkklfgcelmeccaa
namespace Go.Proofs.Ytkklfgcelmeccaa
open Go.RowKit
end Go.Proofs.Ytkklfgcelmeccaa
namespace Go.Proofs.Ytkklfgcelmeccaa
variable (N : Nat)
end Go.Proofs.Ytkklfgcelmeccaa
namespace Go.Proofs.Ytkklfgcelmeccaa
open Go.RowKit
end Go.Proofs.Ytkklfgcelmeccaa
namespace Go.Proofs.Ytkklfgcelmeccaa
open Go.RowKit
end Go.Proofs.Ytkklfgcelmeccaa
namespace Go.Proofs.Ytkklfgcelmeccaa
variable (N : Nat)
def sel {α : Type} (f : Nat → α) (q : Nat → Bool) (i : Nat) : List α := ((List.range i).filter q).map f
theorem sel_succ {α : Type} (f : Nat → α) (q : Nat → Bool) (i : Nat) : sel f q (i + 1) = cnd (q i) (sel f q i ++ [f i]) (sel f q i) := by
 unfold sel
 rw [List.range_succ, List.filter_append, List.map_append]
 cases h : q i <;> simp [h]
theorem sel_len {α : Type} (f : Nat → α) (q : Nat → Bool) (i : Nat) : (sel f q i).length ≤ i := by
 unfold sel
 rw [List.length_map]
 exact Nat.le_trans (List.length_filter_le ..) (by simp)
theorem sel_has {q : Nat → Bool} {i j : Nat} (hj : j < i) : (sel (fun k => (k : Int)) q i).contains (j : Int) = q j := by
 rw [Bool.eq_iff_iff]
 simp only [sel, List.contains_eq_mem, decide_eq_true_eq, List.mem_map, List.mem_filter, List.mem_range]
 constructor
 ·rintro ⟨k, ⟨_, h⟩, he⟩
  have : k = j := by omega
  subst this; exact h
 intro h; exact ⟨j, ⟨hj, h⟩, rfl⟩
end Go.Proofs.Ytkklfgcelmeccaa
namespace Go.Proofs.Ytkklfgcelmeccaa
variable {N : Nat}
theorem rng_set {β : Type} (g : Nat → β) (n i : Nat) (x : β) : ((List.range n).map g).set i x = (List.range n).map fun a => if a = i then x else g a := by
 apply List.ext_getElem
 ·simp
 intro a h1 h2
 rw [List.getElem_set]
 simp only [List.getElem_map, List.getElem_range]
 by_cases h : i = a
 ·simp [h]
 simp [h, Ne.symm h]
theorem rng_rep {β : Type} (n : Nat) (x : β) : List.replicate n x = (List.range n).map fun _ => x := by
 apply List.ext_getElem <;> simp
theorem Sj {β : Type} {f g : Nat → β} {n : Nat} (h : ∀ a, a < n → f a = g a) : (List.range n).map f = (List.range n).map g :=
 List.map_congr_left fun a ha => h a (by simpa using ha)
def d5 (p : Pin) (n i : Nat) : List (List Bool) := (List.range n).map fun a => if a < i then (List.range n).map fun b => decide (a = b) && Pi p (a : Int) else []
theorem dep5_s (hN : 4000000 ≤ N) {p : Pin} (hp : Ay p = true) {n : Nat} (hn : p.g.n = n) (hn8 : n ≤ 8) (kk : List (List Bool) → Option (List (List Bool) × Bool)) :
  Br N p kk N (List.replicate n [], (0 : Int)) = kk (mat n fun a b => decide (a = b) && Pi p (a : Int)) := by
 have e0 : (List.replicate n ([] : List Bool)) = d5 p n 0 := by rw [rng_rep]; exact Sj fun a _ => by simp
 rw [e0]
 refine fold (N := N) (len := n) (st := fun j => d5 p n j) (F := fun m s => Br N p kk m s) (by omega) (fun m i hi => ?_) fun m => ?_
 ·show Br N p kk (m + 1) (d5 p n i, (i : Int)) = Br N p kk m (d5 p n (i + 1), ((i + 1 : Nat) : Int))
  rw [Br]
  have en : (p.g.n).toNat = n := by omega
  have ei : ((i : Int)).toNat = i := by omega
  have hL : (d5 p n i).length = n := by simp [d5]
  have hX : (List.replicate n false).length = n := by simp
  have hg : ((d5 p n i).set i (List.replicate n false)).getD i [] = List.replicate n false := by
   rw [List.getD_eq_getElem?_getD, List.getElem?_set_self (by rw [hL]; exact hi)]; rfl
  have hset : ((d5 p n i).set i (List.replicate n false)).set i ((List.replicate n false).set i (Pi p (i : Int))) = d5 p n (i + 1) := by
   rw [List.set_set, rng_rep n false, rng_set, d5, rng_set]
   refine Sj fun a ha => ?_
   by_cases hai : a = i
   ·subst hai
    rw [if_pos rfl, if_pos (by omega)]
    refine Sj fun b _ => ?_
    by_cases hb : b = a
    ·subst hb; simp
    simp [hb, Ne.symm hb]
   rw [if_neg hai]
   by_cases hl : a < i
   ·rw [if_pos hl, if_pos (by omega)]
   rw [if_neg hl, if_neg (by omega)]
  rw [List.length_replicate, List.length_set, en, ei, hg, hX, hL, Ak (by omega), Ad (by omega), Ad (by omega), Ad (by omega), Sy N hN hp, Option.bind_some, Ad (by omega), As (by omega) (by omega), Am, hset]
 show Br N p kk (m + 1) (d5 p n n, (n : Int)) = _
 rw [Br, List.length_replicate, Al (by omega)]
 congr 1
 exact Sj fun a ha => by rw [if_pos ha]
theorem dep4_s (hN : 4000000 ≤ N) {p : Pin} (hp : Ay p = true) {n : Nat} (hn : p.g.n = n) (hn8 : n ≤ 8) {ow : List Int} {v1 : List Int × Bool} (hv1 : v1.1 = ow) (hl : ow.length = p.g.bars.length) (ho : Own p 0 ow) (kk : List (List Bool) → Option (List (List Bool) × Bool)) :
  Bd N p v1 kk N (mat n (Ze p ow 0), (0 : Int)) = kk (mat n (Ze p ow p.g.bars.length)) := by
 have hbd := Bn hp
 refine fold (N := N) (len := p.g.bars.length) (st := fun j => mat n (Ze p ow j)) (F := fun m s => Bd N p v1 kk m s) (by omega) (fun m i hi => ?_) fun m => ?_
 ·show Bd N p v1 kk (m + 1) (mat n (Ze p ow i), (i : Int)) = Bd N p v1 kk m (mat n (Ze p ow (i + 1)), ((i + 1 : Nat) : Int))
  rw [Bd, hv1]
  have en : (p.g.n).toNat = n := by omega
  have ei : ((i : Int)).toNat = i := by omega
  obtain ⟨f1, f2, f3, f4, f5⟩ := own_facts hp ho hi
  have hrow := Jg (n := n) (a := (ow.getD i 0).toNat) (Ze p ow i) (by omega)
  rw [Ak (by omega), Ad (by omega), ei, Ad (by omega), bother_s, Option.bind_some, Sy N hN hp, Option.bind_some]
  rw [List.length_replicate, Yc, hrow, en, mat_set _ _ (by omega) (by omega), Ad (by omega), Ad (by omega), Ad (by omega), As (by omega) (by omega), As (by omega) (by omega), Am]
  cases hin : Pi p (Cg (p.g.bars.getD i (0, 0)) (ow.getD i 0)) with
  | true =>
   rw [cnd_true]
   refine congrArg (fun L => Bd N p v1 kk m (L, ((i + 1 : Nat) : Int))) (Jy fun a b ha hb => ?_)
   simp only [upd, Ze, arc_succ]
   by_cases h : a = (ow.getD i 0).toNat ∧ b = (Cg (p.g.bars.getD i (0, 0)) (ow.getD i 0)).toNat
   ·rw [if_pos h]
    have h1 : (a : Int) = ow.getD i 0 := by omega
    have h2 : (b : Int) = Cg (p.g.bars.getD i (0, 0)) (ow.getD i 0) := by omega
    rw [h1, h2, hin]; simp
   rw [if_neg h]
   have : ((ow.getD i 0 == (a : Int)) && (Cg (p.g.bars.getD i (0, 0)) (ow.getD i 0) == (b : Int))) = false := by
    rw [Bool.and_eq_false_iff, beq_eq_false_iff_ne, beq_eq_false_iff_ne]
    by_cases h1 : ow.getD i 0 = (a : Int)
    ·right; intro h2; exact h ⟨by omega, by omega⟩
    left; exact h1
   rw [this]; simp
  | false =>
   rw [cnd_false]
   refine congrArg (fun L => Bd N p v1 kk m (L, ((i + 1 : Nat) : Int))) (Jy fun a b ha hb => ?_)
   simp only [Ze, arc_succ]
   have : ((ow.getD i 0 == (a : Int)) && (Cg (p.g.bars.getD i (0, 0)) (ow.getD i 0) == (b : Int)) && Pi p (b : Int)) = false := by
    rw [Bool.and_eq_false_iff]
    by_cases h2 : Cg (p.g.bars.getD i (0, 0)) (ow.getD i 0) = (b : Int)
    ·right; rw [← h2]; exact hin
    left; rw [Bool.and_eq_false_iff]; right; rw [beq_eq_false_iff_ne]; exact h2
   rw [this]; simp
 show Bd N p v1 kk (m + 1) (mat n (Ze p ow p.g.bars.length), (p.g.bars.length : Int)) = _
 rw [Bd, hv1, Al (by omega)]
def dp (p : Pin) (ow : List Int) : Nat → Nat → Bool := wall p.g.n.toNat (Ze p ow p.g.bars.length)
theorem Vy (hN : 4000000 ≤ N) {p : Pin} {ow : List Int} {b : Bool} (hI : Fh N p = some (ow, b)) (hf : b = true → Ay p = true ∧ ow.length = p.g.bars.length ∧ Own p 0 ow) :
  Hm N p = some (cnd b (mat p.g.n.toNat (dp p ow)) [], b) := by
 unfold Hm
 rw [hI, Option.bind_some]
 cases b with
 | false => rfl
 | true =>
  obtain ⟨hp, hl, ho⟩ := hf rfl
  have hbd := Bn hp
  obtain ⟨n, hn⟩ : ∃ n : Nat, p.g.n = n := ⟨p.g.n.toNat, by omega⟩
  have en : (p.g.n).toNat = n := by omega
  show cnd (!true) _ _ = _
  rw [Bool.not_true, cnd_false, Ad (by omega), en, dep5_s hN hp hn (by omega)]
  have e0 : mat n (fun a b => decide (a = b) && Pi p (a : Int)) = mat n (Ze p ow 0) := Jy fun a b _ _ => by simp [Ze, arc]
  rw [e0, dep4_s hN hp hn (by omega) rfl hl ho, dep1_s hN hn (by omega), List.length_replicate, Yc, Ad rfl, cnd_true, dp, en]
structure Bf (p : Pin) (ow : List Int) (v : Int) (Q : List Int) (k m : Nat) : Prop where
 hd : v ∈ Q
 nd : Q.Nodup
 rc : ∀ x ∈ Q, Pi p x = true ∧ Way p.g.n.toNat (Ze p ow p.g.bars.length) v.toNat x.toNat
 dn : ∀ j i, (j < k ∨ j = k ∧ i < m) → j < Q.length → i < p.g.bars.length → ow.getD i 0 = Q.getD j 0 → Pi p (Cg (p.g.bars.getD i (0, 0)) (ow.getD i 0)) = true → Cg (p.g.bars.getD i (0, 0)) (ow.getD i 0) ∈ Q
theorem Lw {p : Pin} {x : Int} (h : Pi p x = true) : 0 ≤ x ∧ x < p.g.n := by
 unfold Pi at h
 rw [Bool.and_eq_true, inB_true] at h
 omega
theorem Bf.len {p : Pin} {ow : List Int} {v : Int} {Q : List Int} {k m : Nat} (hp : Ay p = true) (h : Bf p ow v Q k m) : Q.length ≤ 8 := by
 have hbd := Bn hp
 have := Wx (n := p.g.n.toNat) h.nd fun x hx => by have := Lw (h.rc x hx).1; omega
 omega
theorem isIn_at {p : Pin} {x : Int} (h0 : 0 ≤ x) (h1 : x < p.g.n) : Pi p x = !p.ground.contains x := by
 unfold Pi
 rw [inB_true.2 ⟨h0, by omega⟩, Bool.true_and]
theorem reach3_s (hN : 4000000 ≤ N) {p : Pin} (hp : Ay p = true) {ow : List Int} (hl : ow.length = p.g.bars.length) (ho : Own p 0 ow) {v : Int} {k : Nat} (kk : List Int → Option (List Int)) : ∀ (fuel i : Nat) (Q : List Int), i ≤ p.g.bars.length → p.g.bars.length < fuel + i → k < Q.length → Bf p ow v Q k i →
  ∃ Q', Cr N p ow (k : Int) kk fuel (Q, (i : Int)) = kk Q' ∧ Bf p ow v Q' k p.g.bars.length ∧ k < Q'.length := by
 have hbd := Bn hp
 intro fuel
 induction fuel with
 | zero => intro i Q h1 h2; omega
 | succ fuel ih =>
  intro i Q h1 h2 hk hB
  have h8 := hB.len hp
  rw [Cr]
  by_cases hi : i < p.g.bars.length
  ·have ei : ((i : Int)).toNat = i := by omega
   have ek : ((k : Int)).toNat = k := by omega
   obtain ⟨f1, f2, f3, f4, f5⟩ := own_facts hp ho hi
   have hbar := Pm hp hi
   rw [Ak (by omega), Ad (by omega), Ad (by omega), ei, ek]
   have skip : (ow.getD i 0 = Q.getD k 0 → Pi p (Cg (p.g.bars.getD i (0, 0)) (ow.getD i 0)) = true → Cg (p.g.bars.getD i (0, 0)) (ow.getD i 0) ∈ Q) → ∃ Q', Cr N p ow (k : Int) kk fuel (Q, ((i + 1 : Nat) : Int)) = kk Q' ∧ Bf p ow v Q' k p.g.bars.length ∧ k < Q'.length := fun hs =>
    ih (i + 1) Q (by omega) (by omega) hk ⟨hB.hd, hB.nd, hB.rc, fun j i' hj hjl hil e hin => by
     by_cases hji : j < k ∨ j = k ∧ i' < i
     ·exact hB.dn j i' hji hjl hil e hin
     obtain ⟨rfl, rfl⟩ : j = k ∧ i' = i := by omega
     exact hs e hin⟩
   by_cases he : ow.getD i 0 = Q.getD k 0
   ·rw [Ql he, Ad (by omega), l4Other_s N (by omega) (by omega) (by omega) (by omega) f3, Option.bind_some, Ka N hN (by omega), Option.bind_some]
    cases hc : Q.contains (Cg (p.g.bars.getD i (0, 0)) (ow.getD i 0)) with
    | true =>
     rw [Bool.not_true, cnd_false, As (by omega) (by omega), Am]
     exact skip fun _ _ => by simpa using hc
    | false =>
     rw [Bool.not_false, cnd_true, Ka N hN (by omega), Option.bind_some]
     have hin := isIn_at f4 f5
     cases hg : p.ground.contains (Cg (p.g.bars.getD i (0, 0)) (ow.getD i 0)) with
     | true =>
      rw [Bool.not_true, cnd_false, As (by omega) (by omega), Am]
      exact skip fun _ h => by rw [hin, hg] at h; cases h
     | false =>
      rw [hg, Bool.not_false] at hin
      rw [Bool.not_false, cnd_true, Ad (by omega), As (by omega) (by omega), Am]
      have hn : Cg (p.g.bars.getD i (0, 0)) (ow.getD i 0) ∉ Q := by simpa using hc
      have hmem : ow.getD i 0 ∈ Q := by rw [he]; exact Dd hk
      refine ih (i + 1) _ (by omega) (by omega) (by rw [List.length_append]; omega) ⟨by simp [hB.hd], List.nodup_append.2 ⟨hB.nd, by simp, fun x hx y hy e => hn ?_⟩, fun x hx => ?_, fun j i' hj hjl hil e hin2 => ?_⟩
      ·rw [← List.mem_singleton.1 hy, ← e]; exact hx
      ·rcases List.mem_append.1 hx with hx | hx
       ·exact hB.rc x hx
       have hx' : x = Cg (p.g.bars.getD i (0, 0)) (ow.getD i 0) := by simpa using hx
       rw [hx']
       refine ⟨hin, (hB.rc _ hmem).2.trans (.one (by omega) (by omega) ?_)⟩
       have c1 : (((ow.getD i 0).toNat : Nat) : Int) = ow.getD i 0 := by omega
       have c2 : (((Cg (p.g.bars.getD i (0, 0)) (ow.getD i 0)).toNat : Nat) : Int) = Cg (p.g.bars.getD i (0, 0)) (ow.getD i 0) := by omega
       simp only [Ze, arc, Bool.or_eq_true, List.any_eq_true]
       refine .inr ⟨i, by simpa using hi, ?_⟩
       rw [c1, c2, hin]; simp
      have hjQ : j < Q.length := by omega
      have eg : (Q ++ [Cg (p.g.bars.getD i (0, 0)) (ow.getD i 0)]).getD j 0 = Q.getD j 0 := by
       rw [List.getD_eq_getElem?_getD, List.getElem?_append_left hjQ, ← List.getD_eq_getElem?_getD]
      rw [eg] at e
      by_cases hji : j < k ∨ j = k ∧ i' < i
      ·exact List.mem_append_left _ (hB.dn j i' hji hjQ hil e hin2)
      obtain ⟨rfl, rfl⟩ : j = k ∧ i' = i := by omega
      simp
   rw [Li he, As (by omega) (by omega), Am]
   exact skip fun h => absurd h he
  obtain rfl : i = p.g.bars.length := by omega
  rw [Al (by omega)]
  exact ⟨Q, rfl, hB, hk⟩
theorem reach2_s (hN : 4000000 ≤ N) {p : Pin} (hp : Ay p = true) {ow : List Int} (hl : ow.length = p.g.bars.length) (ho : Own p 0 ow) {v : Int} (kk : List Int → Option (List Int)) : ∀ (fuel k : Nat) (Q : List Int), k ≤ Q.length → 8 < fuel + k → Bf p ow v Q k 0 →
  ∃ Q', Dw N p ow kk fuel (Q, (k : Int)) = kk Q' ∧ Bf p ow v Q' Q'.length 0 := by
 have hbd := Bn hp
 intro fuel
 induction fuel with
 | zero => intro k Q h1 h2 hB; have := hB.len hp; omega
 | succ fuel ih =>
  intro k Q h1 h2 hB
  have h8 := hB.len hp
  rw [Dw]
  by_cases hk : k < Q.length
  ·rw [Ak (by omega)]
   obtain ⟨Q', e, hB', hk'⟩ := reach3_s hN hp hl ho (v := v) (k := k) (fun (l152 : List Int) => grd (Bk ((k : Int) + (1 : Int))) <| Dw N p ow kk fuel (l152, ((k : Int) + (1 : Int)))) N 0 Q (by omega) (by omega) hk hB
   have h8' := hB'.len hp
   obtain ⟨Q2, e2, hB2⟩ := ih (k + 1) Q' (by omega) (by omega) ⟨hB'.hd, hB'.nd, hB'.rc, fun j i hj hjl hil e hin => hB'.dn j i (by omega) hjl hil e hin⟩
   refine ⟨Q2, ?_, hB2⟩
   refine e.trans ?_
   show grd _ _ = _
   rw [As (by omega) (by omega), Am]
   exact e2
  obtain rfl : k = Q.length := by omega
  rw [Al (by omega)]
  exact ⟨Q, rfl, hB⟩
theorem way_in {p : Pin} {ow : List Int} {v : Int} {Q : List Int} (hB : Bf p ow v Q Q.length 0) {a b : Nat} (h : Way p.g.n.toNat (Ze p ow p.g.bars.length) a b) : (a : Int) ∈ Q → (b : Int) ∈ Q := by
 have one : ∀ a b : Nat, Ze p ow p.g.bars.length a b = true → (a : Int) ∈ Q → (b : Int) ∈ Q := fun a b h ha => by
  simp only [Ze, arc, Bool.or_eq_true, List.any_eq_true, Bool.and_eq_true, decide_eq_true_eq, beq_iff_eq, List.mem_range] at h
  rcases h with h | ⟨i, hi, ⟨h1, h2⟩, h3⟩
  ·rw [← h.1]; exact ha
  obtain ⟨j, hj, e⟩ := List.mem_iff_getElem.1 ha
  have := hB.dn j i (.inl hj) hj hi (by rw [h1, List.getD_eq_getElem?_getD, List.getElem?_eq_getElem hj, e]; rfl) (by rw [h2]; exact h3)
  rw [h2] at this
  exact this
 induction h with
 | one h1 h2 h3 => exact one _ _ h3
 | step h1 h2 h3 _ ih => exact fun ha => ih (one _ _ h3 ha)
def Fx (p : Pin) (ow : List Int) (v : Int) : List Int := sel (fun u => (u : Int)) (fun u => dp p ow v.toNat u) p.g.n.toNat
theorem Qz {p : Pin} (hp : Ay p = true) (ow : List Int) (v : Int) : (Fx p ow v).length ≤ 8 := by
 have hbd := Bn hp
 have := sel_len (fun u => (u : Int)) (fun u => dp p ow v.toNat u) p.g.n.toNat
 unfold Fx
 omega
theorem dp_self {p : Pin} (ow : List Int) {v : Int} (h : Pi p v = true) : dp p ow v.toNat v.toNat = true := by
 have := Lw h
 refine St _ _ _ _ ?_
 have e : ((v.toNat : Nat) : Int) = v := by omega
 simp [Ze, e, h]
theorem Tg {p : Pin} (ow : List Int) {a b c : Nat} (hb : b < p.g.n.toNat) (h1 : dp p ow a b = true) (h2 : dp p ow b c = true) : dp p ow a c = true := wall_tr _ _ _ _ _ hb h1 h2
theorem reach_s (hN : 4000000 ≤ N) {p : Pin} (hp : Ay p = true) {ow : List Int} (hl : ow.length = p.g.bars.length) (ho : Own p 0 ow) {v : Int} (hv : Pi p v = true) : Hl N p ow v = some (Fx p ow v) := by
 have hbd := Bn hp
 have hr := Lw hv
 obtain ⟨n, hn⟩ : ∃ n : Nat, p.g.n = n := ⟨p.g.n.toNat, by omega⟩
 have en : (p.g.n).toNat = n := by omega
 have ev : ((v.toNat : Nat) : Int) = v := by omega
 unfold Hl
 have hw : Way p.g.n.toNat (Ze p ow p.g.bars.length) v.toNat v.toNat := (wall_iff (by omega) (by omega)).1 (dp_self ow hv)
 obtain ⟨Q, e, hB⟩ := reach2_s hN hp hl ho (v := v) (fun (l75 : List Int) => Bu N p l75 (fun (l82 : List Int) => some l82) N (([] : List Int), (0 : Int))) N 0 [v] (by simp) (by omega) ⟨by simp, by simp, fun x hx => by
  have : x = v := by simpa using hx
  subst this; exact ⟨hv, hw⟩, fun j i hj => by omega⟩
 refine e.trans ?_
 show Bu N p Q _ N (([] : List Int), (0 : Int)) = _
 have h8 := hB.len hp
 have hq : ∀ u : Nat, u < n → Q.contains (u : Int) = dp p ow v.toNat u := fun u hu => by
  rw [Bool.eq_iff_iff]
  have hw2 := wall_iff (n := p.g.n.toNat) (f := Ze p ow p.g.bars.length) (a := v.toNat) (b := u) (by omega) (by omega)
  constructor
  ·intro h
   have := (hB.rc (u : Int) (by simpa using h)).2
   exact hw2.2 this
  intro h
  have := way_in hB (hw2.1 h) (by rw [ev]; exact hB.hd)
  simpa using this
 have key := fold (N := N) (len := n) (st := fun j => sel (fun u => (u : Int)) (fun u => dp p ow v.toNat u) j) (F := fun m s => Bu N p Q (fun (l82 : List Int) => some l82) m s) (fin := some (Fx p ow v)) (by omega) (fun m i hi => by
  show Bu N p Q _ (m + 1) (sel _ _ i, (i : Int)) = Bu N p Q _ m (sel _ _ (i + 1), ((i + 1 : Nat) : Int))
  rw [Bu, Ak (by omega), Ka N hN (by omega), Option.bind_some, hq i hi]
  have hsl := sel_len (fun u => (u : Int)) (fun u => dp p ow v.toNat u) i
  rw [Ad (by omega), As (by omega) (by omega), As (by omega) (by omega), Am, sel_succ]
  cases dp p ow v.toNat i <;> rfl) fun m => by
  show Bu N p Q _ (m + 1) (sel _ _ n, (n : Int)) = _
  rw [Bu, Al (by omega)]
  show some _ = _
  rw [Fx, en]
 exact key
end Go.Proofs.Ytkklfgcelmeccaa
namespace Go.Proofs.Ytkklfgcelmeccaa
open Go.RowKit Go.Deep
def Cw (N : Nat) (v1 : (List (List Bool)) × Bool) (v2 : List Int) (l31 : List (List Int)) (n32 : Nat) (x33 : Int) (k : ((List (List Int)) × Bool) → Option ((List (List Int)) × Bool)) : Nat → Int → Option ((List (List Int)) × Bool)
 | 0, _ => none
 | n + 1, x43 =>
  cnd (decide (x43 < (n32 : Int))) (
   grd (0 ≤ x43 ∧ x43 < (n32 : Int)) <|
   grd (0 ≤ x43 ∧ x43 < (l31.length : Int)) <|
   grd (0 ≤ (v2.getD ((x33).toNat) 0) ∧ (v2.getD ((x33).toNat) 0) < (v1.1.length : Int)) <|
   grd (0 ≤ (0 : Int) ∧ (0 : Int) < ((l31.getD ((x43).toNat) []).length : Int)) <|
   grd (0 ≤ ((l31.getD ((x43).toNat) []).getD ((0 : Int).toNat) 0) ∧ ((l31.getD ((x43).toNat) []).getD ((0 : Int).toNat) 0) < ((v1.1.getD (((v2.getD ((x33).toNat) 0)).toNat) []).length : Int)) <|
   cnd ((v1.1.getD (((v2.getD ((x33).toNat) 0)).toNat) []).getD ((((l31.getD ((x43).toNat) []).getD ((0 : Int).toNat) 0)).toNat) false) (
    grd (0 ≤ ((l31.getD ((x43).toNat) []).getD ((0 : Int).toNat) 0) ∧ ((l31.getD ((x43).toNat) []).getD ((0 : Int).toNat) 0) < (v1.1.length : Int)) <|
    grd (0 ≤ (v2.getD ((x33).toNat) 0) ∧ (v2.getD ((x33).toNat) 0) < ((v1.1.getD ((((l31.getD ((x43).toNat) []).getD ((0 : Int).toNat) 0)).toNat) []).length : Int)) <|
    cnd ((v1.1.getD ((((l31.getD ((x43).toNat) []).getD ((0 : Int).toNat) 0)).toNat) []).getD (((v2.getD ((x33).toNat) 0)).toNat) false) (
     grd ((l31.getD ((x43).toNat) []).length + 1 ≤ 4294967296) <|
     k ((l31.set ((x43).toNat) ((l31.getD ((x43).toNat) []) ++ ([(v2.getD ((x33).toNat) 0)] : List Int))), true)) (
     grd (Bk (x43 + (1 : Int))) <|
     Cw N v1 v2 l31 n32 x33 k n (x43 + (1 : Int)))) (
    grd (Bk (x43 + (1 : Int))) <|
    Cw N v1 v2 l31 n32 x33 k n (x43 + (1 : Int)))) (
   k (l31, false))
def Bz (N : Nat) (v1 : (List (List Bool)) × Bool) (v2 : List Int) (k : ((List (List Int)) × Nat) → Option ((List (List Int)) × Bool)) : Nat → ((List (List Int)) × Nat × Int) → Option ((List (List Int)) × Bool)
 | 0, _ => none
 | n + 1, (l31, n32, x33) =>
  cnd (decide (x33 < (v2.length : Int))) (
   grd (0 ≤ x33 ∧ x33 < (v2.length : Int)) <|
   Cw N v1 v2 l31 n32 x33 (fun (x : (List (List Int)) × Bool) =>
     match x with
     | (l40, joined41) =>
      cnd (!joined41) (
       grd (n32 = l40.length) <|
       grd (l40.length + 1 ≤ 4294967296) <|
       grd (Bk (x33 + (1 : Int))) <|
       Bz N v1 v2 k n ((l40 ++ [([(v2.getD ((x33).toNat) 0)] : List Int)]), (l40 ++ [([(v2.getD ((x33).toNat) 0)] : List Int)]).length, (x33 + (1 : Int)))) (
       grd (Bk (x33 + (1 : Int))) <|
       Bz N v1 v2 k n (l40, n32, (x33 + (1 : Int))))) N (0 : Int)) (
   k (l31, n32))
def Hz (N : Nat) (p_0 : Pin) : Option ((List (List Int)) × Bool) :=
 (Hm N p_0).bind fun v1 =>
 cnd (!v1.2) (
  some (([] : List (List Int)), false)) (
  (Gp N p_0).bind fun v2 =>
  Bz N v1 v2 (fun (x : (List (List Int)) × Nat) =>
    match x with
    | (l22, n23) =>
     grd (n23 = l22.length) <|
     some (l22, true)) N (([] : List (List Int)), ([] : List (List Int)).length, (0 : Int)))
theorem Zd (N : Nat) (p_0 : Pin) (r : (List (List Int)) × Bool) (h : Hz N p_0 = some r) : PCallD Try.prog 57 [pD p_0] 35 3 (.intss r.1) (.tup [.row 0 0 r.1.length, .bool r.2]) := by
 unfold Hz at h
 refine Qa (TT := TT) tt Try.func57 rfl rfl Try.ntmps57 (congrArg Array.toList Try.results57) rfl rfl rfl fun w0 => ?_
 refine Ah ?_
 refine Aa ?_
 refine Jc rfl rfl rfl rfl rfl rfl rfl rfl rfl ?_
 iterate 2 refine Ac tt rfl rfl rfl rfl rfl Tvv ?_
 refine Af ?_
 change VC _ _ _ _
 refine Ah ?_
 refine Aa ?_
 refine Gx tt (Ag rfl) rfl rfl rfl rfl ?_
 refine Ac tt rfl rfl rfl rfl rfl Tvv ?_
 refine Af ?_
 change VC _ _ _ _
 refine Ah ?_
 refine Aa ?_
 refine Ac tt rfl rfl rfl rfl rfl Tvv ?_
 obtain ⟨v1, hc1, h⟩ := Ai h
 refine oCallD 10 (Re N p_0 v1 hc1) rfl rfl rfl rfl rfl rfl rfl rfl rfl rfl rfl (fun _ h => by cases h) ⟨⟨rfl, rfl, rfl, Tvv⟩, Tvv⟩ ?_
 iterate 5 refine Ac tt rfl rfl rfl rfl rfl Tvv ?_
 refine Af ?_
 change VC _ _ _ _
 iterate 2 refine Ah ?_
 refine Aa ?_
 iterate 2 refine Ac tt rfl rfl rfl rfl rfl Tvv ?_
 refine Af ?_
 change VC _ _ _ _
 refine Av rfl (fun hb2 => ?_) (fun hb2 => ?_)
 ·replace h := Ao hb2 h
  refine Ah ?_
  refine Aa ?_
  iterate 3 refine Ac tt rfl rfl rfl rfl rfl Tvv ?_
  refine Af ?_
  change VC _ _ _ _
  refine Lp 2 9001 35 (.intss []) rfl rfl rfl rfl ?_
  refine vEn (En.newFam 12 3 (.ints []) rfl rfl rfl rfl (fun _ h => by cases h) rfl) ?_
  refine vEn (En.asRefs 9001 12 (q := .intss []) (qR := dR 12 (.intss [])) rfl rfl rfl rfl) ?_
  refine Bh ?_
  change ∃ _, _
  cases h
  exact ⟨9001, 12, _, rfl, rfl, rfl, rfl, rfl, (.eq rfl), rfl⟩
 replace h := Ap hb2 h
 refine Au ?_
 change VC _ _ _ _
 iterate 2 refine Ah ?_
 refine Aa ?_
 refine Ac tt rfl rfl rfl rfl rfl Tvv ?_
 obtain ⟨v2, hc3, h⟩ := Ai h
 refine Bm (Qc N p_0 v2 hc3) rfl rfl rfl rfl rfl rfl rfl rfl ⟨⟨rfl, rfl, rfl, Tvv⟩, Tvv⟩ ?_
 iterate 2 refine Ac tt rfl rfl rfl rfl rfl Tvv ?_
 refine Af ?_
 change VC _ _ _ _
 refine Cc (F := fun k => Bz N v1 v2 k) h (α := (List (List Int)) × Nat) (J := fun | (l22, n23) => (⟨[(4, .row 9542 0 n23)], [(9542, some (35, dR 11 (.intss l22))), (8589934603, some (3, dF (.intss l22)))], []⟩ : PS)) ?_ ?_
 ·rintro ⟨l22, n23⟩ h
  show VC _ _ _ (⟨[(4, .row 9542 0 n23)], [(9542, some (35, dR 11 (.intss l22))), (8589934603, some (3, dF (.intss l22)))], []⟩ : PS)
  refine Ah ?_
  refine Aa ?_
  iterate 3 refine Ac tt rfl rfl rfl rfl rfl Tvv ?_
  refine Af ?_
  change VC _ _ _ _
  obtain ⟨hg4, h⟩ := Ab h
  refine Bh ?_
  change ∃ _, _
  cases h
  exact ⟨9542, 11, _, rfl, rfl, rfl, rfl, rfl, (.eq (by simp only [hg4]; rfl)), rfl⟩
 intro k h
 refine Ar ?_
 refine Lp 4 9562 35 (.intss []) rfl rfl rfl rfl ?_
 refine vEn (En.newFam 11 3 (.ints []) rfl rfl rfl rfl (fun _ h => by cases h) rfl) ?_
 refine vEn (En.asRefs 9562 11 (q := .intss []) (qR := dR 11 (.intss [])) rfl rfl rfl rfl) ?_
 refine Ba (α := (List (List Int)) × Nat × Int) (fun | (l31, n32, x33) => (⟨[(4, .row 9562 0 n32), (5, .row 1150 0 v1.1.length), (22, .row 1220 0 v2.length), (23, .int (v2.length : Int)), (24, .int x33)], [(9562, some (35, dR 11 (.intss l31))), (8589934603, some (3, dF (.intss l31))), (1150, some (128, dR 10 (.boolss v1.1))), (8589934602, some (4, dF (.boolss v1.1))), (1220, some (3, .ints v2))], []⟩ : PS)) (Bz N v1 v2 k) h (En.of ⟨rfl, rfl, rfl, rfl, rfl, Tvv⟩ ⟨rfl, rfl, rfl, rfl, rfl, Tvv⟩ trivial) (fun _ => rfl) ?_
 rintro n ⟨l31, n32, x33⟩ h
 rw [Bz] at h
 show VC _ _ _ (⟨[(4, .row 9562 0 n32), (5, .row 1150 0 v1.1.length), (22, .row 1220 0 v2.length), (23, .int (v2.length : Int)), (24, .int x33)], [(9562, some (35, dR 11 (.intss l31))), (8589934603, some (3, dF (.intss l31))), (1150, some (128, dR 10 (.boolss v1.1))), (8589934602, some (4, dF (.boolss v1.1))), (1220, some (3, .ints v2))], []⟩ : PS)
 refine Ah ?_
 refine Aa ?_
 refine Ac tt rfl rfl rfl rfl rfl Tvv ?_
 refine Af ?_
 change VC _ _ _ _
 refine Ah ?_
 refine Av rfl (fun hb5 => ?_) (fun hb5 => ?_)
 ·replace h := Ao hb5 h
  refine Au ?_
  change VC _ _ _ _
  refine Ah ?_
  refine Ar ?_
  refine Ah ?_
  refine Aa ?_
  obtain ⟨hg6, h⟩ := Ab h
  iterate 2 refine Ac tt rfl rfl rfl rfl rfl hg6 ?_
  refine Ac tt rfl rfl rfl rfl rfl Tvv ?_
  refine Af ?_
  change VC _ _ _ _
  refine Ah ?_
  refine Aa ?_
  refine Ac tt rfl rfl rfl rfl rfl Tvv ?_
  refine Af ?_
  change VC _ _ _ _
  iterate 2 refine Ah ?_
  refine Aa ?_
  iterate 3 refine Ac tt rfl rfl rfl rfl rfl Tvv ?_
  refine Af ?_
  change VC _ _ _ _
  refine Cc (F := fun k => Cw N v1 v2 l31 n32 x33 k) h (α := (List (List Int)) × Bool) (J := fun | (l40, joined41) => (⟨[(4, .row 9562 0 n32), (5, .row 1150 0 v1.1.length), (8, .int (v2.getD ((x33).toNat) 0)), (9, .bool joined41), (22, .row 1220 0 v2.length), (23, .int (v2.length : Int)), (24, .int x33)], [(9562, some (35, dR 11 (.intss l40))), (8589934603, some (3, dF (.intss l40))), (1150, some (128, dR 10 (.boolss v1.1))), (8589934602, some (4, dF (.boolss v1.1))), (1220, some (3, .ints v2))], []⟩ : PS)) ?_ ?_
  ·rintro ⟨l40, joined41⟩ h
   show VC _ _ _ (⟨[(4, .row 9562 0 n32), (5, .row 1150 0 v1.1.length), (8, .int (v2.getD ((x33).toNat) 0)), (9, .bool joined41), (22, .row 1220 0 v2.length), (23, .int (v2.length : Int)), (24, .int x33)], [(9562, some (35, dR 11 (.intss l40))), (8589934603, some (3, dF (.intss l40))), (1150, some (128, dR 10 (.boolss v1.1))), (8589934602, some (4, dF (.boolss v1.1))), (1220, some (3, .ints v2))], []⟩ : PS)
   refine Ah ?_
   refine Aa ?_
   iterate 2 refine Ac tt rfl rfl rfl rfl rfl Tvv ?_
   refine Af ?_
   change VC _ _ _ _
   refine Av rfl (fun hb7 => ?_) (fun hb7 => ?_)
   ·replace h := Ao hb7 h
    refine Aa ?_
    iterate 2 refine Ac tt rfl rfl rfl rfl rfl Tvv ?_
    refine Dt tt rfl rfl rfl rfl rfl rfl rfl rfl rfl rfl rfl ?_
    refine vEnO (En.adopt 67 67 9562 11 (q := (.intss l40)) rfl rfl rfl rfl rfl rfl (by simp [Sq.len, Fq.len, Mw, Fq.hole]) (pushI _ _) rfl (d' := .irow 11 l40.length ([(v2.getD ((x33).toNat) 0)] : List Int).length) (by simp [Fq.len]) rfl) ?_
    refine oBuildI tt rfl rfl rfl rfl rfl rfl rfl rfl rfl rfl ?_
    obtain ⟨hg8, h⟩ := Ab h
    refine oRowT 65 9562 hg8 rfl ?_
    obtain ⟨hg9, h⟩ := Ab h
    refine oAppendD (.intss (l40 ++ [([(v2.getD ((x33).toNat) 0)] : List Int)])) tt (q := (.intss l40)) rfl rfl rfl rfl rfl rfl rfl rfl (Nat.le_of_eq (Nat.zero_add _)) rfl rfl rfl rfl rfl rfl rfl (appI 11 l40 ([(v2.getD ((x33).toNat) 0)] : List Int)) hg9 ?_
    refine Ac tt rfl rfl rfl rfl rfl Tvv ?_
    refine Af ?_
    change VC _ _ _ _
    refine Aa ?_
    obtain ⟨hg10, h⟩ := Ab h
    refine Ac tt rfl rfl rfl rfl rfl hg10 ?_
    refine Ac tt rfl rfl rfl rfl rfl Tvv ?_
    refine Af ?_
    change ∃ _, _
    exact ⟨((l40 ++ [([(v2.getD ((x33).toNat) 0)] : List Int)]), (l40 ++ [([(v2.getD ((x33).toNat) 0)] : List Int)]).length, (x33 + (1 : Int))), (En.of ⟨rfl, rfl, rfl, rfl, rfl, Tvv⟩ ⟨rfl, rfl, rfl, rfl, rfl, Tvv⟩ trivial), h⟩
   replace h := Ap hb7 h
   refine Au ?_
   change VC _ _ _ _
   refine Aa ?_
   obtain ⟨hg11, h⟩ := Ab h
   refine Ac tt rfl rfl rfl rfl rfl hg11 ?_
   refine Ac tt rfl rfl rfl rfl rfl Tvv ?_
   refine Af ?_
   change ∃ _, _
   exact ⟨(l40, n32, (x33 + (1 : Int))), (En.of ⟨rfl, rfl, rfl, rfl, rfl, Tvv⟩ ⟨rfl, rfl, rfl, rfl, rfl, Tvv⟩ trivial), h⟩
  intro k h
  refine Ar ?_
  refine Ba (α := Int) (fun (x43 : Int) => (⟨[(4, .row 9562 0 n32), (5, .row 1150 0 v1.1.length), (8, .int (v2.getD ((x33).toNat) 0)), (9, .bool false), (22, .row 1220 0 v2.length), (23, .int (v2.length : Int)), (24, .int x33), (28, .row 9562 0 n32), (29, .int (n32 : Int)), (30, .int x43)], [(9562, some (35, dR 11 (.intss l31))), (8589934603, some (3, dF (.intss l31))), (1150, some (128, dR 10 (.boolss v1.1))), (8589934602, some (4, dF (.boolss v1.1))), (1220, some (3, .ints v2))], []⟩ : PS)) (Cw N v1 v2 l31 n32 x33 k) h (En.of ⟨rfl, rfl, rfl, rfl, rfl, rfl, rfl, rfl, rfl, rfl, Tvv⟩ ⟨rfl, rfl, rfl, rfl, rfl, Tvv⟩ trivial) (fun _ => rfl) ?_
  rintro n x43 h
  rw [Cw] at h
  show VC _ _ _ (⟨[(4, .row 9562 0 n32), (5, .row 1150 0 v1.1.length), (8, .int (v2.getD ((x33).toNat) 0)), (9, .bool false), (22, .row 1220 0 v2.length), (23, .int (v2.length : Int)), (24, .int x33), (28, .row 9562 0 n32), (29, .int (n32 : Int)), (30, .int x43)], [(9562, some (35, dR 11 (.intss l31))), (8589934603, some (3, dF (.intss l31))), (1150, some (128, dR 10 (.boolss v1.1))), (8589934602, some (4, dF (.boolss v1.1))), (1220, some (3, .ints v2))], []⟩ : PS)
  refine Ah ?_
  refine Aa ?_
  refine Ac tt rfl rfl rfl rfl rfl Tvv ?_
  refine Af ?_
  change VC _ _ _ _
  refine Ah ?_
  refine Av rfl (fun hb12 => ?_) (fun hb12 => ?_)
  ·replace h := Ao hb12 h
   refine Au ?_
   change VC _ _ _ _
   refine Ah ?_
   refine Ar ?_
   refine Ah ?_
   refine Aa ?_
   refine Ac tt rfl rfl rfl rfl rfl Tvv ?_
   obtain ⟨hg13, h⟩ := Ab h
   refine Ac tt rfl rfl rfl rfl rfl hg13 ?_
   obtain ⟨hg14, h⟩ := Ab h
   refine oLoadD tt (Ag rfl) (.intss l31) rfl rfl rfl rfl rfl rfl rfl rfl rfl hg14 ?_
   iterate 2 refine Ac tt rfl rfl rfl rfl rfl Tvv ?_
   refine Af ?_
   change VC _ _ _ _
   refine Ah ?_
   refine Ca (by kernel_rfl) (by kernel_rfl) ?_
   iterate 2 refine Bi tt rfl (Ag rfl) rfl rfl rfl Tvv ?_
   obtain ⟨hg15, h⟩ := Ab h
   refine Bi tt rfl (Ag rfl) rfl rfl rfl hg15 ?_
   refine cLoadD tt (Ag rfl) (.boolss v1.1) rfl rfl rfl rfl rfl rfl rfl rfl rfl hg15 ?_
   refine Bi tt rfl (Ag rfl) rfl rfl rfl Tvv ?_
   obtain ⟨hg16, h⟩ := Ab h
   refine Wh (Ag rfl) (Sr tt (q := (.intss l31)) rfl rfl rfl rfl rfl rfl (by simp only [Sq.len, List.length_set, List.length_append, List.length_replicate] at *; omega) rfl hg16) rfl rfl ?_
   refine Wh (Ag rfl) (Ta tt (q := (.intss l31)) rfl rfl rfl rfl rfl (by simp only [Sq.len, List.length_set, List.length_append, List.length_replicate] at *; omega) hg16 rfl) rfl rfl ?_
   obtain ⟨hg17, h⟩ := Ab h
   refine Wh (Ag rfl) (Sr tt (q := (.boolss v1.1)) rfl rfl rfl rfl rfl rfl (by simp only [Sq.len, List.length_set, List.length_append, List.length_replicate] at *; omega) rfl hg17) rfl rfl ?_
   refine Wh (Ag rfl) (Ta tt (q := (.boolss v1.1)) rfl rfl rfl rfl rfl (by simp only [Sq.len, List.length_set, List.length_append, List.length_replicate] at *; omega) hg17 rfl) rfl rfl ?_
   refine Bi tt rfl (Ag rfl) rfl rfl rfl Tvv ?_
   refine Hr rfl rfl rfl (fun hb18 => ?_) (fun hb18 => ?_)
   ·replace h := Ao hb18 h
    iterate 2 refine Bi tt rfl (Be rfl rfl rfl rfl hb18) rfl rfl rfl Tvv ?_
    refine Wh (Be rfl rfl rfl rfl hb18) (Sr tt (q := (.intss l31)) rfl rfl rfl rfl rfl rfl (by simp only [Sq.len, List.length_set, List.length_append, List.length_replicate] at *; omega) rfl hg16) rfl rfl ?_
    refine Wh (Be rfl rfl rfl rfl hb18) (Ta tt (q := (.intss l31)) rfl rfl rfl rfl rfl (by simp only [Sq.len, List.length_set, List.length_append, List.length_replicate] at *; omega) hg16 rfl) rfl rfl ?_
    obtain ⟨hg19, h⟩ := Ab h
    refine Bi tt rfl (Be rfl rfl rfl rfl hb18) rfl rfl rfl hg19 ?_
    refine cLoadD tt (Be rfl rfl rfl rfl hb18) (.boolss v1.1) rfl rfl rfl rfl rfl rfl rfl rfl rfl hg19 ?_
    refine Bi tt rfl (Be rfl rfl rfl rfl hb18) rfl rfl rfl Tvv ?_
    obtain ⟨hg20, h⟩ := Ab h
    refine Wh (Be rfl rfl rfl rfl hb18) (Sr tt (q := (.boolss v1.1)) rfl rfl rfl rfl rfl rfl (by simp only [Sq.len, List.length_set, List.length_append, List.length_replicate] at *; omega) rfl hg20) rfl rfl ?_
    refine Wh (Be rfl rfl rfl rfl hb18) (Ta tt (q := (.boolss v1.1)) rfl rfl rfl rfl rfl (by simp only [Sq.len, List.length_set, List.length_append, List.length_replicate] at *; omega) hg20 rfl) rfl rfl ?_
    refine Ek rfl (Ag rfl) rfl rfl rfl hb18 rfl ?_
    refine Lo ?_
    change VC _ _ _ _
    refine Av rfl (fun hb21 => ?_) (fun hb21 => ?_)
    ·replace h := Ao hb21 h
     refine Ah ?_
     refine Aa ?_
     iterate 4 refine Ac tt rfl rfl rfl rfl rfl Tvv ?_
     refine Dt tt rfl rfl rfl rfl rfl rfl rfl rfl rfl rfl rfl ?_
     refine vEnO (En.pull 57 9580 11 ((x43).toNat) rfl rfl (fam_get (q := (.intss l31)) rfl (by simp only [Sq.len, List.length_set, List.length_append, List.length_replicate] at *; omega)) rfl rfl rfl rfl) ?_
     obtain ⟨hg22, h⟩ := Ab h
     refine Cp tt rfl rfl rfl rfl rfl rfl rfl rfl rfl rfl rfl rfl rfl rfl rfl rfl (Nat.le_of_eq (Nat.zero_add _)) hg22 ?_
     refine Ac tt rfl rfl rfl rfl rfl hg13 ?_
     refine vEnO (En.adopt 60 9580 9562 11 (q := (.intss l31)) rfl rfl rfl rfl rfl rfl (by simp [Sq.len, Fq.len, Mw, Fq.hole]) rfl rfl rfl rfl) ?_
     refine Ax tt rfl rfl rfl rfl rfl rfl rfl rfl rfl rfl ⟨_, _, rfl, hg14.1, (by simpa [Sq.len, dR, Eh, Yu] using hg14.2)⟩ ⟨(by simpa [Sq.len, dR, Eh, Yu] using hg14), Tvv⟩ ?_
     refine vEnO (En.re 9562 11 rfl rfl (reI _ l31 ((x43).toNat) ((l31.getD ((x43).toNat) []) ++ ([(v2.getD ((x33).toNat) 0)] : List Int)) ((l31.map some).set ((x43).toNat) none) (by first | omega | (simp only [List.length_set, List.length_append, List.length_replicate] at *; omega)) (fun j hj => by rw [getD_hole, if_neg hj]) (by simp)) rfl rfl rfl) ?_
     refine Af ?_
     change VC _ _ _ _
     refine Ah ?_
     refine Aa ?_
     refine Ac tt rfl rfl rfl rfl rfl Tvv ?_
     refine Af ?_
     change VC _ _ _ _
     refine Bl ?_
     change ∃ _, _
     exact ⟨((l31.set ((x43).toNat) ((l31.getD ((x43).toNat) []) ++ ([(v2.getD ((x33).toNat) 0)] : List Int))), true), (En.of ⟨rfl, rfl, rfl, rfl, rfl, rfl, rfl, Tvv⟩ ⟨rfl, rfl, rfl, rfl, rfl, Tvv⟩ trivial), h⟩
    replace h := Ap hb21 h
    refine Au ?_
    change VC _ _ _ _
    refine Aa ?_
    obtain ⟨hg23, h⟩ := Ab h
    refine Ac tt rfl rfl rfl rfl rfl hg23 ?_
    refine Ac tt rfl rfl rfl rfl rfl Tvv ?_
    refine Af ?_
    change ∃ _, _
    exact ⟨(x43 + (1 : Int)), (En.of ⟨rfl, rfl, rfl, rfl, rfl, rfl, rfl, rfl, rfl, rfl, Tvv⟩ ⟨rfl, rfl, rfl, rfl, rfl, Tvv⟩ trivial), h⟩
   replace h := Ap hb18 h
   iterate 9 refine cNoT rfl rfl rfl rfl hb18 rfl rfl ?_
   refine Gt rfl (Ag rfl) rfl rfl rfl hb18 rfl ?_
   refine Lo ?_
   change VC _ _ _ _
   refine Gw rfl rfl ?_
   refine Au ?_
   change VC _ _ _ _
   refine Aa ?_
   obtain ⟨hg24, h⟩ := Ab h
   refine Ac tt rfl rfl rfl rfl rfl hg24 ?_
   refine Ac tt rfl rfl rfl rfl rfl Tvv ?_
   refine Af ?_
   change ∃ _, _
   exact ⟨(x43 + (1 : Int)), (En.of ⟨rfl, rfl, rfl, rfl, rfl, rfl, rfl, rfl, rfl, rfl, Tvv⟩ ⟨rfl, rfl, rfl, rfl, rfl, Tvv⟩ trivial), h⟩
  replace h := Ap hb12 h
  refine Bl ?_
  change ∃ _, _
  exact ⟨(l31, false), (En.of ⟨rfl, rfl, rfl, rfl, rfl, rfl, rfl, Tvv⟩ ⟨rfl, rfl, rfl, rfl, rfl, Tvv⟩ trivial), h⟩
 replace h := Ap hb5 h
 refine Bl ?_
 change ∃ _, _
 exact ⟨(l31, n32), (En.ren [9542] [9562] rfl ⟨.inr rfl, Tvv⟩ ⟨.inr rfl, .inr rfl, Tvv⟩ trivial), h⟩
end Go.Proofs.Ytkklfgcelmeccaa
namespace Go.Proofs.Ytkklfgcelmeccaa
variable {N : Nat}
theorem Hy {l : List Int} {i : Nat} (h : i < l.length) : l.getD i 0 ∈ l := Dd h
def insC (m : Int → Int → Bool) (v : Int) : List (List Int) → List (List Int)
 | [] => [[v]]
 | g :: gs => if m v (g.getD 0 0) then (g ++ [v]) :: gs else g :: insC m v gs
def Ky (m : Int → Int → Bool) (l : List Int) : List Int := l.filter fun v => (l.filter (m v)).getD 0 0 == v
def clsS (m : Int → Int → Bool) (l : List Int) : List (List Int) := (Ky m l).map fun v => l.filter (m v)
structure Eqv (m : Int → Int → Bool) (l : List Int) : Prop where
 rf : ∀ a ∈ l, m a a = true
 sy : ∀ a b, m a b = true → m b a = true
 tr : ∀ a b c, b ∈ l → m a b = true → m b c = true → m a c = true
theorem Xp {l : List Int} (h : l ≠ []) (r : List Int) : (l ++ r).getD 0 0 = l.getD 0 0 := by
 cases l with
 | nil => exact absurd rfl h
 | cons a l => rfl
theorem ins_map {m : Int → Int → Bool} {G : Int → List Int} {v : Int} : ∀ {rs : List Int}, (∀ u ∈ rs, (G u).getD 0 0 = u) → rs.Pairwise (fun a b => ¬ (m v a = true ∧ m v b = true)) → insC m v (rs.map G) = if rs.any (m v) then rs.map (fun u => G u ++ if m v u then [v] else []) else rs.map G ++ [[v]]
 | [], _, _ => rfl
 | r :: rs, h1, h2 => by
  have hp := List.pairwise_cons.1 h2
  have ih := ins_map (m := m) (G := G) (v := v) (rs := rs) (fun u hu => h1 u (by simp [hu])) hp.2
  rw [List.map_cons, insC, h1 r (by simp)]
  by_cases hm : m v r = true
  ·rw [if_pos hm]
   have : (r :: rs).any (m v) = true := by simp [hm]
   rw [if_pos this, List.map_cons, if_pos hm]
   congr 1
   refine List.map_congr_left fun u hu => ?_
   have : ¬ m v u = true := fun h => hp.1 u hu ⟨hm, h⟩
   rw [if_neg this, List.append_nil]
  rw [if_neg hm, ih]
  have e : (r :: rs).any (m v) = rs.any (m v) := by simp [hm]
  rw [e]
  by_cases ha : rs.any (m v) = true
  ·rw [if_pos ha, if_pos ha, List.map_cons, if_neg hm, List.append_nil]
  rw [if_neg ha, if_neg ha]; rfl
theorem He {m : Int → Bool} (l : List Int) (v : Int) : (l ++ [v]).filter m = l.filter m ++ if m v then [v] else [] := by
 rw [List.filter_append]
 by_cases h : m v = true
 ·simp [h]
 simp [h]
theorem Kw {m : Int → Bool} {l : List Int} (h : l.filter m ≠ []) : (l.filter m).getD 0 0 ∈ l ∧ m ((l.filter m).getD 0 0) = true := by
 have := Hy (l := l.filter m) (i := 0) (by cases hh : l.filter m with
  | nil => exact absurd hh h
  | cons a b => simp)
 exact List.mem_filter.1 this
theorem Jt {m : Int → Bool} {l : List Int} {a : Int} (ha : a ∈ l) (h : m a = true) : l.filter m ≠ [] := fun e => by
 have : a ∈ l.filter m := List.mem_filter.2 ⟨ha, h⟩
 rw [e] at this; cases this
theorem Tl {m m' : Int → Bool} {l : List Int} (h : ∀ a ∈ l, m a = m' a) : l.filter m = l.filter m' := List.filter_congr h
theorem Wy {m : Int → Int → Bool} {l : List Int} (E : Eqv m l) {a b : Int} (ha : a ∈ l) (hb : b ∈ l) (h : m a b = true) : l.filter (m a) = l.filter (m b) := Tl fun x hx => by
 rw [Bool.eq_iff_iff]
 exact ⟨fun hx' => E.tr b a x ha (E.sy _ _ h) hx', fun hx' => E.tr a b x hb h hx'⟩
theorem reps_snoc {m : Int → Int → Bool} {l : List Int} {v : Int} (E : Eqv m (l ++ [v])) (hv : v ∉ l) : Ky m (l ++ [v]) = Ky m l ++ if l.any (m v) then [] else [v] := by
 unfold Ky
 rw [List.filter_append]
 congr 1
 ·refine Tl fun a ha => ?_
  rw [He, Xp (Jt ha (E.rf a (by simp [ha])))]
 rw [List.filter_cons, List.filter_nil]
 show (if ((((l ++ [v]).filter (m v)).getD 0 0) == v) = true then [v] else []) = _
 have hrf : m v v = true := E.rf v (by simp)
 have e1 : ((l ++ [v]).filter (m v)) = l.filter (m v) ++ [v] := by rw [He, if_pos hrf]
 by_cases ha : l.any (m v) = true
 ·obtain ⟨a, ha1, ha2⟩ := List.any_eq_true.1 ha
  have hne := Jt ha1 ha2
  have hm := Kw hne
  have : ((((l ++ [v]).filter (m v)).getD 0 0) == v) = false := by
   rw [e1, Xp hne, beq_eq_false_iff_ne]
   intro e; rw [e] at hm; exact hv hm.1
  rw [if_pos ha, this]; rfl
 have he : l.filter (m v) = [] := by
  rw [List.filter_eq_nil_iff]
  intro a ha1 ha2
  exact ha (List.any_eq_true.2 ⟨a, ha1, ha2⟩)
 have : ((((l ++ [v]).filter (m v)).getD 0 0) == v) = true := by rw [e1, he]; simp
 rw [if_neg ha, this]; rfl
theorem Eqv.pre {m : Int → Int → Bool} {l r : List Int} (E : Eqv m (l ++ r)) : Eqv m l := ⟨fun a ha => E.rf a (by simp [ha]), E.sy, fun a b c hb => E.tr a b c (by simp [hb])⟩
theorem Gq {m : Int → Int → Bool} {l : List Int} {u : Int} (h : u ∈ Ky m l) : u ∈ l ∧ (l.filter (m u)).getD 0 0 = u := by
 have := List.mem_filter.1 h
 exact ⟨this.1, by simpa using this.2⟩
theorem Aav {m : Int → Int → Bool} {l : List Int} (E : Eqv m l) (nd : l.Nodup) : (Ky m l).Pairwise fun a b => m a b = false := by
 have h1 : (Ky m l).Nodup := nd.filter _
 refine List.Pairwise.imp_of_mem (R := fun a b => a ≠ b) (fun {a b} ha hb hab => ?_) h1
 have h2 := Gq ha; have h3 := Gq hb
 cases hm : m a b with
 | false => rfl
 | true =>
  have := Wy E h2.1 h3.1 hm
  rw [this] at h2
  exact absurd (h2.2.symm.trans h3.2) hab
theorem cls_snoc {m : Int → Int → Bool} {l : List Int} {v : Int} (E : Eqv m (l ++ [v])) (nd : l.Nodup) (hv : v ∉ l) : clsS m (l ++ [v]) = insC m v (clsS m l) := by
 have El := E.pre
 have hr := reps_snoc E hv
 unfold clsS
 rw [hr]
 have hany : (Ky m l).any (m v) = l.any (m v) := by
  rw [Bool.eq_iff_iff, List.any_eq_true, List.any_eq_true]
  constructor
  ·rintro ⟨a, ha, h⟩; exact ⟨a, (Gq ha).1, h⟩
  rintro ⟨a, ha, h⟩
  have hne := Jt ha (El.rf a ha)
  have hm := Kw hne
  refine ⟨(l.filter (m a)).getD 0 0, ?_, E.tr v a _ (by simp [ha]) h hm.2⟩
  refine List.mem_filter.2 ⟨hm.1, ?_⟩
  rw [Wy El hm.1 ha (El.sy _ _ hm.2)]; simp
 rw [ins_map (rs := Ky m l) (fun u hu => (Gq hu).2) (by
  refine List.Pairwise.imp_of_mem (R := fun a b => m a b = false) (fun {a b} ha hb hab => ?_) (Aav El nd)
  rintro ⟨h1, h2⟩
  have := E.tr a v b (by simp) (E.sy _ _ h1) h2
  rw [hab] at this; cases this), hany]
 by_cases ha : l.any (m v) = true
 ·rw [if_pos ha, if_pos ha, List.append_nil]
  refine List.map_congr_left fun u hu => ?_
  rw [He]
  congr 2
  rw [eq_iff_iff]; exact ⟨E.sy _ _, E.sy _ _⟩
 rw [if_neg ha, if_neg ha, List.map_append]
 have hno : ∀ a ∈ l, ¬ m v a = true := fun a ha1 h => ha (List.any_eq_true.2 ⟨a, ha1, h⟩)
 congr 1
 ·refine List.map_congr_left fun u hu => ?_
  rw [He, if_neg (fun h => hno u (Gq hu).1 (E.sy _ _ h)), List.append_nil]
 rw [List.map_cons, List.map_nil, He, if_pos (E.rf v (by simp))]
 have he : l.filter (m v) = [] := by
  rw [List.filter_eq_nil_iff]; exact hno
 rw [he]; rfl
def mt (p : Pin) (ow : List Int) (a b : Int) : Bool := dp p ow a.toNat b.toNat && dp p ow b.toNat a.toNat
theorem Gy {p : Pin} (hp : Ay p = true) {v : Int} (h : v ∈ Ae p) : Pi p v = true := by
 have := Wb hp v
 rw [← this]; simpa using h
theorem inner_nd (p : Pin) : (Ae p).Nodup := by
 unfold Ae
 cases Ay p with
 | false => exact List.nodup_nil
 | true =>
  rw [cnd_true, Gk]
  unfold Ht
  refine List.Pairwise.filter _ (List.Pairwise.map _ (fun a b h => ?_) List.nodup_range)
  exact fun e => h (Int.ofNat.inj e)
theorem mt_eqv {p : Pin} (hp : Ay p = true) (ow : List Int) {l : List Int} (h : ∀ v ∈ l, Pi p v = true) : Eqv (mt p ow) l :=
 ⟨fun a ha => by unfold mt; rw [dp_self ow (h a ha)]; rfl, fun a b hab => by unfold mt at *; rw [Bool.and_comm]; exact hab, fun a b c hb h1 h2 => by
  have := Lw (h b hb)
  unfold mt at *
  simp only [Bool.and_eq_true] at *
  exact ⟨Tg ow (by omega) h1.1 h2.1, Tg ow (by omega) h2.2 h1.2⟩⟩
theorem La {p : Pin} (hp : Ay p = true) : (Ae p).length ≤ 8 := by
 have hbd := Bn hp
 have := Pa p.ground p.g.n.toNat
 unfold Ae; rw [hp, cnd_true, Gk]; omega
theorem Aaj {p : Pin} (ow : List Int) (v : Int) {u : Int} (hu : Pi p u = true) : (Fx p ow v).contains u = dp p ow v.toNat u.toNat := by
 have hr := Lw hu
 have e : ((u.toNat : Nat) : Int) = u := by omega
 have := sel_has (q := fun u => dp p ow v.toNat u) (i := p.g.n.toNat) (j := u.toNat) (by omega)
 rw [e] at this
 exact this
theorem Yx {l : List Int} {i : Nat} (h : i < l.length) : l.take (i + 1) = l.take i ++ [l.getD i 0] := by
 rw [List.take_add_one, List.getElem?_eq_getElem h, List.getD_eq_getElem?_getD, List.getElem?_eq_getElem h]; rfl
theorem groups2_s (hN : 4000000 ≤ N) {p : Pin} (hp : Ay p = true) {ow : List Int} (hl : ow.length = p.g.bars.length) (ho : Own p 0 ow) {i : Nat} (hi : i < (Ae p).length) (kk : List Int → Option (List (List Int) × Bool)) :
  Bb N p (ow, true) (Ae p) (i : Int) kk N (([] : List Int), (0 : Int)) = kk ((Ae p).filter (mt p ow ((Ae p).getD i 0))) := by
 have hil := La hp
 have ei : ((i : Int)).toNat = i := by omega
 have hv := Gy hp (Hy hi)
 refine fold (N := N) (len := (Ae p).length) (st := fun j => ((Ae p).take j).filter (mt p ow ((Ae p).getD i 0))) (F := fun m s => Bb N p (ow, true) (Ae p) (i : Int) kk m s) (by omega) (fun m j hj => ?_) fun m => ?_
 ·show Bb N p (ow, true) (Ae p) (i : Int) kk (m + 1) (((Ae p).take j).filter (mt p ow ((Ae p).getD i 0)), (j : Int)) = Bb N p (ow, true) (Ae p) (i : Int) kk m (((Ae p).take (j + 1)).filter (mt p ow ((Ae p).getD i 0)), ((j + 1 : Nat) : Int))
  have ej : ((j : Int)).toNat = j := by omega
  have hu := Gy hp (Hy hj)
  have hfl : (((Ae p).take j).filter (mt p ow ((Ae p).getD i 0))).length ≤ j := Nat.le_trans (List.length_filter_le _ _) (by rw [List.length_take]; omega)
  have hr1 := Qz hp ow ((Ae p).getD i 0)
  have hr2 := Qz hp ow ((Ae p).getD j 0)
  rw [Yx hj, He]
  rw [Bb, Ak (by omega), Ad (by omega), ei, ej, reach_s hN hp hl ho hv, Option.bind_some, Ad (by omega), Ka N hN (by omega), Option.bind_some, Aaj ow _ hu, reach_s hN hp hl ho hu, Option.bind_some, Ka N hN (by omega), Option.bind_some, Aaj ow _ hv, Ad (by omega), As (by omega) (by omega), As (by omega) (by omega), Am]
  have e : mt p ow ((Ae p).getD i 0) ((Ae p).getD j 0) = (dp p ow ((Ae p).getD i 0).toNat ((Ae p).getD j 0).toNat && dp p ow ((Ae p).getD j 0).toNat ((Ae p).getD i 0).toNat) := rfl
  rw [e]
  cases dp p ow ((Ae p).getD i 0).toNat ((Ae p).getD j 0).toNat <;> cases dp p ow ((Ae p).getD j 0).toNat ((Ae p).getD i 0).toNat <;> simp [cnd]
 show Bb N p (ow, true) (Ae p) (i : Int) kk (m + 1) (((Ae p).take (Ae p).length).filter (mt p ow ((Ae p).getD i 0)), ((Ae p).length : Int)) = _
 rw [Bb, Al (by omega), List.take_length]
def outG (m : Int → Int → Bool) (l : List Int) (i : Nat) : List (List Int) := ((l.take i).filter fun v => (l.filter (m v)).getD 0 0 == v).map fun v => l.filter (m v)
theorem outG_len (m : Int → Int → Bool) (l : List Int) (i : Nat) : (outG m l i).length ≤ i := by
 unfold outG
 rw [List.length_map]
 exact Nat.le_trans (List.length_filter_le _ _) (by rw [List.length_take]; omega)
theorem groupsS_s (hN : 4000000 ≤ N) {p : Pin} (hp : Ay p = true) {ow : List Int} (hl : ow.length = p.g.bars.length) (ho : Own p 0 ow) (kk : List (List Int) → Option (List (List Int) × Bool)) :
  Bc N p (ow, true) (Ae p) kk N (([] : List (List Int)), (0 : Int)) = kk (clsS (mt p ow) (Ae p)) := by
 have hil := La hp
 refine fold (N := N) (len := (Ae p).length) (st := fun j => outG (mt p ow) (Ae p) j) (F := fun m s => Bc N p (ow, true) (Ae p) kk m s) (by omega) (fun m i hi => ?_) fun m => ?_
 ·show Bc N p (ow, true) (Ae p) kk (m + 1) (outG (mt p ow) (Ae p) i, (i : Int)) = Bc N p (ow, true) (Ae p) kk m (outG (mt p ow) (Ae p) (i + 1), ((i + 1 : Nat) : Int))
  have hv := Hy hi
  have hne := Jt (m := mt p ow ((Ae p).getD i 0)) hv ((mt_eqv hp ow fun v h => Gy hp h).rf _ hv)
  have hpos : 0 < ((Ae p).filter (mt p ow ((Ae p).getD i 0))).length := List.length_pos_iff.2 hne
  have ei : ((i : Int)).toNat = i := by omega
  have hol := outG_len (mt p ow) (Ae p) i
  rw [Bc, Ak (by omega)]
  show cnd true _ _ = _
  rw [cnd_true, groups2_s hN hp hl ho hi]
  show grd _ (grd _ (cnd _ _ _)) = _
  rw [Ad (by omega), Ad (by omega), Ad (by omega), As (by omega) (by omega), As (by omega) (by omega), ei, Am]
  have e : outG (mt p ow) (Ae p) (i + 1) = cnd (((Ae p).filter (mt p ow ((Ae p).getD i 0))).getD 0 0 == (Ae p).getD i 0) (outG (mt p ow) (Ae p) i ++ [(Ae p).filter (mt p ow ((Ae p).getD i 0))]) (outG (mt p ow) (Ae p) i) := by
   unfold outG
   rw [Yx hi, He]
   cases (((Ae p).filter (mt p ow ((Ae p).getD i 0))).getD 0 0 == (Ae p).getD i 0) <;> simp [cnd]
  rw [e]
  show cnd (((Ae p).filter (mt p ow ((Ae p).getD i 0))).getD 0 0 == (Ae p).getD i 0) _ _ = _
  cases (((Ae p).filter (mt p ow ((Ae p).getD i 0))).getD 0 0 == (Ae p).getD i 0) <;> rfl
 show Bc N p (ow, true) (Ae p) kk (m + 1) (outG (mt p ow) (Ae p) (Ae p).length, ((Ae p).length : Int)) = _
 rw [Bc, Al (by omega)]
 unfold outG
 rw [List.take_length]; rfl
theorem groupsI2_s (hN : 4000000 ≤ N) {p : Pin} (hp : Ay p = true) {ow : List Int} {i : Nat} (hi : i < (Ae p).length) (kk : (List (List Int)) × Bool → Option (List (List Int) × Bool)) {L : List (List Int)} (hLl : L.length ≤ 8) (hne : ∀ g ∈ L, g ≠ [] ∧ (∀ v ∈ g, Pi p v = true) ∧ g.length ≤ 8) : ∀ (fuel j : Nat), j ≤ L.length → L.length < fuel + j →
  Cw N (mat p.g.n.toNat (dp p ow), true) (Ae p) L L.length (i : Int) kk fuel (j : Int) = cnd ((L.drop j).any fun g => mt p ow ((Ae p).getD i 0) (g.getD 0 0)) (kk (L.take j ++ insC (mt p ow) ((Ae p).getD i 0) (L.drop j), true)) (kk (L, false)) := by
 have hil := La hp
 have ei : ((i : Int)).toNat = i := by omega
 have hv := Lw (Gy hp (Hy hi))
 intro fuel
 induction fuel with
 | zero => intro j h1 h2; omega
 | succ fuel ih =>
  intro j h1 h2
  rw [Cw]
  by_cases hj : j < L.length
  ·have ej : ((j : Int)).toNat = j := by omega
   have hgm : L.getD j [] ∈ L := by rw [List.getD_eq_getElem?_getD, List.getElem?_eq_getElem hj]; exact List.getElem_mem hj
   obtain ⟨g1, g2, g3⟩ := hne _ hgm
   have hpos : 0 < (L.getD j []).length := List.length_pos_iff.2 g1
   have hh := Lw (g2 _ (Hy hpos))
   have hdrop : L.drop j = L.getD j [] :: L.drop (j + 1) := by
    rw [List.drop_eq_getElem_cons hj, List.getD_eq_getElem?_getD, List.getElem?_eq_getElem hj]; rfl
   have htake : L.take (j + 1) = L.take j ++ [L.getD j []] := by
    rw [List.take_add_one, List.getElem?_eq_getElem hj, List.getD_eq_getElem?_getD, List.getElem?_eq_getElem hj]; rfl
   have hset : L.set j (L.getD j [] ++ [(Ae p).getD i 0]) = L.take j ++ (L.getD j [] ++ [(Ae p).getD i 0]) :: L.drop (j + 1) := by
    rw [List.set_eq_take_append_cons_drop, if_pos hj]
   have hz : ((0 : Int)).toNat = 0 := rfl
   rw [Ak (by omega)]
   show grd _ (grd _ (grd (0 ≤ _ ∧ _ < ((mat p.g.n.toNat (dp p ow)).length : Int)) (grd _ (grd (0 ≤ _ ∧ _ < (((mat p.g.n.toNat (dp p ow)).getD _ []).length : Int)) (cnd (((mat p.g.n.toNat (dp p ow)).getD _ []).getD _ false) (grd (0 ≤ _ ∧ _ < ((mat p.g.n.toNat (dp p ow)).length : Int)) (grd (0 ≤ _ ∧ _ < (((mat p.g.n.toNat (dp p ow)).getD _ []).length : Int)) (cnd (((mat p.g.n.toNat (dp p ow)).getD _ []).getD _ false) _ _))) _))))) = _
   rw [ei, ej, hz, Yc, Jg _ (by omega), Jg _ (by omega), Vl _ (by omega) (by omega), Vl _ (by omega) (by omega), Ad (by omega), Ad (by omega), Ad (by omega), Ad (by omega), Ad (by omega), Ad (by omega), Ad (by omega), Ad (by omega), As (by omega) (by omega), Am, ih (j + 1) (by omega) (by omega), hset, hdrop, insC, List.any_cons, htake]
   have em : mt p ow ((Ae p).getD i 0) ((L.getD j []).getD 0 0) = (dp p ow ((Ae p).getD i 0).toNat ((L.getD j []).getD 0 0).toNat && dp p ow ((L.getD j []).getD 0 0).toNat ((Ae p).getD i 0).toNat) := rfl
   rw [em]
   cases dp p ow ((Ae p).getD i 0).toNat ((L.getD j []).getD 0 0).toNat <;> cases dp p ow ((L.getD j []).getD 0 0).toNat ((Ae p).getD i 0).toNat <;> simp [cnd]
  obtain rfl : j = L.length := by omega
  rw [Al (by omega), List.drop_length]; rfl
theorem ins_none {m : Int → Int → Bool} {v : Int} : ∀ {L : List (List Int)}, (L.any fun g => m v (g.getD 0 0)) = false → insC m v L = L ++ [[v]]
 | [], _ => rfl
 | g :: gs, h => by
  rw [List.any_cons, Bool.or_eq_false_iff] at h
  rw [insC, h.1, ins_none h.2]; rfl
theorem ins_some {m : Int → Int → Bool} {v : Int} : ∀ {L : List (List Int)}, (L.any fun g => m v (g.getD 0 0)) = true → (insC m v L).length = L.length
 | [], h => by cases h
 | g :: gs, h => by
  rw [List.any_cons, Bool.or_eq_true] at h
  rw [insC]
  split
  ·rfl
  rename_i hn
  rw [List.length_cons, List.length_cons, ins_some (h.resolve_left hn)]
theorem clsS_facts {p : Pin} (ow : List Int) {l : List Int} (h : ∀ v ∈ l, Pi p v = true) (E : Eqv (mt p ow) l) : (clsS (mt p ow) l).length ≤ l.length ∧ ∀ g ∈ clsS (mt p ow) l, g ≠ [] ∧ (∀ v ∈ g, Pi p v = true) ∧ g.length ≤ l.length := by
 unfold clsS
 refine ⟨by rw [List.length_map]; exact List.length_filter_le _ _, fun g hg => ?_⟩
 obtain ⟨u, hu, rfl⟩ := List.mem_map.1 hg
 have := (Gq hu).1
 exact ⟨Jt this (E.rf u this), fun v hv => h v (List.mem_filter.1 hv).1, List.length_filter_le _ _⟩
theorem groupsI_s (hN : 4000000 ≤ N) {p : Pin} (hp : Ay p = true) {ow : List Int} (kk : (List (List Int)) × Nat → Option (List (List Int) × Bool)) :
  Bz N (mat p.g.n.toNat (dp p ow), true) (Ae p) kk N (([] : List (List Int)), 0, (0 : Int)) = kk (clsS (mt p ow) (Ae p), (clsS (mt p ow) (Ae p)).length) := by
 have hil := La hp
 have key : ∀ (fuel i : Nat), i ≤ (Ae p).length → (Ae p).length < fuel + i → Bz N (mat p.g.n.toNat (dp p ow), true) (Ae p) kk fuel (clsS (mt p ow) ((Ae p).take i), (clsS (mt p ow) ((Ae p).take i)).length, (i : Int)) = kk (clsS (mt p ow) (Ae p), (clsS (mt p ow) (Ae p)).length) := by
  intro fuel
  induction fuel with
  | zero => intro i h1 h2; omega
  | succ fuel ih =>
   intro i h1 h2
   rw [Bz]
   by_cases hi : i < (Ae p).length
   ·have hall : ∀ v ∈ (Ae p).take (i + 1), Pi p v = true := fun v hv => Gy hp (List.mem_of_mem_take hv)
    have E := mt_eqv hp ow hall
    have hnd : ((Ae p).take (i + 1)).Nodup := (inner_nd p).sublist (List.take_sublist _ _)
    have hs := Yx hi
    rw [hs] at E hnd hall
    have hnd2 := List.nodup_append.1 hnd
    have hcs := cls_snoc E hnd2.1 (fun h => hnd2.2.2 _ h _ (by simp) rfl)
    have hf := clsS_facts ow (fun v hv => hall v (by simp [hv])) E.pre
    have hln : ((Ae p).take i).length ≤ 8 := by rw [List.length_take]; omega
    have ei : ((i : Int)).toNat = i := by omega
    have nx := ih (i + 1) (by omega) (by omega)
    rw [hs, hcs] at nx
    rw [Ak (by omega), Ad (by omega)]
    refine (groupsI2_s hN hp hi _ (by omega) (fun g hg => ⟨(hf.2 g hg).1, (hf.2 g hg).2.1, by have := (hf.2 g hg).2.2; omega⟩) N 0 (by omega) (by omega)).trans ?_
    rw [List.drop_zero, List.take_zero, List.nil_append, ei]
    cases ha : ((clsS (mt p ow) ((Ae p).take i)).any fun g => mt p ow ((Ae p).getD i 0) (g.getD 0 0)) with
    | true =>
     rw [cnd_true]
     show cnd (!true) _ _ = _
     rw [Bool.not_true, cnd_false, As (by omega) (by omega), Am, ← ins_some ha]
     exact nx
    | false =>
     rw [cnd_false]
     show cnd (!false) _ _ = _
     rw [Bool.not_false, cnd_true, Ad rfl, Ad (by omega), As (by omega) (by omega), Am, ← ins_none ha]
     exact nx
   obtain rfl : i = (Ae p).length := by omega
   rw [Al (by omega), List.take_length]
 exact key N 0 (by omega) (by omega)
theorem groups_y (hN : 4000000 ≤ N) {p : Pin} (hb : p.g.bars.length ≤ 3000000) (hg : p.ground.length ≤ 3000000) : ∃ (ow : List Int) (b : Bool), Jn N p = some (ow, b) ∧ Fh N p = some (ow, b) ∧ (b = true → Ay p = true ∧ ow.length = p.g.bars.length ∧ Own p 0 ow) ∧
  Hu N p = some (cnd b (clsS (mt p ow) (Ae p)) [], b) ∧ Hz N p = some (cnd b (clsS (mt p ow) (Ae p)) [], b) := by
 obtain ⟨ow, b, hlen, hS, hI, h0, hf⟩ := owners_y (N := N) hN hb hg
 refine ⟨ow, b, hS, hI, hf, ?_, ?_⟩
 ·unfold Hu
  rw [hS, Option.bind_some, innerS_s N hN hb hg, Option.bind_some]
  cases b with
  | false =>
   have hil : (Ae p).length ≤ 3000000 ∨ True := .inr trivial
   obtain ⟨M, rfl⟩ : ∃ M, N = M + 1 := ⟨N - 1, by omega⟩
   rw [Bc]
   by_cases h : (0 : Int) < ((Ae p).length : Int)
   ·rw [Ak h]; rfl
   rw [Al h]; rfl
  | true =>
   obtain ⟨hp, hl, ho⟩ := hf rfl
   rw [groupsS_s hN hp hl ho]; rfl
 unfold Hz
 rw [Vy hN hI hf, Option.bind_some]
 cases b with
 | false => rfl
 | true =>
  obtain ⟨hp, hl, ho⟩ := hf rfl
  show cnd (!true) _ _ = _
  rw [Bool.not_true, cnd_false, innerI_s N hN hb hg, Option.bind_some, cnd_true]
  show Bz N (mat p.g.n.toNat (dp p ow), true) (Ae p) _ N (([] : List (List Int)), 0, (0 : Int)) = _
  rw [groupsI_s hN hp]
  show grd _ _ = _
  rw [Ad rfl]; rfl
end Go.Proofs.Ytkklfgcelmeccaa
namespace Go.Proofs.Ytkklfgcelmeccaa
open Go.RowKit
def Bv (N : Nat) (v1 : (List (List Int)) × Bool) (l1011 : List Int) (i1222 : Int) (v1244 : List Int) (k : Bool → Option ((List (List Int)) × Bool)) : Nat → (Bool × Int) → Option ((List (List Int)) × Bool)
 | 0, _ => none
 | n + 1, (ready1257, k1258) =>
  cnd (decide (k1258 < (v1244.length : Int))) (
   cnd ready1257 (
    grd (0 ≤ k1258 ∧ k1258 < (v1244.length : Int)) <|
    (Fc N l1011 (v1244.getD ((k1258).toNat) 0)).bind fun v1261 =>
    cnd v1261 (
     grd (Bk (k1258 + (1 : Int))) <|
     Bv N v1 l1011 i1222 v1244 k n (true, (k1258 + (1 : Int)))) (
     (Fc N (v1.1.getD ((i1222).toNat) []) (v1244.getD ((k1258).toNat) 0)).bind fun v1262 =>
     grd (Bk (k1258 + (1 : Int))) <|
     Bv N v1 l1011 i1222 v1244 k n (v1262, (k1258 + (1 : Int))))) (
    grd (Bk (k1258 + (1 : Int))) <|
    Bv N v1 l1011 i1222 v1244 k n (false, (k1258 + (1 : Int))))) (
   k ready1257)
def Ce (N : Nat) (p_0 : Pin) (v1 : (List (List Int)) × Bool) (v2 : (List Int) × Bool) (l1010 : List (List Int)) (l1011 : List Int) (k : ((List (List Int)) × (List Int)) → Option ((List (List Int)) × Bool)) : Nat → Int → Option ((List (List Int)) × Bool)
 | 0, _ => none
 | n + 1, i1222 =>
  cnd (decide (i1222 < (v1.1.length : Int))) (
   grd (0 ≤ i1222 ∧ i1222 < (v1.1.length : Int)) <|
   grd (0 ≤ (0 : Int) ∧ (0 : Int) < ((v1.1.getD ((i1222).toNat) []).length : Int)) <|
   (Fc N l1011 ((v1.1.getD ((i1222).toNat) []).getD ((0 : Int).toNat) 0)).bind fun v1243 =>
   cnd v1243 (
    grd (Bk (i1222 + (1 : Int))) <|
    Ce N p_0 v1 v2 l1010 l1011 k n (i1222 + (1 : Int))) (
    (Hl N p_0 v2.1 ((v1.1.getD ((i1222).toNat) []).getD ((0 : Int).toNat) 0)).bind fun v1244 =>
    Bv N v1 l1011 i1222 v1244 (fun (ready1253 : Bool) =>
       cnd ready1253 (
        grd ((v1.1.getD ((i1222).toNat) []).length ≤ 4294967296) <|
        grd (l1010.length + 1 ≤ 4294967296) <|
        grd (l1011.length + (v1.1.getD ((i1222).toNat) []).length ≤ 4294967296) <|
        k ((l1010 ++ ([(([] : List Int) ++ (v1.1.getD ((i1222).toNat) []))] : List (List Int))), (l1011 ++ (v1.1.getD ((i1222).toNat) [])))) (
        grd (Bk (i1222 + (1 : Int))) <|
        Ce N p_0 v1 v2 l1010 l1011 k n (i1222 + (1 : Int)))) N (true, (0 : Int)))) (
   k (l1010, l1011))
def Bt (N : Nat) (p_0 : Pin) (v1 : (List (List Int)) × Bool) (v2 : (List Int) × Bool) (k : (List (List Int)) → Option ((List (List Int)) × Bool)) : Nat → ((List (List Int)) × (List Int) × Int) → Option ((List (List Int)) × Bool)
 | 0, _ => none
 | n + 1, (l1010, l1011, n1012) =>
  cnd (decide (n1012 < (v1.1.length : Int))) (
   cnd v1.2 (
    Ce N p_0 v1 v2 l1010 l1011 (fun (x : (List (List Int)) × (List Int)) =>
      match x with
      | (l1199, l1200) =>
       grd (Bk (n1012 + (1 : Int))) <|
       Bt N p_0 v1 v2 k n (l1199, l1200, (n1012 + (1 : Int)))) N (0 : Int)) (
    k l1010)) (
   k l1010)
def Fu (N : Nat) (p_0 : Pin) : Option ((List (List Int)) × Bool) :=
 (Hu N p_0).bind fun v1 =>
 (Jn N p_0).bind fun v2 =>
 Bt N p_0 v1 v2 (fun (l632 : List (List Int)) =>
    some (l632, v1.2)) N (([] : List (List Int)), ([] : List Int), (0 : Int))
theorem Ts (N : Nat) (p_0 : Pin) (r : (List (List Int)) × Bool) (h : Fu N p_0 = some r) : PCall Try.prog 18 [pD p_0] [(35, .intss r.1)] (.tup [.row 0 0 r.1.length, .bool r.2]) := by
 unfold Fu at h
 refine Aj (TT := TT) tt Try.func18 rfl rfl Try.ntmps18 (congrArg Array.toList Try.results18) rfl rfl fun w0 => ?_
 refine Ah ?_
 refine Aa ?_
 refine Jc rfl rfl rfl rfl rfl rfl rfl rfl rfl ?_
 iterate 2 refine Ac tt rfl rfl rfl rfl rfl Tvv ?_
 refine Af ?_
 change VC _ _ _ _
 refine Ah ?_
 refine Aa ?_
 refine Gx tt (Ag rfl) rfl rfl rfl rfl ?_
 refine Ac tt rfl rfl rfl rfl rfl Tvv ?_
 refine Af ?_
 change VC _ _ _ _
 refine Ah ?_
 refine Aa ?_
 refine Ac tt rfl rfl rfl rfl rfl Tvv ?_
 obtain ⟨v1, hc1, h⟩ := Ai h
 refine Bm (Zc N p_0 v1 hc1) rfl rfl rfl rfl rfl rfl rfl rfl ⟨⟨rfl, rfl, rfl, Tvv⟩, Tvv⟩ ?_
 iterate 5 refine Ac tt rfl rfl rfl rfl rfl Tvv ?_
 refine Af ?_
 change VC _ _ _ _
 refine Ah ?_
 refine Aa ?_
 refine Ac tt rfl rfl rfl rfl rfl Tvv ?_
 obtain ⟨v2, hc2, h⟩ := Ai h
 refine Bm (Wc N p_0 v2 hc2) rfl rfl rfl rfl rfl rfl rfl rfl ⟨⟨rfl, rfl, rfl, Tvv⟩, Tvv⟩ ?_
 iterate 5 refine Ac tt rfl rfl rfl rfl rfl Tvv ?_
 refine Af ?_
 change VC _ _ _ _
 refine Ah ?_
 refine Aa ?_
 refine Gx tt (Ag rfl) rfl rfl rfl rfl ?_
 refine Ac tt rfl rfl rfl rfl rfl Tvv ?_
 refine Af ?_
 change VC _ _ _ _
 iterate 2 refine Ah ?_
 refine Aa ?_
 refine Ac tt rfl rfl rfl rfl rfl Tvv ?_
 refine Af ?_
 change VC _ _ _ _
 refine Cc (F := fun k => Bt N p_0 v1 v2 k) h (α := List (List Int)) (J := fun (l632 : List (List Int)) => (⟨[(4, .row 94 0 l632.length), (6, .bool v1.2)], [(94, some (35, .intss l632))], []⟩ : PS)) ?_ ?_
 ·rintro l632 h
  show VC _ _ _ (⟨[(4, .row 94 0 l632.length), (6, .bool v1.2)], [(94, some (35, .intss l632))], []⟩ : PS)
  refine Ah ?_
  refine Aa ?_
  iterate 4 refine Ac tt rfl rfl rfl rfl rfl Tvv ?_
  refine Af ?_
  change VC _ _ _ _
  refine Bh ?_
  change ∃ _, _
  cases h
  exact ⟨[94], _, rfl, ⟨rfl, Tvv⟩, rfl, (.eq rfl), rfl⟩
 intro k h
 refine Ar ?_
 refine Lp 4 94 35 (.intss []) rfl rfl rfl rfl ?_
 refine Lp 9 100 3 (.ints []) rfl rfl rfl rfl ?_
 refine Ba (α := (List (List Int)) × (List Int) × Int) (fun | (l1010, l1011, n1012) => (⟨[(1, .ptr 1 0), (4, .row 94 0 l1010.length), (5, .row 1180 0 v1.1.length), (6, .bool v1.2), (7, .row 1230 0 v2.1.length), (9, .row 100 0 l1011.length), (10, .int n1012)], [(94, some (35, .intss l1010)), (1180, some (35, .intss v1.1)), (1230, some (3, .ints v2.1)), (100, some (3, .ints l1011))], [(1, some [.int p_0.g.n, .ro false (.pairs p_0.g.bars), .ro false (.ints p_0.ground)])]⟩ : PS)) (Bt N p_0 v1 v2 k) h (En.of ⟨rfl, rfl, rfl, rfl, rfl, rfl, rfl, Tvv⟩ ⟨rfl, rfl, rfl, rfl, Tvv⟩ ⟨rfl, Tvv⟩) (fun _ => rfl) ?_
 rintro n ⟨l1010, l1011, n1012⟩ h
 rw [Bt] at h
 show VC _ _ _ (⟨[(1, .ptr 1 0), (4, .row 94 0 l1010.length), (5, .row 1180 0 v1.1.length), (6, .bool v1.2), (7, .row 1230 0 v2.1.length), (9, .row 100 0 l1011.length), (10, .int n1012)], [(94, some (35, .intss l1010)), (1180, some (35, .intss v1.1)), (1230, some (3, .ints v2.1)), (100, some (3, .ints l1011))], [(1, some [.int p_0.g.n, .ro false (.pairs p_0.g.bars), .ro false (.ints p_0.ground)])]⟩ : PS)
 iterate 2 refine Ah ?_
 refine Aa ?_
 iterate 5 refine Ac tt rfl rfl rfl rfl rfl Tvv ?_
 refine Dc rfl rfl rfl (fun hb3 => ?_) (fun hb3 => ?_)
 ·replace h := Ao hb3 h
  refine Cl tt rfl rfl rfl rfl rfl hb3 rfl rfl rfl Tvv ?_
  refine Eo rfl rfl rfl rfl rfl hb3 rfl ?_
  refine Af ?_
  change VC _ _ _ _
  refine Av rfl (fun hb4 => ?_) (fun hb4 => ?_)
  ·replace h := Ao hb4 h
   refine Au ?_
   change VC _ _ _ _
   refine Ah ?_
   refine Ar ?_
   refine Ah ?_
   refine Aa ?_
   refine Ac tt rfl rfl rfl rfl rfl Tvv ?_
   refine Af ?_
   change VC _ _ _ _
   refine Cc (F := fun k => Ce N p_0 v1 v2 l1010 l1011 k) h (α := (List (List Int)) × (List Int)) (J := fun | (l1199, l1200) => (⟨[(1, .ptr 1 0), (4, .row 94 0 l1199.length), (5, .row 1180 0 v1.1.length), (6, .bool v1.2), (7, .row 1230 0 v2.1.length), (9, .row 100 0 l1200.length), (10, .int n1012)], [(94, some (35, .intss l1199)), (1180, some (35, .intss v1.1)), (1230, some (3, .ints v2.1)), (100, some (3, .ints l1200))], [(1, some [.int p_0.g.n, .ro false (.pairs p_0.g.bars), .ro false (.ints p_0.ground)])]⟩ : PS)) ?_ ?_
   ·rintro ⟨l1199, l1200⟩ h
    show VC _ _ _ (⟨[(1, .ptr 1 0), (4, .row 94 0 l1199.length), (5, .row 1180 0 v1.1.length), (6, .bool v1.2), (7, .row 1230 0 v2.1.length), (9, .row 100 0 l1200.length), (10, .int n1012)], [(94, some (35, .intss l1199)), (1180, some (35, .intss v1.1)), (1230, some (3, .ints v2.1)), (100, some (3, .ints l1200))], [(1, some [.int p_0.g.n, .ro false (.pairs p_0.g.bars), .ro false (.ints p_0.ground)])]⟩ : PS)
    refine Aa ?_
    refine Ac tt rfl rfl rfl rfl rfl Tvv ?_
    obtain ⟨hg5, h⟩ := Ab h
    refine Ac tt rfl rfl rfl rfl rfl hg5 ?_
    refine Ac tt rfl rfl rfl rfl rfl Tvv ?_
    refine Af ?_
    change ∃ _, _
    exact ⟨(l1199, l1200, (n1012 + (1 : Int))), (En.of ⟨rfl, rfl, rfl, rfl, rfl, rfl, rfl, Tvv⟩ ⟨rfl, rfl, rfl, rfl, Tvv⟩ ⟨rfl, Tvv⟩), h⟩
   intro k h
   refine Ar ?_
   refine Ba (α := Int) (fun (i1222 : Int) => (⟨[(1, .ptr 1 0), (4, .row 94 0 l1010.length), (5, .row 1180 0 v1.1.length), (6, .bool v1.2), (7, .row 1230 0 v2.1.length), (9, .row 100 0 l1011.length), (10, .int n1012), (11, .int i1222)], [(94, some (35, .intss l1010)), (1180, some (35, .intss v1.1)), (1230, some (3, .ints v2.1)), (100, some (3, .ints l1011))], [(1, some [.int p_0.g.n, .ro false (.pairs p_0.g.bars), .ro false (.ints p_0.ground)])]⟩ : PS)) (Ce N p_0 v1 v2 l1010 l1011 k) h (En.of ⟨rfl, rfl, rfl, rfl, rfl, rfl, rfl, rfl, Tvv⟩ ⟨rfl, rfl, rfl, rfl, Tvv⟩ ⟨rfl, Tvv⟩) (fun _ => rfl) ?_
   rintro n i1222 h
   rw [Ce] at h
   show VC _ _ _ (⟨[(1, .ptr 1 0), (4, .row 94 0 l1010.length), (5, .row 1180 0 v1.1.length), (6, .bool v1.2), (7, .row 1230 0 v2.1.length), (9, .row 100 0 l1011.length), (10, .int n1012), (11, .int i1222)], [(94, some (35, .intss l1010)), (1180, some (35, .intss v1.1)), (1230, some (3, .ints v2.1)), (100, some (3, .ints l1011))], [(1, some [.int p_0.g.n, .ro false (.pairs p_0.g.bars), .ro false (.ints p_0.ground)])]⟩ : PS)
   iterate 2 refine Ah ?_
   refine Aa ?_
   iterate 4 refine Ac tt rfl rfl rfl rfl rfl Tvv ?_
   refine Af ?_
   change VC _ _ _ _
   refine Av rfl (fun hb6 => ?_) (fun hb6 => ?_)
   ·replace h := Ao hb6 h
    refine Au ?_
    change VC _ _ _ _
    refine Ah ?_
    refine Ar ?_
    iterate 2 refine Ah ?_
    refine Aa ?_
    iterate 3 refine Ac tt rfl rfl rfl rfl rfl Tvv ?_
    obtain ⟨hg7, h⟩ := Ab h
    iterate 2 refine Ac tt rfl rfl rfl rfl rfl hg7 ?_
    obtain ⟨hg8, h⟩ := Ab h
    refine Ac tt rfl rfl rfl rfl rfl hg8 ?_
    refine Ac tt rfl rfl rfl rfl rfl Tvv ?_
    obtain ⟨v1243, hc9, h⟩ := Ai h
    refine Bm (Fg N l1011 ((v1.1.getD ((i1222).toNat) []).getD ((0 : Int).toNat) 0) v1243 hc9) rfl rfl rfl rfl rfl rfl rfl rfl ⟨(.inl ⟨rfl, rfl⟩), rfl, Tvv⟩ ?_
    refine Af ?_
    change VC _ _ _ _
    refine Av rfl (fun hb10 => ?_) (fun hb10 => ?_)
    ·replace h := Ao hb10 h
     refine Bl ?_
     change VC _ _ _ _
     refine Aa ?_
     refine Ac tt rfl rfl rfl rfl rfl Tvv ?_
     obtain ⟨hg11, h⟩ := Ab h
     refine Ac tt rfl rfl rfl rfl rfl hg11 ?_
     refine Ac tt rfl rfl rfl rfl rfl Tvv ?_
     refine Af ?_
     change ∃ _, _
     exact ⟨(i1222 + (1 : Int)), (En.of ⟨rfl, rfl, rfl, rfl, rfl, rfl, rfl, rfl, Tvv⟩ ⟨rfl, rfl, rfl, rfl, Tvv⟩ ⟨rfl, Tvv⟩), h⟩
    replace h := Ap hb10 h
    refine Au ?_
    change VC _ _ _ _
    refine Ah ?_
    refine Aa ?_
    refine Ac tt rfl rfl rfl rfl rfl Tvv ?_
    refine Af ?_
    change VC _ _ _ _
    refine Ah ?_
    refine Cd 8 [] [0, 0, 0, 0, 12, 28, 60, 124, 255, 511] (by kernel_rfl) (by kernel_rfl) (by kernel_rfl) (by kernel_rfl) (by kernel_rfl) rfl (by rfl) ?_
    iterate 4 refine Cz tt rfl (Ag rfl) rfl rfl rfl rfl rfl Tvv ?_
    iterate 2 refine Cz tt rfl (Ag rfl) rfl rfl rfl rfl rfl hg7 ?_
    refine Cz tt rfl (Ag rfl) rfl rfl rfl rfl rfl hg8 ?_
    refine Cz tt rfl (Ag rfl) rfl rfl rfl rfl rfl Tvv ?_
    refine Su ?_
    change VO _ _ _ _ _
    obtain ⟨v1244, hc12, h⟩ := Ai h
    refine Bm (Qh N p_0 v2.1 ((v1.1.getD ((i1222).toNat) []).getD ((0 : Int).toNat) 0) v1244 hc12) rfl rfl rfl rfl rfl rfl rfl rfl ⟨⟨rfl, rfl, rfl, Tvv⟩, (.inl ⟨rfl, rfl⟩), rfl, Tvv⟩ ?_
    refine Ac tt rfl rfl rfl rfl rfl Tvv ?_
    refine Af ?_
    change VC _ _ _ _
    iterate 2 refine Ah ?_
    refine Aa ?_
    refine Ac tt rfl rfl rfl rfl rfl Tvv ?_
    refine Af ?_
    change VC _ _ _ _
    refine Cc (F := fun k => Bv N v1 l1011 i1222 v1244 k) h (α := Bool) (J := fun (ready1253 : Bool) => (⟨[(1, .ptr 1 0), (4, .row 94 0 l1010.length), (5, .row 1180 0 v1.1.length), (6, .bool v1.2), (7, .row 1230 0 v2.1.length), (9, .row 100 0 l1011.length), (10, .int n1012), (11, .int i1222), (12, .bool ready1253)], [(94, some (35, .intss l1010)), (1180, some (35, .intss v1.1)), (1230, some (3, .ints v2.1)), (100, some (3, .ints l1011))], [(1, some [.int p_0.g.n, .ro false (.pairs p_0.g.bars), .ro false (.ints p_0.ground)])]⟩ : PS)) ?_ ?_
    ·rintro ready1253 h
     show VC _ _ _ (⟨[(1, .ptr 1 0), (4, .row 94 0 l1010.length), (5, .row 1180 0 v1.1.length), (6, .bool v1.2), (7, .row 1230 0 v2.1.length), (9, .row 100 0 l1011.length), (10, .int n1012), (11, .int i1222), (12, .bool ready1253)], [(94, some (35, .intss l1010)), (1180, some (35, .intss v1.1)), (1230, some (3, .ints v2.1)), (100, some (3, .ints l1011))], [(1, some [.int p_0.g.n, .ro false (.pairs p_0.g.bars), .ro false (.ints p_0.ground)])]⟩ : PS)
     refine Ah ?_
     refine Aa ?_
     refine Ac tt rfl rfl rfl rfl rfl Tvv ?_
     refine Af ?_
     change VC _ _ _ _
     refine Av rfl (fun hb13 => ?_) (fun hb13 => ?_)
     ·replace h := Ao hb13 h
      refine Ah ?_
      refine Aa ?_
      refine Ac tt rfl rfl rfl rfl rfl Tvv ?_
      refine Gx tt (Ag rfl) rfl rfl rfl rfl ?_
      iterate 2 refine Ac tt rfl rfl rfl rfl rfl Tvv ?_
      iterate 2 refine Ac tt rfl rfl rfl rfl rfl hg7 ?_
      obtain ⟨hg14, h⟩ := Ab h
      refine oAppNil tt (Ag rfl) rfl rfl rfl rfl rfl rfl rfl (fun _ => rfl) rfl rfl rfl rfl rfl hg14 ?_
      refine oFreeze (t := 92) rfl rfl rfl rfl ?_
      refine Dt tt rfl rfl rfl rfl rfl rfl rfl rfl rfl rfl rfl ?_
      obtain ⟨hg15, h⟩ := Ab h
      refine Cp tt rfl rfl rfl rfl rfl rfl rfl rfl rfl rfl rfl rfl rfl rfl rfl rfl (Nat.le_of_eq (Nat.zero_add _)) hg15 ?_
      refine Ac tt rfl rfl rfl rfl rfl Tvv ?_
      refine Af ?_
      change VC _ _ _ _
      refine Ah ?_
      refine Aa ?_
      iterate 3 refine Ac tt rfl rfl rfl rfl rfl Tvv ?_
      iterate 2 refine Ac tt rfl rfl rfl rfl rfl hg7 ?_
      obtain ⟨hg16, h⟩ := Ab h
      refine Cp tt rfl rfl rfl rfl rfl rfl rfl rfl rfl rfl rfl rfl rfl rfl rfl rfl Tvv hg16 ?_
      refine Ac tt rfl rfl rfl rfl rfl Tvv ?_
      refine Af ?_
      change VC _ _ _ _
      refine Bl ?_
      change ∃ _, _
      exact ⟨((l1010 ++ ([(([] : List Int) ++ (v1.1.getD ((i1222).toNat) []))] : List (List Int))), (l1011 ++ (v1.1.getD ((i1222).toNat) []))), (En.of ⟨rfl, rfl, rfl, rfl, rfl, rfl, rfl, Tvv⟩ ⟨rfl, rfl, rfl, rfl, Tvv⟩ ⟨rfl, Tvv⟩), h⟩
     replace h := Ap hb13 h
     refine Au ?_
     change VC _ _ _ _
     refine Aa ?_
     refine Ac tt rfl rfl rfl rfl rfl Tvv ?_
     obtain ⟨hg17, h⟩ := Ab h
     refine Ac tt rfl rfl rfl rfl rfl hg17 ?_
     refine Ac tt rfl rfl rfl rfl rfl Tvv ?_
     refine Af ?_
     change ∃ _, _
     exact ⟨(i1222 + (1 : Int)), (En.of ⟨rfl, rfl, rfl, rfl, rfl, rfl, rfl, rfl, Tvv⟩ ⟨rfl, rfl, rfl, rfl, Tvv⟩ ⟨rfl, Tvv⟩), h⟩
    intro k h
    refine Ar ?_
    refine Ba (α := Bool × Int) (fun | (ready1257, k1258) => (⟨[(1, .ptr 1 0), (4, .row 94 0 l1010.length), (5, .row 1180 0 v1.1.length), (6, .bool v1.2), (7, .row 1230 0 v2.1.length), (9, .row 100 0 l1011.length), (10, .int n1012), (11, .int i1222), (12, .bool ready1257), (13, .row 1580 0 v1244.length), (14, .int k1258)], [(94, some (35, .intss l1010)), (1180, some (35, .intss v1.1)), (1230, some (3, .ints v2.1)), (100, some (3, .ints l1011)), (1580, some (3, .ints v1244))], [(1, some [.int p_0.g.n, .ro false (.pairs p_0.g.bars), .ro false (.ints p_0.ground)])]⟩ : PS)) (Bv N v1 l1011 i1222 v1244 k) h (En.of ⟨rfl, rfl, rfl, rfl, rfl, rfl, rfl, rfl, rfl, rfl, rfl, Tvv⟩ ⟨rfl, rfl, rfl, rfl, rfl, Tvv⟩ ⟨rfl, Tvv⟩) (fun _ => rfl) ?_
    rintro n ⟨ready1257, k1258⟩ h
    rw [Bv] at h
    show VC _ _ _ (⟨[(1, .ptr 1 0), (4, .row 94 0 l1010.length), (5, .row 1180 0 v1.1.length), (6, .bool v1.2), (7, .row 1230 0 v2.1.length), (9, .row 100 0 l1011.length), (10, .int n1012), (11, .int i1222), (12, .bool ready1257), (13, .row 1580 0 v1244.length), (14, .int k1258)], [(94, some (35, .intss l1010)), (1180, some (35, .intss v1.1)), (1230, some (3, .ints v2.1)), (100, some (3, .ints l1011)), (1580, some (3, .ints v1244))], [(1, some [.int p_0.g.n, .ro false (.pairs p_0.g.bars), .ro false (.ints p_0.ground)])]⟩ : PS)
    iterate 2 refine Ah ?_
    refine Aa ?_
    iterate 4 refine Ac tt rfl rfl rfl rfl rfl Tvv ?_
    refine Af ?_
    change VC _ _ _ _
    refine Av rfl (fun hb18 => ?_) (fun hb18 => ?_)
    ·replace h := Ao hb18 h
     refine Au ?_
     change VC _ _ _ _
     refine Ah ?_
     refine Ar ?_
     refine Ca (by kernel_rfl) (by kernel_rfl) ?_
     iterate 2 refine Bi tt rfl (Ag rfl) rfl rfl rfl Tvv ?_
     refine Hr rfl rfl rfl (fun hb19 => ?_) (fun hb19 => ?_)
     ·replace h := Ao hb19 h
      iterate 3 refine Bi tt rfl (Be rfl rfl rfl rfl hb19) rfl rfl rfl Tvv ?_
      obtain ⟨hg20, h⟩ := Ab h
      iterate 2 refine Bi tt rfl (Be rfl rfl rfl rfl hb19) rfl rfl rfl hg20 ?_
      obtain ⟨v1261, hc21, h⟩ := Ai h
      refine Mq (Fg N l1011 (v1244.getD ((k1258).toNat) 0) v1261 hc21) rfl (Be rfl rfl rfl rfl hb19) rfl rfl rfl rfl rfl rfl ⟨(.inl ⟨rfl, rfl⟩), rfl, Tvv⟩ ?_
      refine Bi tt rfl (Be rfl rfl rfl rfl hb19) rfl rfl rfl Tvv ?_
      refine Hr rfl rfl rfl (fun hb22 => ?_) (fun hb22 => ?_)
      ·replace h := Ao hb22 h
       iterate 9 refine Ww rfl rfl rfl rfl hb22 rfl rfl ?_
       refine Ek rfl (Be rfl rfl rfl rfl hb19) rfl rfl rfl hb22 rfl ?_
       refine Ek rfl (Ag rfl) rfl rfl rfl hb19 rfl ?_
       refine Bi tt rfl (Ag rfl) rfl rfl rfl Tvv ?_
       refine Lo ?_
       change VC _ _ _ _
       refine Aa ?_
       refine Ac tt rfl rfl rfl rfl rfl Tvv ?_
       obtain ⟨hg23, h⟩ := Ab h
       refine Ac tt rfl rfl rfl rfl rfl hg23 ?_
       refine Ac tt rfl rfl rfl rfl rfl Tvv ?_
       refine Af ?_
       change ∃ _, _
       exact ⟨(true, (k1258 + (1 : Int))), (En.of ⟨rfl, rfl, rfl, rfl, rfl, rfl, rfl, rfl, rfl, rfl, rfl, Tvv⟩ ⟨rfl, rfl, rfl, rfl, rfl, Tvv⟩ ⟨rfl, Tvv⟩), h⟩
      replace h := Ap hb22 h
      iterate 2 refine Bi tt rfl (Be rfl rfl rfl rfl hb22) rfl rfl rfl Tvv ?_
      iterate 2 refine Bi tt rfl (Be rfl rfl rfl rfl hb22) rfl rfl rfl hg7 ?_
      iterate 2 refine Bi tt rfl (Be rfl rfl rfl rfl hb22) rfl rfl rfl Tvv ?_
      iterate 2 refine Bi tt rfl (Be rfl rfl rfl rfl hb22) rfl rfl rfl hg20 ?_
      obtain ⟨v1262, hc24, h⟩ := Ai h
      refine Mq (Fg N (v1.1.getD ((i1222).toNat) []) (v1244.getD ((k1258).toNat) 0) v1262 hc24) rfl (Be rfl rfl rfl rfl hb22) rfl rfl rfl rfl rfl rfl ⟨rfl, rfl, Tvv⟩ ?_
      refine Gt rfl (Be rfl rfl rfl rfl hb19) rfl rfl rfl hb22 rfl ?_
      refine Ek rfl (Ag rfl) rfl rfl rfl hb19 rfl ?_
      refine Bi tt rfl (Ag rfl) rfl rfl rfl Tvv ?_
      refine Lo ?_
      change VC _ _ _ _
      refine Aa ?_
      refine Ac tt rfl rfl rfl rfl rfl Tvv ?_
      obtain ⟨hg25, h⟩ := Ab h
      refine Ac tt rfl rfl rfl rfl rfl hg25 ?_
      refine Ac tt rfl rfl rfl rfl rfl Tvv ?_
      refine Af ?_
      change ∃ _, _
      exact ⟨(v1262, (k1258 + (1 : Int))), (En.of ⟨rfl, rfl, rfl, rfl, rfl, rfl, rfl, rfl, rfl, rfl, rfl, Tvv⟩ ⟨rfl, rfl, rfl, rfl, rfl, Tvv⟩ ⟨rfl, Tvv⟩), h⟩
     replace h := Ap hb19 h
     iterate 7 refine cNoT rfl rfl rfl rfl hb19 rfl rfl ?_
     iterate 9 refine cNoU rfl rfl rfl rfl rfl ?_
     refine cNoT rfl rfl rfl rfl hb19 rfl rfl ?_
     refine Gt rfl (Ag rfl) rfl rfl rfl hb19 rfl ?_
     refine Bi tt rfl (Ag rfl) rfl rfl rfl Tvv ?_
     refine Lo ?_
     change VC _ _ _ _
     refine Aa ?_
     refine Ac tt rfl rfl rfl rfl rfl Tvv ?_
     obtain ⟨hg26, h⟩ := Ab h
     refine Ac tt rfl rfl rfl rfl rfl hg26 ?_
     refine Ac tt rfl rfl rfl rfl rfl Tvv ?_
     refine Af ?_
     change ∃ _, _
     exact ⟨(false, (k1258 + (1 : Int))), (En.of ⟨rfl, rfl, rfl, rfl, rfl, rfl, rfl, rfl, rfl, rfl, rfl, Tvv⟩ ⟨rfl, rfl, rfl, rfl, rfl, Tvv⟩ ⟨rfl, Tvv⟩), h⟩
    replace h := Ap hb18 h
    refine Bl ?_
    change ∃ _, _
    exact ⟨ready1257, (En.of ⟨rfl, rfl, rfl, rfl, rfl, rfl, rfl, rfl, rfl, Tvv⟩ ⟨rfl, rfl, rfl, rfl, Tvv⟩ ⟨rfl, Tvv⟩), h⟩
   replace h := Ap hb6 h
   refine Bl ?_
   change ∃ _, _
   exact ⟨(l1010, l1011), (En.of ⟨rfl, rfl, rfl, rfl, rfl, rfl, rfl, Tvv⟩ ⟨rfl, rfl, rfl, rfl, Tvv⟩ ⟨rfl, Tvv⟩), h⟩
  replace h := Ap hb4 h
  refine Bl ?_
  change ∃ _, _
  exact ⟨l1010, (En.of ⟨rfl, rfl, Tvv⟩ ⟨rfl, Tvv⟩ trivial), h⟩
 replace h := Ap hb3 h
 refine Zf rfl rfl rfl rfl hb3 rfl rfl ?_
 refine Cv rfl rfl rfl rfl rfl hb3 rfl ?_
 refine Af ?_
 change VC _ _ _ _
 refine Gw rfl rfl ?_
 refine Bl ?_
 change ∃ _, _
 exact ⟨l1010, (En.of ⟨rfl, rfl, Tvv⟩ ⟨rfl, Tvv⟩ trivial), h⟩
end Go.Proofs.Ytkklfgcelmeccaa
namespace Go.Proofs.Ytkklfgcelmeccaa
open Go.RowKit Go.Deep
section
variable {C : Cx} {ops : Array Oper} {Q : Exit → PS → Prop} {s : PS} {fuel : Nat} {listed : Array Bool}
end
section
variable {C : Cx} {tm : List (Nat × D)} {rw' : List (Nat × Option (TypeId × Sq))} {bx : List (Nat × Option (List D))} {s' : PS}
theorem En.dropR (R : Nat) {et : TypeId} {q : Sq} (hR : PS.r ⟨tm, rw', bx⟩ R = some (et, q)) (hFR : Dz R = true := by rfl) : En C ⟨tm, rw', bx⟩ ⟨tm, (R, none) :: rw', bx⟩ := ⟨fun M a w h => by
 obtain ⟨M', h1, _, _⟩ := h.drop hFR hR
 exact ⟨M', h1⟩⟩
end
end Go.Proofs.Ytkklfgcelmeccaa
namespace Go.Proofs.Ytkklfgcelmeccaa
open Go.RowKit Go.Deep
section
variable {C : Cx} {o : Oper} {s : PS}
end
end Go.Proofs.Ytkklfgcelmeccaa
namespace Go.Proofs.Ytkklfgcelmeccaa
open Go.RowKit Go.Deep
section
variable {C : Cx} {ops : Array Oper} {K : PS → Prop} {o : Oper} {rest : List Oper} {s : PS} {TT : List (Nat × Ty)} {tm : List (Nat × D)} {rw' : List (Nat × Option (TypeId × Sq))} {bx : List (Nat × Option (List D))} {cr B : List Nat} {j : Nat}
end
end Go.Proofs.Ytkklfgcelmeccaa
namespace Go.Proofs.Ytkklfgcelmeccaa
open Go.RowKit Go.Deep
section
variable {C : Cx} {ops : Array Oper} {K : PS → Prop} {o : Oper} {rest : List Oper} {s s' : PS} {TT : List (Nat × Ty)} {tm : List (Nat × D)} {rw' : List (Nat × Option (TypeId × Sq))} {bx : List (Nat × Option (List D))} {cr B : List Nat} {j : Nat}
theorem En.also (g T : Nat) {F k n : Nat} {te : TypeId} {q : Sq} {d : D} (h : En C ⟨tm, rw', bx⟩ s') (hg : PS.t ⟨tm, rw', bx⟩ g = .irow F k n) (hT : PS.t ⟨tm, rw', bx⟩ T = .irow F k n) (hf : PS.r ⟨tm, rw', bx⟩ (FK + F) = some (te, dF q)) (hq : q.deep = true) (hk : k < q.len) (hp : 0 < (q.nn k).len) (hd : fcD (s'.t T) some = some d) (hF : Nat.blt F 4294967296 = true := by rfl) : En C ⟨tm, rw', bx⟩ ⟨(g, d) :: s'.tmp, s'.row, s'.box⟩ := ⟨fun M a w hr => by
 obtain ⟨M', h1⟩ := h.out M a w hr
 rw [Gv] at hd
 cases hd
 have hinn := deep_at (s := ⟨tm, rw', bx⟩) hF hq hf hk
 have e1 := hr.tmp g
 have e2 := hr.tmp T
 rw [hg] at e1
 rw [hT] at e2
 have hv : a.tmps.getD g undef = a.tmps.getD T undef := by
  rcases Qi hr hinn e1 with ⟨_, h0, _⟩ | ⟨g1, c1, u1, a1, a2, _⟩
  ·omega
  rcases Qi hr hinn e2 with ⟨_, h0, _⟩ | ⟨g2, c2, u2, b1, b2, b3, b4, b5, b6, b7, _⟩
  ·omega
  rw [a1] at b1
  cases b1
  rw [a2, b2]
 refine ⟨M', { h1 with tmp := fun x => ?_ }⟩
 by_cases hx : g = x
 ·subst hx
  have e : PS.t ⟨(g, s'.t T) :: s'.tmp, s'.row, s'.box⟩ g = s'.t T := by simp [PS.t, Aq]
  rw [e, hv]
  exact h1.tmp T
 have e : PS.t ⟨(g, s'.t T) :: s'.tmp, s'.row, s'.box⟩ x = s'.t x := by simp only [PS.t, At hx]
 rw [e]
 exact h1.tmp x⟩
theorem rmLen (X : List (List Int)) {n1 off m i : Nat} (h1 : n1 = i) (h2 : off = i + 1) (h3 : m = X.length - (i + 1)) (hi : i < X.length) : (([] ++ ((idn X).take (0 + n1)).drop 0) ++ ((idn X).take (off + m)).drop off).length = (X.take i ++ X.drop (i + 1)).length := by
 subst h1 h2 h3
 simp [Eh]; omega
theorem rmI (F : Nat) (X : List (List Int)) {n1 off m i : Nat} (h1 : n1 = i) (h2 : off = i + 1) (h3 : m = X.length - (i + 1)) (hi : i < X.length) : ReOK F (.irefs F (([] ++ ((idn X).take (0 + n1)).drop 0) ++ ((idn X).take (off + m)).drop off)) (.ints ((X.map some).set i none)) (.intss (X.take i ++ X.drop (i + 1))) := by
 have hlen := rmLen X h1 h2 h3 hi
 subst h1 h2 h3
 have hraw : ∀ p, p < (X.take n1 ++ X.drop (n1 + 1)).length → (([] ++ ((idn X).take (0 + n1)).drop 0) ++ ((idn X).take (n1 + 1 + (X.length - (n1 + 1)))).drop (n1 + 1)).getD p (NIL, 0) = (idn X).getD (if p < n1 then p else p + 1) (NIL, 0) := fun p hp => by
  have e0 : n1 + 1 + (X.length - (n1 + 1)) = (idn X).length := by rw [Eh]; omega
  rw [e0, List.take_length, List.nil_append, Nat.zero_add, List.drop_zero]
  have hil : n1 < (idn X).length := by rw [Eh]; exact hi
  simp only [List.getD_eq_getElem?_getD]
  by_cases hpn : p < n1
  ·rw [if_pos hpn, List.getElem?_append_left (by rw [List.length_take]; omega), List.getElem?_take_of_lt hpn]
  rw [if_neg hpn, List.getElem?_append_right (by rw [List.length_take]; omega), List.length_take, List.getElem?_drop, Nat.min_eq_left (by omega)]
  congr 2; omega
 have hX : ∀ p, p < (X.take n1 ++ X.drop (n1 + 1)).length → (X.take n1 ++ X.drop (n1 + 1)).getD p [] = X.getD (if p < n1 then p else p + 1) [] := fun p hp => by
  simp only [List.getD_eq_getElem?_getD]
  by_cases hpn : p < n1
  ·rw [if_pos hpn, List.getElem?_append_left (by rw [List.length_take]; omega), List.getElem?_take_of_lt hpn]
  rw [if_neg hpn, List.getElem?_append_right (by rw [List.length_take]; omega), List.length_take, List.getElem?_drop, Nat.min_eq_left (by omega)]
  congr 2; omega
 have hXl : (X.take n1 ++ X.drop (n1 + 1)).length = X.length - 1 := by simp; omega
 have hb : ∀ p, p < (X.take n1 ++ X.drop (n1 + 1)).length → (if p < n1 then p else p + 1) < X.length ∧ (if p < n1 then p else p + 1) ≠ n1 := fun p hp => by
  split <;> omega
 refine ⟨rfl, hlen.symm, rfl, fun p => if p < n1 then p else p + 1, fun p hp => ?_, fun p p' _ _ e => ?_, fun p x nn hp => ?_⟩
 ·obtain ⟨g1, g2⟩ := hb p hp
  simp only [Fq.get, Sq.nn]
  rw [Fd _ _ _ _ _ (by rw [List.length_map]; exact hi), if_neg g2, getD_map_some, hX p hp, List.getElem?_eq_getElem g1, List.getD_eq_getElem?_getD, List.getElem?_eq_getElem g1]
  rfl
 ·dsimp only at e
  split at e <;> split at e <;> omega
 obtain ⟨g1, g2⟩ := hb p hp
 have a1 : (Sq.irefs F (([] ++ ((idn X).take (0 + n1)).drop 0) ++ ((idn X).take (n1 + 1 + (X.length - (n1 + 1)))).drop (n1 + 1))).relem p = [.irow F (if p < n1 then p else p + 1) (X.getD (if p < n1 then p else p + 1) []).length] := by
  simp only [Sq.relem]
  rw [hraw p hp, idn_get X _ g1]
 have a2 : (dR F (.intss (X.take n1 ++ X.drop (n1 + 1)))).relem p = [.irow F p (X.getD (if p < n1 then p else p + 1) []).length] := by
  simp only [dR, Sq.relem]
  rw [idn_get _ _ hp, hX p hp]
 rw [a1, a2]
 cases x with
 | zero => exact ⟨fun h => by simp at h ⊢; exact h, fun x h => by simp at h⟩
 | succ x => exact ⟨fun h => by simp at h, fun x h => by simp at h⟩
theorem sAppNilR (hT : Jk C.P TT) {t e : TypeId} {k q0 q2 q' : Sq} {by' b : Nat} {x y : Operand} {dy : D} {ob : Prop} (hop : o.op = .call { callee := .builtin .append, args := #[x, y], argTypes := #[t, t] }) (hd : o.dst = some b) (hy : Az TT t = some (.sl e k by'))
  (hx : s.ev x = .nil) (hk0 : Nat.beq q0.len 0 = true) (hkz : Nat.beq k.sz q0.sz = true) (hf : Fresh s noB (isR b)) (hyy : s.ev y = dy) (hs : Rq (s.setR b (some (e, q0))) dy = some (ob, q2)) (happ : q0.app q2 = some q') (hb : Nat.ble by' 32 = true) (hn : Nat.blt b C.n = true)
  (hob : ob) (hbd : q2.len ≤ 4294967296) (h : K ((s.setR b (some (e, q'))).put (some b) (.row b 0 q'.len))) : Step C o s K := ⟨fun M a w Q K' hrl hkk => by
 have e1 := hrl.ev x
 rw [hx] at e1
 have hkl := Nat.eq_of_beq_eq_true hk0
 have hb1000 : b < 1000000 := by have h1000 := hrl.nle; rw [Nat.blt_eq] at hn; omega
 obtain ⟨ao1, hao1⟩ := e1.nil_inv
 obtain ⟨M1, hr1, hv1'⟩ := hrl.nilRow (r := b) (e := e) (q := q0) hkl hf hb1000
 have e2 := hr1.ev y
 have hyy' : (s.setR b (some (e, q0))).ev y = dy := by rw [← hyy]; cases y <;> rfl
 rw [hyy'] at e2
 obtain ⟨news, hsrc⟩ := src_ok hr1 e2 hs hob
 have hb' := Nat.le_of_ble_eq_true hb
 have hbd' : q0.len + q2.len ≤ 4294967296 := by omega
 obtain ⟨v', w', M', h1, h2, h3, _⟩ := Qp (P := C.P) (ty := o.type) hr1 (hT t _ hy) (Nat.eq_of_beq_eq_true hkz) (r := b) (q := q0) (by rw [PS.r_setR _ _ _ _ (Ck hb1000), if_pos rfl]) (hv1' ao1) (Nat.zero_le _) hsrc (q' := q') (by rw [← hkl, Sq.take_len]; exact happ) (by rw [Nat.zero_add]; have := Nat.mul_le_mul hbd hb'; omega) (by unfold maxLen; omega) hb1000
 rw [← hao1] at h1
 unfold Oper.wp
 rw [Yk hop h1]
 refine hkk M' _ _ _ h ?_
 rw [hd]
 have hl := (Sq.app_ok happ).1
 rw [hkl] at hl
 rw [← hl] at h3
 have h4 := h2.put (o := some b) hn h3
 refine h4.same (fun x => ?_) (fun r => ?_) (fun c => ?_)
 ·rw [PS.t_put, PS.t_put]
  split
  ·rfl
  have : (((s.setR b (some (e, q0))).kill b).setR b (some (e, q'))).t x = kl b (s.t x) := PS.t_kill (s.setR b (some (e, q0))) b x
  rw [this, kl_id (hf.t x) (Ck hb1000)]; rfl
 ·rw [PS.r_put, PS.r_put, PS.r_setR _ _ _ _ (Ck hb1000), PS.r_setR _ _ _ _ (Ck hb1000)]
  split
  ·rfl
  rename_i hne
  have : ((s.setR b (some (e, q0))).kill b).r r = (s.setR b (some (e, q0))).r r := rfl
  rw [this, PS.r_setR _ _ _ _ (Ck hb1000), if_neg hne]
 rw [PS.b_put, PS.b_put]
 have : (((s.setR b (some (e, q0))).kill b).setR b (some (e, q'))).b c = (s.b c).map fun cs => cs.map (klS b) := PS.b_kill (s.setR b (some (e, q0))) b c
 rw [this]
 have hsb : (s.setR b (some (e, q'))).b c = s.b c := rfl
 rw [hsb]
 cases hc : s.b c with
 | none => rfl
 | some cs =>
  simp only [Option.map_some]
  congr 1
  conv => lhs; rw [← List.map_id cs]
  exact (List.map_congr_left fun d hd' => klS_id (hf.b c cs hc d hd') (Ck hb1000)).symm⟩
theorem nAppNilR (hT : Jk C.P TT) (hw : Wanted C ops o ⟨tm, rw', bx⟩) {t e e2 : TypeId} {k q2 q' q'' qR : Sq} {by' b R off m m' : Nat} {x y : Operand} (q0 : Sq) (hop : o.op = .call { callee := .builtin .append, args := #[x, y], argTypes := #[t, t] }) (hd : o.dst = some b) (hy : Az TT t = some (.sl e k by'))
  (hx : (PS.ev ⟨tm, rw', bx⟩ x) = .nil) (hk0 : Nat.beq q0.len 0 = true) (hkz : Nat.beq k.sz q0.sz = true) (hcr : cr.contains j = true) (hnm : nm ops j b = true) (hyy : (PS.ev ⟨tm, rw', bx⟩ y) = .row R off m) (hR : PS.r ⟨tm, rw', bx⟩ R = some (e2, qR)) (hbR : Nat.beq b R = false) (hq2 : (qR.take (off + m)).drop off = q2) (happ : q0.app q2 = some q') (hb : Nat.ble by' 32 = true) (hn : Nat.blt b C.n = true)
  (hq' : fcQ q' some = some q'') (hm' : lenK q' some = some m') (hvis : visB ops cr B j ⟨tm, rw', bx⟩ [y] = true) (hck : Kp ops cr B j ⟨.row b 0 m', [(b, some (e, q''))], []⟩ = true) (hF : Dz b = true) (hob : off + m ≤ qR.len) (hbd : q2.len ≤ 4294967296) (h : QN C ops cr B K (j + 1) rest ⟨(b, .row b 0 m') :: tm, (b, some (e, q'')) :: rw', bx⟩) : QN C ops cr B K j (o :: rest) ⟨tm, rw', bx⟩ := by
 rw [Qg] at hq'
 rw [Pk] at hm'
 cases hq'
 cases hm'
 subst hq2
 refine Rb (e := ⟨.row b 0 _, [(b, some (e, _))], []⟩) hw hck (fun s1 hag => ?_) (by rw [hd, PS.ap_eq _ _ _ _ _ (Kt hF)]; exact h)
 have e1 := hag.ev x (by rw [hop]; simp [Op.operands, Call.operands])
 have e2 := hag.ev y (by rw [hop]; simp [Op.operands, Call.operands])
 have s1y := hag.same hvis y (by simp)
 rw [hyy] at s1y
 have hbR' : b ≠ R := fun e => by subst e; rw [Nat.beq_refl] at hbR; cases hbR
 exact sAppNilR hT hop hd hy (e1.trans hx) hk0 hkz (Lb (hag.fr hcr) (fun x hx => by cases hx) (fun x hx => by rw [← Nat.eq_of_beq_eq_true hx]; exact hnm)) (e2.trans hyy) (by simp only [Rq]; rw [PS.r_setR _ _ _ _ hF, if_neg hbR', s1y.row, hR]) happ hb hn hob hbd (by rw [hd, PS.ap_eq _ _ _ _ _ (Kt hF)]; rfl)
theorem src_irow {w0 : World} {O0 : Hd} {n : Nat} {M : Mp} {a : Act} {w : World} (h : Rel w0 O0 n M s a w) {F k m : Nat} {te : TypeId} {q : Sq} {v : Value} (hF : Nat.blt F 4294967296 = true) (hq : q.deep = true) (hf : s.r (FK + F) = some (te, dF q)) (hk : k < q.len) (hm : m = (q.nn k).len) (hv : VR M (Ow (Fs w0 O0) M) w (.irow F k m) v) : ∃ news, Src (Fs w0 O0) M w (q.nn k) v news := by
 have hinn := deep_at hF hq hf hk
 subst hm
 rcases Qi h hinn hv with ⟨_, h0, _, ao, rfl⟩ | ⟨g, cap, cur, hg, rfl, hle, hh, hl, hmx, hcs, hc⟩
 ·exact src_mk (ao := ao) (c := 0) (b := 0) (o := 0) (u := fun _ _ => undef) (by rw [h0]) (by omega) (by intro i j d hi; omega)
 refine src_mk (ao := some ⟨g, 0, none⟩) (c := cap) (b := g) (o := 0) (u := fun i j => cur.getD (i * (q.nn k).sz + j) undef) rfl (fun _ => rfl) fun i j d hi hd => ?_
 have hj : j < (q.nn k).sz := by rw [← Sq.relem_len (q.nn k) i]; exact (List.getElem?_eq_some_iff.1 hd).1
 have hlt : i * (q.nn k).sz + j < cur.size := by
  rw [hcs]
  have h4 : (i + 1) * (q.nn k).sz ≤ cap * (q.nn k).sz := Nat.mul_le_mul_right _ (by omega)
  rw [Nat.add_mul, Nat.one_mul] at h4; omega
 refine ⟨?_, hc i j d hi hd⟩
 rw [Nat.zero_add, cell_of_row w g _ cur te (0, 0) hh]
 simp [hlt]
theorem oAppendI (hT : Jk C.P TT) (hg : o.guard = none) {t e te : TypeId} {k q q' q'' qF : Sq} {by' b r m m' F i m2 : Nat} {x y : Operand} (hop : o.op = .call { callee := .builtin .append, args := #[x, y], argTypes := #[t, t] }) (hd : o.dst = some b) (hy : Az TT t = some (.sl e k by'))
  (hx : (PS.ev ⟨tm, rw', bx⟩ x) = .row r 0 m) (hr : (PS.r ⟨tm, rw', bx⟩ r) = some (e, q)) (hk : Nat.beq k.sz q.sz = true) (hyy : (PS.ev ⟨tm, rw', bx⟩ y) = .irow F i m2) (hf : PS.r ⟨tm, rw', bx⟩ (FK + F) = some (te, dF qF)) (hq : qF.deep = true) (happ : (q.take m).app (qF.nn i) = some q') (hb : Nat.ble by' 32 = true) (hn : Nat.blt b C.n = true)
  (hq' : fcQ q' some = some q'') (hm' : lenK q' some = some m') (hnf : nf ⟨(b, .row r 0 m') :: (PS.kill ⟨tm, rw', bx⟩ r).tmp, (r, some (e, q'')) :: rw', (PS.kill ⟨tm, rw', bx⟩ r).box⟩ = some s') (hi : i < qF.len) (hm2 : m2 = (qF.nn i).len) (hm : m ≤ q.len) (hbd : m + m2 ≤ 4294967296) (h : VO C ops K rest s') (hlo : Nat.ble r 999999 = true := by rfl) (hF : Nat.blt F 4294967296 = true := by rfl) : VO C ops K (o :: rest) ⟨tm, rw', bx⟩ := by
 rw [Qg] at hq'
 rw [Pk] at hm'
 cases hq'
 cases hm'
 refine vOp hg ⟨fun M a w Q K' hrl hkk => ?_⟩
 have e1 := hrl.ev x
 have e2 := hrl.ev y
 rw [hx] at e1
 rw [hyy] at e2
 obtain ⟨news, hsrc⟩ := src_irow hrl hF hq hf hi hm2 e2
 subst hm2
 have hb' := Nat.le_of_ble_eq_true hb
 obtain ⟨v', w', M', h1, h2, h3, _⟩ := Qp (P := C.P) (ty := o.type) hrl (hT t _ hy) (Nat.eq_of_beq_eq_true hk) hr e1 hm hsrc happ (by have := Nat.mul_le_mul hbd hb'; omega) (by unfold maxLen; omega) (by have := Nat.le_of_ble_eq_true hlo; omega)
 unfold Oper.wp
 rw [Yk hop h1]
 refine hkk M' _ _ _ (vNf hnf h) ?_
 rw [hd]
 have hl := (Sq.app_ok happ).1
 rw [Sq.len_take, Nat.min_eq_left hm] at hl
 rw [← hl] at h3
 exact h2.put (o := some b) hn h3
end
end Go.Proofs.Ytkklfgcelmeccaa
