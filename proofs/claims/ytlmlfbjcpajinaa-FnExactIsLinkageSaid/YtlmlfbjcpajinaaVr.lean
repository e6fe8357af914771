/- Between the two ways to say what is known of a function. No program in sight. -/
import Derived.Test.YtlmlfbjcpajinaaVq
import Derived.Test.YtlmlfbjcpajinaaGraphP
namespace Go.Proofs.Ytlmlfbjcpajinaa
open Go.RowKit Go.Deep
set_option linter.unusedSimpArgs false
set_option linter.unusedVariables false

section
variable {M : Mp} {A : Bool → Nat → Prop} {w : World} {f : Bool}
theorem VR.ints {l : List Int} {v : Value} (h : VR M A w (.ro f (.ints l)) v) : IntsAt w v l := by
  cases h with
  | ro _ _ ao cap b o u hn hc hao hu hv =>
    refine ⟨hn, ao, cap, rfl, fun h0 => ?_⟩
    obtain ⟨h1, h2, h3⟩ := hao h0
    refine ⟨b, o, h1, h2, fun i hi => ?_⟩
    have e1 := hu i 0 _ hi rfl
    have e2 := (hv i 0 _ hi rfl).int_inv
    simp only [Sq.sz, Nat.mul_one, Nat.add_zero] at e1
    rw [e1, e2]; simp [hi]
theorem VR.pairs {l : List (Int × Int)} {v : Value} (h : VR M A w (.ro f (.pairs l)) v) : PairsAt w v l := by
  cases h with
  | ro _ _ ao cap b o u hn hc hao hu hv =>
    refine ⟨hn, ao, cap, rfl, fun h0 => ?_⟩
    obtain ⟨h1, h2, h3⟩ := hao h0
    refine ⟨b, o, h1, h2, fun i hi => ⟨?_, ?_⟩⟩
    · have e1 := hu i 0 _ hi rfl
      have e2 := (hv i 0 _ hi rfl).int_inv
      simp only [Sq.sz, Nat.add_zero] at e1
      rw [e1, e2]; simp [hi]
    · have e1 := hu i 1 _ hi rfl
      have e2 := (hv i 1 _ hi rfl).int_inv
      simp only [Sq.sz] at e1
      rw [e1, e2]; simp [hi]
theorem VR.of_ints {l : List Int} {v : Value} (h : IntsAt w v l) (hc' : ∀ ao n c, v = .slice ao n c → n ≤ c) : VR M (fun _ _ => True) w (.ro f (.ints l)) v := by
  obtain ⟨hn, ao, cap, rfl, hc⟩ := h
  by_cases h0 : 0 < l.length
  · obtain ⟨b, o, rfl, h2, h3⟩ := hc h0
    refine .ro f (.ints l) _ cap b o (fun i _ => .int .i64 (l.getD i 0)) hn (hc' _ _ _ rfl) (fun _ => ⟨rfl, h2, trivial⟩) (fun i j d hi hd => ?_) (fun i j d hi hd => ?_)
    · rcases j with _ | j <;> simp [Sq.elem] at hd
      simp only [Sq.sz, Nat.mul_one, Nat.add_zero]
      rw [h3 i hi]; simp [show i < l.length from hi]; rfl
    · rcases j with _ | j <;> simp [Sq.elem] at hd
      subst hd
      have := VR.int (M := M) (A := fun _ _ => True) (w := w) (l.getD i 0)
      simpa using this
  · exact .ro f (.ints l) _ cap 0 0 (fun _ _ => undef) hn (hc' _ _ _ rfl) (fun h => absurd h h0) (fun i j d hi => absurd hi (by simp only [Sq.len]; omega)) (fun i j d hi => absurd hi (by simp only [Sq.len]; omega))
theorem VR.of_pairs {l : List (Int × Int)} {v : Value} (h : PairsAt w v l) (hc' : ∀ ao n c, v = .slice ao n c → n ≤ c) : VR M (fun _ _ => True) w (.ro f (.pairs l)) v := by
  obtain ⟨hn, ao, cap, rfl, hc⟩ := h
  by_cases h0 : 0 < l.length
  · obtain ⟨b, o, rfl, h2, h3⟩ := hc h0
    refine .ro f (.pairs l) _ cap b o (fun i j => .int .i64 (if j = 0 then (l.getD i (0, 0)).1 else (l.getD i (0, 0)).2)) hn (hc' _ _ _ rfl) (fun _ => ⟨rfl, h2, trivial⟩) (fun i j d hi hd => ?_) (fun i j d hi hd => ?_)
    · obtain ⟨g1, g2⟩ := h3 i hi
      rcases j with _ | _ | j <;> simp [Sq.elem] at hd
      · simp only [Sq.sz, Nat.add_zero]; rw [g1]; simp [show i < l.length from hi]; rfl
      · simp only [Sq.sz]; rw [g2]; simp [show i < l.length from hi]; rfl
    · rcases j with _ | _ | j <;> simp [Sq.elem] at hd <;> subst hd
      · simpa using VR.int (M := M) (A := fun _ _ => True) (w := w) (l.getD i (0, 0)).1
      · simpa using VR.int (M := M) (A := fun _ _ => True) (w := w) (l.getD i (0, 0)).2
  · exact .ro f (.pairs l) _ cap 0 0 (fun _ _ => undef) hn (hc' _ _ _ rfl) (fun h => absurd h h0) (fun i j d hi => absurd hi (by simp only [Sq.len]; omega)) (fun i j d hi => absurd hi (by simp only [Sq.len]; omega))
end

section
variable {P : Program} {w : World}
abbrev R0 : Bool → Nat → Prop := fun _ _ => True
theorem own_cap {B : Nat} {e : TypeId} {k : Nat} {v : Value} {n : Nat} {xs : List Value} (h : w.ownsRow B e k v n xs) : ∀ ao n c, v = .slice ao n c → n ≤ c := by
  intro ao m c hv
  rcases h.2 with ⟨rfl, _⟩ | ⟨g, cap, cur, rfl, _, _, h1, _⟩
  · cases hv; omega
  · cases hv; exact h1
theorem VR.own_ints {B : Nat} {e : TypeId} {f : Bool} {v : Value} {l : List Int} (h : w.ownsRow B e 1 v l.length (l.map (Value.int .i64))) (hn : l.length ≤ maxLen) : VR M0 R0 w (.ro f (.ints l)) v := VR.of_ints (IntsAt_own h hn) (own_cap h)
theorem VR.own_pairs {B : Nat} {e : TypeId} {f : Bool} {v : Value} {l : List (Int × Int)} (h : w.ownsRow B e 2 v l.length (pcells l)) (hn : l.length ≤ maxLen) : VR M0 R0 w (.ro f (.pairs l)) v := VR.of_pairs (PairsAt_own h hn) (own_cap h)

theorem arr1 {α : Type} {us : Array α} (h : us.size = 1) : ∃ x, us = #[x] := by obtain ⟨l⟩ := us; match l, h with | [x], _ => exact ⟨x, rfl⟩
theorem arr2 {α : Type} {us : Array α} (h : us.size = 2) : ∃ x y, us = #[x, y] := by obtain ⟨l⟩ := us; match l, h with | [x, y], _ => exact ⟨x, y, rfl⟩
theorem arr3 {α : Type} {us : Array α} (h : us.size = 3) : ∃ x y z, us = #[x, y, z] := by obtain ⟨l⟩ := us; match l, h with | [x, y, z], _ => exact ⟨x, y, z, rfl⟩
theorem arr4 {α : Type} {us : Array α} (h : us.size = 4) : ∃ x y z u, us = #[x, y, z, u] := by obtain ⟨l⟩ := us; match l, h with | [x, y, z, u], _ => exact ⟨x, y, z, u, rfl⟩
/-- data of the structs -/
abbrev gD (g : Grf) : D := .agg [.int g.n, .ro false (.pairs g.bars)]
abbrev pD (p : Pin) : D := .agg [.int p.g.n, .ro false (.pairs p.g.bars), .ro false (.ints p.ground)]
abbrev fD (f : Frm) : D := .agg [.int f.g.n, .ro false (.pairs f.g.bars), .ro false (.pairs f.places)]
abbrev lD (l : Lnk) : D := .agg [.int l.f.g.n, .ro false (.pairs l.f.g.bars), .ro false (.pairs l.f.places), .ro false (.ints l.ground)]
abbrev rD (r : Rse) : D := .agg [.int r.p, .ro false (.ints r.bars)]
theorem agg2 {A : Bool → Nat → Prop} {M : Mp} {a b : D} {v : Value} (h : VR M A w (.agg [a, b]) v) : ∃ x y, v = .agg #[x, y] ∧ VR M A w a x ∧ VR M A w b y := by
  obtain ⟨us, rfl, hl, hv⟩ := h.agg_inv
  obtain ⟨x, y, rfl⟩ := arr2 hl.symm
  exact ⟨x, y, rfl, by simpa using hv 0 a rfl, by simpa using hv 1 b rfl⟩
theorem agg3 {A : Bool → Nat → Prop} {M : Mp} {a b c : D} {v : Value} (h : VR M A w (.agg [a, b, c]) v) : ∃ x y z, v = .agg #[x, y, z] ∧ VR M A w a x ∧ VR M A w b y ∧ VR M A w c z := by
  obtain ⟨us, rfl, hl, hv⟩ := h.agg_inv
  obtain ⟨x, y, z, rfl⟩ := arr3 hl.symm
  exact ⟨x, y, z, rfl, by simpa using hv 0 a rfl, by simpa using hv 1 b rfl, by simpa using hv 2 c rfl⟩
theorem agg4 {A : Bool → Nat → Prop} {M : Mp} {a b c d : D} {v : Value} (h : VR M A w (.agg [a, b, c, d]) v) : ∃ x y z u, v = .agg #[x, y, z, u] ∧ VR M A w a x ∧ VR M A w b y ∧ VR M A w c z ∧ VR M A w d u := by
  obtain ⟨us, rfl, hl, hv⟩ := h.agg_inv
  obtain ⟨x, y, z, u, rfl⟩ := arr4 hl.symm
  exact ⟨x, y, z, u, rfl, by simpa using hv 0 a rfl, by simpa using hv 1 b rfl, by simpa using hv 2 c rfl, by simpa using hv 3 d rfl⟩
theorem mk_agg2 {A : Bool → Nat → Prop} {M : Mp} {a b : D} {x y : Value} (h1 : VR M A w a x) (h2 : VR M A w b y) : VR M A w (.agg [a, b]) (.agg #[x, y]) :=
  .agg _ _ rfl fun i d hd => by match i, hd with | 0, hd => simp at hd; subst hd; exact h1 | 1, hd => simp at hd; subst hd; exact h2
theorem mk_agg3 {A : Bool → Nat → Prop} {M : Mp} {a b c : D} {x y z : Value} (h1 : VR M A w a x) (h2 : VR M A w b y) (h3 : VR M A w c z) : VR M A w (.agg [a, b, c]) (.agg #[x, y, z]) :=
  .agg _ _ rfl fun i d hd => by match i, hd with | 0, hd => simp at hd; subst hd; exact h1 | 1, hd => simp at hd; subst hd; exact h2 | 2, hd => simp at hd; subst hd; exact h3
theorem mk_agg4 {A : Bool → Nat → Prop} {M : Mp} {a b c e : D} {x y z u : Value} (h1 : VR M A w a x) (h2 : VR M A w b y) (h3 : VR M A w c z) (h4 : VR M A w e u) : VR M A w (.agg [a, b, c, e]) (.agg #[x, y, z, u]) :=
  .agg _ _ rfl fun i d hd => by match i, hd with | 0, hd => simp at hd; subst hd; exact h1 | 1, hd => simp at hd; subst hd; exact h2 | 2, hd => simp at hd; subst hd; exact h3 | 3, hd => simp at hd; subst hd; exact h4
theorem VR.graph {A : Bool → Nat → Prop} {M : Mp} {g : Grf} {v : Value} (h : VR M A w (gD g) v) : GraphAt w v g := by
  obtain ⟨x, y, rfl, h1, h2⟩ := agg2 h
  exact ⟨y, by rw [h1.int_inv], h2.pairs⟩
theorem VR.pinned {A : Bool → Nat → Prop} {M : Mp} {g : Pin} {v : Value} (h : VR M A w (pD g) v) : PinnedAt w v g := by
  obtain ⟨x, y, z, rfl, h1, h2, h3⟩ := agg3 h
  exact ⟨y, z, by rw [h1.int_inv], h2.pairs, h3.ints⟩
theorem VR.frame {A : Bool → Nat → Prop} {M : Mp} {g : Frm} {v : Value} (h : VR M A w (fD g) v) : FrameAt w v g := by
  obtain ⟨x, y, z, rfl, h1, h2, h3⟩ := agg3 h
  exact ⟨y, z, by rw [h1.int_inv], h2.pairs, h3.pairs⟩
theorem VR.linkage {A : Bool → Nat → Prop} {M : Mp} {g : Lnk} {v : Value} (h : VR M A w (lD g) v) : LinkageAt w v g := by
  obtain ⟨x, y, z, u, rfl, h1, h2, h3, h4⟩ := agg4 h
  exact ⟨y, z, u, by rw [h1.int_inv], h2.pairs, h3.pairs, h4.ints⟩
theorem VR.raise {A : Bool → Nat → Prop} {M : Mp} {g : Rse} {v : Value} (h : VR M A w (rD g) v) : RaiseAt w v g := by
  obtain ⟨x, y, rfl, h1, h2⟩ := agg2 h
  exact ⟨y, by rw [h1.int_inv], h2.ints⟩

/-- arguments, one by one -/
theorem args1 {d : D} {args : Array Value} (h : ArgsOK w [d] args) : ∃ v, args = #[v] ∧ VR M0 R0 w d v := by
  obtain ⟨hs, ha⟩ := h
  obtain ⟨v, rfl⟩ := arr1 hs
  exact ⟨v, rfl, by simpa using ha 0 d rfl⟩
theorem args2 {d e : D} {args : Array Value} (h : ArgsOK w [d, e] args) : ∃ v u, args = #[v, u] ∧ VR M0 R0 w d v ∧ VR M0 R0 w e u := by
  obtain ⟨hs, ha⟩ := h
  obtain ⟨v, u, rfl⟩ := arr2 hs
  exact ⟨v, u, rfl, by simpa using ha 0 d rfl, by simpa using ha 1 e rfl⟩
theorem args3 {d e f : D} {args : Array Value} (h : ArgsOK w [d, e, f] args) : ∃ v u x, args = #[v, u, x] ∧ VR M0 R0 w d v ∧ VR M0 R0 w e u ∧ VR M0 R0 w f x := by
  obtain ⟨hs, ha⟩ := h
  obtain ⟨v, u, x, rfl⟩ := arr3 hs
  exact ⟨v, u, x, rfl, by simpa using ha 0 d rfl, by simpa using ha 1 e rfl, by simpa using ha 2 f rfl⟩
theorem args4 {d e f g : D} {args : Array Value} (h : ArgsOK w [d, e, f, g] args) : ∃ v u x y, args = #[v, u, x, y] ∧ VR M0 R0 w d v ∧ VR M0 R0 w e u ∧ VR M0 R0 w f x ∧ VR M0 R0 w g y := by
  obtain ⟨hs, ha⟩ := h
  obtain ⟨v, u, x, y, rfl⟩ := arr4 hs
  exact ⟨v, u, x, y, rfl, by simpa using ha 0 d rfl, by simpa using ha 1 e rfl, by simpa using ha 2 f rfl, by simpa using ha 3 g rfl⟩
theorem mkArgs1 {d : D} {v : Value} (h : VR M0 R0 w d v) : ArgsOK w [d] #[v] := ⟨rfl, fun i x hx => by match i, hx with | 0, hx => simp at hx; subst hx; exact h⟩
theorem mkArgs2 {d e : D} {v u : Value} (h : VR M0 R0 w d v) (h2 : VR M0 R0 w e u) : ArgsOK w [d, e] #[v, u] := ⟨rfl, fun i x hx => by match i, hx with | 0, hx => simp at hx; subst hx; exact h | 1, hx => simp at hx; subst hx; exact h2⟩
theorem mkArgs3 {d e f : D} {v u x : Value} (h : VR M0 R0 w d v) (h2 : VR M0 R0 w e u) (h3 : VR M0 R0 w f x) : ArgsOK w [d, e, f] #[v, u, x] := ⟨rfl, fun i x hx => by match i, hx with | 0, hx => simp at hx; subst hx; exact h | 1, hx => simp at hx; subst hx; exact h2 | 2, hx => simp at hx; subst hx; exact h3⟩

/-- from the older way: a value without a row -/
theorem pcall_of {f : FuncId} {fn : Func} {ds : List D} {d : D} {v : Value} (hf : P.funcs[f]? = some fn) (hname : (fn.name == "runtime.NumGoroutine") = false) (hb : fn.body.isNone = false) (hd : ∀ (N : Mp) (A : Bool → Nat → Prop) (w : World) (B : Nat), VR N A w (ren id (fun j => B + j) d) v)
    (h : ∀ w args, ArgsOK w ds args → Calls P f args w fun e w' => e = .returned v ∧ Below w.heap.size w w') : PCall P f ds [] d :=
  ⟨callFunc_of hf hname hb, fun w args ha => (h w args ha).mono fun e w' ⟨he, hb⟩ => ⟨v, he, fun B => ⟨M0, ⟨hb.os, hb.tape, hb.output, hb.size, fun k hk => hb.block k hk, fun _ => rfl, fun r e q hl => by simp [nrL, look] at hl, fun _ _ => rfl, fun k hk => by rcases hk with ⟨x, hx⟩ | ⟨x, c, z, hx⟩ <;> simp at hx, fun _ _ _ _ _ _ _ h1 => by simp at h1⟩, hd _ _ _ _⟩⟩⟩
theorem below_same {w w' : World} (h : w = w') : Below w.heap.size w w' := by subst h; exact Below.refl _ _

/-- to the older way -/
theorem PCall.bool {f : FuncId} {ds : List D} {b : Bool} (h : PCall P f ds [] (.bool b)) {args : Array Value} (ha : ArgsOK w ds args) : Calls P f args w fun e w' => e = .returned (.bool b) ∧ Below w.heap.size w w' :=
  (h.run w args ha).mono fun e w' ⟨v, he, hB⟩ => by
    obtain ⟨N, hN, hv⟩ := hB 0
    have : v = .bool b := hv.bool_inv
    exact ⟨by rw [he, this], hN.os, hN.tape, hN.output, hN.size, fun k hk => hN.block k hk⟩
theorem PCall.int {f : FuncId} {ds : List D} {b : Int} (h : PCall P f ds [] (.int b)) {args : Array Value} (ha : ArgsOK w ds args) : Calls P f args w fun e w' => e = .returned (.int .i64 b) ∧ Below w.heap.size w w' :=
  (h.run w args ha).mono fun e w' ⟨v, he, hB⟩ => by
    obtain ⟨N, hN, hv⟩ := hB 0
    have : v = .int .i64 b := hv.int_inv
    exact ⟨by rw [he, this], hN.os, hN.tape, hN.output, hN.size, fun k hk => hN.block k hk⟩
theorem row_own {N : Mp} {A : Bool → Nat → Prop} {w w' : World} {r : Nat} {e : TypeId} {q : Sq} {v : Value} {xs : List Value} (hN : New N A w w' (nrL r [(e, q)])) (hv : VR N A w' (.row r 0 q.len) v)
    (hx : xs.length = q.len * q.sz) (hcell : ∀ (cur : Array Value), (∀ i j d, i < q.len → (q.elem true i)[j]? = some d → VR N A w' d (cur.getD (i * q.sz + j) undef)) → q.len * q.sz ≤ cur.size → cur.toList.take (q.len * q.sz) = xs) : w'.ownsRow w.heap.size e q.sz v q.len xs := by
  cases hv with
  | row _ _ _ _ h1 h2 =>
    rcases hN.row r e q (by simp [nrL, look_cons_self]) with ⟨g1, g2⟩ | ⟨g, cap, cur, g1, g2, g3, g4, g5, g6⟩
    · have := h2 _ g1
      simp only [RowV] at this
      obtain ⟨rfl, _, _⟩ := this
      exact ⟨hx, .inl ⟨rfl, g2⟩⟩
    · have := h2 _ g1
      simp only [RowV] at this
      obtain ⟨k1, ao, k2, k3⟩ := this
      have k4 := k3 (.inr trivial)
      rw [Nat.zero_mul] at k4
      subst k4
      refine ⟨hx, .inr ⟨g, cap, cur, by simpa using k2, hN.low g (.inr ⟨r, _, _, g1⟩), g2, g3, g4, g5, hcell cur g6 ?_⟩⟩
      rw [g5]; exact Nat.mul_le_mul_right _ g3
theorem PCall.intS {f : FuncId} {ds : List D} {l : List Int} {e : TypeId} (h : PCall P f ds [(e, .ints l)] (.row 0 0 l.length)) {args : Array Value} (ha : ArgsOK w ds args) :
    Calls P f args w fun e' w' => ∃ v, e' = .returned v ∧ Below w.heap.size w w' ∧ w'.ownsRow w.heap.size e 1 v l.length (l.map (Value.int .i64)) :=
  (h.run w args ha).mono fun e' w' ⟨v, he, hB⟩ => by
    obtain ⟨N, hN, hv⟩ := hB 0
    refine ⟨v, he, ⟨hN.os, hN.tape, hN.output, hN.size, fun k hk => hN.block k hk⟩, ?_⟩
    refine row_own (q := .ints l) hN hv (by simp [Sq.len, Sq.sz]) fun cur hc hs => ?_
    simp only [Sq.len, Sq.sz, Nat.mul_one] at hc hs ⊢
    apply List.ext_getElem (by simp; omega)
    intro i h1 h2
    simp at h1 h2
    have := (hc i 0 _ h2 rfl).int_inv
    have hlt : i < cur.size := by omega
    simp [hlt, h2] at this
    simpa using this
theorem PCall.pairS {f : FuncId} {ds : List D} {l : List (Int × Int)} {e : TypeId} (h : PCall P f ds [(e, .pairs l)] (.row 0 0 l.length)) {args : Array Value} (ha : ArgsOK w ds args) :
    Calls P f args w fun e' w' => ∃ v, e' = .returned v ∧ Below w.heap.size w w' ∧ w'.ownsRow w.heap.size e 2 v l.length (pcells l) :=
  (h.run w args ha).mono fun e' w' ⟨v, he, hB⟩ => by
    obtain ⟨N, hN, hv⟩ := hB 0
    refine ⟨v, he, ⟨hN.os, hN.tape, hN.output, hN.size, fun k hk => hN.block k hk⟩, ?_⟩
    refine row_own (q := .pairs l) hN hv (by simp [Sq.len, Sq.sz, pcells_length]) fun cur hc hs => ?_
    simp only [Sq.len, Sq.sz] at hc hs ⊢
    apply List.ext_getElem? 
    intro j
    by_cases hj : j < l.length * 2
    · have hi : j / 2 < l.length := by omega
      have hlt : j < cur.size := by omega
      rcases Nat.mod_two_eq_zero_or_one j with h | h
      · have e1 : j = j / 2 * 2 := by omega
        have := (hc (j / 2) 0 _ hi rfl).int_inv
        rw [Nat.add_zero, ← e1] at this
        have hp := pcells_get1 l (j / 2) hi
        rw [← e1] at hp
        rw [hp]
        simp [hlt, hi] at this
        simp [List.getElem?_take, hj, hlt, this]
      · have e1 : j = j / 2 * 2 + 1 := by omega
        have := (hc (j / 2) 1 _ hi rfl).int_inv
        rw [← e1] at this
        have hp := pcells_get2 l (j / 2) hi
        rw [← e1] at hp
        rw [hp]
        simp [hlt, hi] at this
        simp [List.getElem?_take, hj, hlt, this]
    · rw [List.getElem?_eq_none (by simp; omega), List.getElem?_eq_none (by rw [pcells_length]; omega)]
end
end Go.Proofs.Ytlmlfbjcpajinaa
