/- Texts that the proof needs, put together: Sm SoB G99 G101 Qo M17 G19 G20 G17 G22 G64 G65 G67 G105 G106 G108 Qx Qy Pj Pk M15 G88 Qj G68 Ql. -/
import Derived.Sort.Grow
import Derived.WalkKit
import Derived.Shelf.SlSortCmp.NoneTotal
import Derived.Ground.SlsfProg
import Derived.Laws.Strings
import Derived.Test.YtmoamglpocjhgaaGreatBnm3
import Derived.Test.YtmoamglpocjhgaaGreatBnm4
import Derived.Test.YtmoamglpocjhgaaGreatBnm5
import Derived.Test.YtmoamglpocjhgaaGreatBnm6
set_option linter.unusedVariables false
set_option linter.unusedSimpArgs false
namespace Go.Proofs.YtmoamglpocjhgaaGreat
open Go.RowKit Go.Deep Go.Sort
structure RowPut (w w' : World) (blk m : Nat) (F' : Nat → Value) : Prop where
 os : w'.os = w.os
 tape : w'.tape = w.tape
 output : w'.output = w.output
 size : w.heap.size ≤ w'.heap.size
 else_ : ∀ k, k < w.heap.size → k ≠ blk → w'.heap[k]? = w.heap[k]?
 here : ∀ cur e fr, w.heap[blk]? = some (.cells cur e fr) → ∃ cur' : Array Value, w'.heap[blk]? = some (.cells cur' e fr) ∧ cur'.size = cur.size ∧ ∀ t, t < m → t < cur.size → cur'.getD t undef = F' t
theorem RowPut.to {w w' : World} {blk m m' : Nat} {F F' : Nat → Value} (h : RowPut w w' blk m F) (hm : m' = m) (hF : ∀ t, t < m → F t = F' t) : RowPut w w' blk m' F' :=
 ⟨h.os, h.tape, h.output, h.size, h.else_, fun cur e fr hb => by
  obtain ⟨c, h1, h2, h3⟩ := h.here cur e fr hb
  exact ⟨c, h1, h2, fun t h4 h5 => by rw [h3 t (by omega) h5, hF t (by omega)]⟩⟩
theorem rowPut_of {α : Type} [Inhabited α] {enc : α → Value} {w : World} {blk n : Nat} {d : Array α} {os : Array Obj} : RowPut w (grow (putRow enc (Sort.ahead w n) blk 0 d) os) blk d.size (fun t => enc d[t]!) := by
 refine ⟨rfl, rfl, rfl, by simp, fun k hk hne => ?_, fun cur e fr h => ?_⟩
 ·rw [heap_grow_old _ _ (by simpa using hk)]
  simp [putRow, mapBlock, Sort.ahead, Array.getElem?_modify, Ne.symm hne]
 ·refine ⟨putCells enc 0 d cur, ?_, by simp [putCells], fun t h1 h2 => ?_⟩
  ·have hg : blk < w.heap.size := (Array.getElem?_eq_some_iff.1 h).1
   rw [heap_grow_old _ _ (by simpa using hg)]
   simp [putRow, mapBlock, Sort.ahead, Array.getElem?_modify, h, onCells]
  ·simp [putCells, h1, h2]
def cellsQ : Sq → Nat → Value
 | .ints l, t => .int .i64 (l.getD t 0)
 | .pairs l, t => .int .i64 (match t % 2 with | 0 => (l.getD (t / 2) (0, 0)).1 | _ => (l.getD (t / 2) (0, 0)).2)
 | _, _ => undef
def isIP : Sq → Bool
 | .ints _ | .pairs _ => true
 | _ => false
theorem cellsQ_rel {q : Sq} (hq : isIP q = true) {M : Mp} {A : Bool → Nat → Prop} {w : World} {i j : Nat} {d : D} (hi : i < q.len) (hd : (q.relem i)[j]? = some d) : VR M A w d (cellsQ q (i * q.sz + j)) := by
 cases q <;> first | (cases hq; done) | skip
 ·rename_i l
  rcases j with _ | j <;> simp [Sq.relem, Sq.elem] at hd
  subst hd
  simp only [cellsQ, Sq.sz, Nat.mul_one, Nat.add_zero]
  simp only [List.getD_eq_getElem?_getD]
  exact .int _
 ·rename_i l
  rcases j with _ | _ | j <;> simp [Sq.relem, Sq.elem] at hd
  ·subst hd
   have e1 : (i * 2 + 0) % 2 = 0 := by omega
   have e2 : (i * 2 + 0) / 2 = i := by omega
   simp only [cellsQ, Sq.sz, e1, e2]
   simp only [List.getD_eq_getElem?_getD]
   exact .int _
  ·subst hd
   have e1 : (i * 2 + (0 + 1)) % 2 = 1 := by omega
   have e2 : (i * 2 + (0 + 1)) / 2 = i := by omega
   simp only [cellsQ, Sq.sz, e1, e2]
   simp only [List.getD_eq_getElem?_getD]
   exact .int _
theorem VR.int_val {M : Mp} {A : Bool → Nat → Prop} {w : World} {n : Int} {v : Value} (h : VR M A w (.int n) v) : v = .int .i64 n := by cases h; rfl
theorem cellsQ_read {q : Sq} (hq : isIP q = true) {M : Mp} {A : Bool → Nat → Prop} {w : World} {f : Nat → Value} (h : ∀ i j d, i < q.len → (q.relem i)[j]? = some d → VR M A w d (f (i * q.sz + j))) {t : Nat} (ht : t < q.len * q.sz) : f t = cellsQ q t := by
 cases q <;> first | (cases hq; done) | skip
 ·rename_i l
  simp only [Sq.len, Sq.sz, Nat.mul_one] at ht h
  have := (h t 0 (.int (l.getD t 0)) ht (by simp [Sq.relem, Sq.elem, List.getD_eq_getElem?_getD])).int_val
  simpa [cellsQ] using this
 ·rename_i l
  simp only [Sq.len, Sq.sz] at ht h
  have h0 : t / 2 < l.length := by omega
  rcases (by omega : t % 2 = 0 ∨ t % 2 = 1) with e | e
  ·have := (h (t / 2) 0 (.int (l.getD (t / 2) (0, 0)).1) h0 (by simp [Sq.relem, Sq.elem, List.getD_eq_getElem?_getD])).int_val
   rw [show t / 2 * 2 + 0 = t by omega] at this
   rw [this]; simp [cellsQ, e]
  ·have := (h (t / 2) 1 (.int (l.getD (t / 2) (0, 0)).2) h0 (by simp [Sq.relem, Sq.elem, List.getD_eq_getElem?_getD])).int_val
   rw [show t / 2 * 2 + 1 = t by omega] at this
   rw [this]; simp [cellsQ, e]
structure Lays1 (P : Program) (f : FuncId) (vs : List Value) (q q' : Sq) : Prop where
 some_ : ∀ (blk cap : Nat) (w : World), (∀ t, t < q.len * q.sz → w.cell? ⟨blk, t, none⟩ = some (cellsQ q t) ∧ w.frozen? ⟨blk, t, none⟩ = false) → blk < w.heap.size → q.len ≤ maxLen →
  Calls P f (Value.slice (some ⟨blk, 0, none⟩) q.len cap :: vs).toArray w fun e w' => e = .returned (.tuple #[]) ∧ RowPut w w' blk (q'.len * q'.sz) (cellsQ q')
 none_ : q.len = 0 → ∀ (p : Option Addr) (cap : Nat) (w : World), Calls P f (Value.slice p 0 cap :: vs).toArray w fun e w' => e = .returned (.tuple #[]) ∧ w' = w
theorem mcall_lays {P : Program} {f : FuncId} (en : ∀ args w, (callFunc f args).run P w = .ok (.enter f args) w) {ds : List D} {vs : List Value} {e : TypeId} {q q' : Sq} (hq : isIP q = true) (hq' : isIP q' = true) (hl : q'.len = q.len) (hz : q'.sz = q.sz)
  (hvs : ds.length = vs.length) (hds : ∀ M A w i d v, ds[i]? = some d → VR M A w d v → vs.getD i undef = v) (hL : Lays1 P f vs q q') :
  MCall P f (.row 1000000 0 q.len :: ds) [1000000] [] [(e, q)] [(e, q')] [] [] (.tup []) := by
 have hrf : q'.refF = none := by cases q' <;> first | (cases hq'; done) | rfl
 refine ⟨en, ⟨rfl, rfl, rfl, rfl⟩, rfl, rfl, by simp [conR, hrf], rfl, ⟨rfl, rfl⟩, fun w N args A hA1 hA2 hM hargs => ?_⟩
 obtain ⟨ha, hv⟩ := hargs
 have h0 := hv 0 _ rfl
 have hargs' : args = (args.getD 0 undef :: vs).toArray := by
  apply Array.ext
  ·simpa [hvs] using ha
  ·intro i h1 h2
   rcases i with _ | i
   ·simp [Array.getD_eq_getD_getElem?, h1]
   ·have hi : i < vs.length := by simpa using h2
    have hi' : i < ds.length := by omega
    have := hds N A w i ds[i] _ (by simp [hi']) (hv (i + 1) ds[i] (by simp [hi']))
    rw [Array.getD_eq_getD_getElem?, Array.getElem?_eq_getElem h1] at this
    simp [List.getD_eq_getElem?_getD, hi] at this
    simp [this]
 have hrow := hM.row 1000000 e q (by rfl)
 have hvr : ∀ x, N.γ 1000000 = some x → RowV x 0 q.len (args.getD 0 undef) := by cases h0 with | row _ _ _ _ _ h => exact h
 have hγ : ∀ r, r ≠ 1000000 → N.γ r = none := fun r hr => hM.rown r (by
  show PS.r ⟨[], [(1000000, some (e, q))], []⟩ r = none
  unfold PS.r
  cases hb : Nat.ble BIG r with
  | true =>
   simp only [PS.inn]
   have : look [(1000000, some (e, q))] (FK + unF r) = none := by rw [look_cons_ne (by have : FK = 8589934592 := rfl; omega)]; rfl
   rw [this]; rfl
  | false => simp only; rw [look_cons_ne (Ne.symm hr)]; rfl)
 rcases hrow with ⟨hn, h00⟩ | ⟨g, cap, cur, hg, hblk, hlc, hcm, hcs, hcells⟩
 ·have hv2 := hvr _ hn
  obtain ⟨⟨ao, hv3⟩, h3, _⟩ := hv2
  rw [hargs', hv3]
  refine (hL.none_ h00 ao 0 w).mono ?_
  rintro x w' ⟨rfl, rfl⟩
  refine ⟨_, rfl, N, ⟨?_, hM.boxn, fun r e' q'' hr => ?_, fun r hr => ?_, hM.inj1, hM.inj2, hM.inj3⟩, fun _ => rfl, fun _ _ _ => rfl, fun k hk => .inl hk, rfl, rfl, rfl, Nat.le_refl _, fun _ _ _ => rfl, ?_⟩
  ·intro b cs hb; cases hb
  ·by_cases hr1 : r = 1000000
   ·subst hr1
    have : (e, q') = (e', q'') := by simpa [PS.r, asL, look_cons_self, show Nat.ble BIG 1000000 = false from rfl] using hr
    cases this
    exact .inl ⟨hn, by omega⟩
   ·exfalso
    have : PS.r ⟨[], [(1000000, some (e, q'))], []⟩ r = none := by
     unfold PS.r
     cases hb : Nat.ble BIG r with
     | true =>
      simp only [PS.inn]
      have : look [(1000000, some (e, q'))] (FK + unF r) = none := by rw [look_cons_ne (by have : FK = 8589934592 := rfl; omega)]; rfl
      rw [this]; rfl
     | false => simp only; rw [look_cons_ne (Ne.symm hr1)]; rfl
    have hr' : PS.r ⟨[], [(1000000, some (e, q'))], []⟩ r = some (e', q'') := hr
    rw [this] at hr'; cases hr'
  ·by_cases hr1 : r = 1000000
   ·subst hr1
    have hr' : PS.r ⟨[], [(1000000, some (e, q'))], []⟩ 1000000 = none := hr
    simp [PS.r, look_cons_self, show Nat.ble BIG 1000000 = false from rfl] at hr'
   ·exact hγ r hr1
  ·exact .tup [] #[] rfl (fun i d h => by simp at h)
 ·obtain ⟨_, ao, hv3, hao⟩ := hvr _ hg
  have hao' := hao (.inr rfl)
  subst hao'
  have hgs : g < w.heap.size := heap_lt hblk
  have hlen : q.len ≤ maxLen := Nat.le_trans hlc hcm
  rw [Nat.zero_mul] at hv3
  rw [hargs', hv3]
  have hsz : q.len * q.sz ≤ cur.size := by rw [hcs]; exact Nat.mul_le_mul_right _ hlc
  have hcq : ∀ t, t < q.len * q.sz → cur.getD t undef = cellsQ q t := fun t ht => cellsQ_read hq (f := fun t => cur.getD t undef) hcells ht
  refine (hL.some_ g (cap - 0) w (fun t ht => ?_) hgs hlen).mono ?_
  ·have h1 := hcq t ht
   have ht2 : t < cur.size := by omega
   rw [Array.getD_eq_getD_getElem?, Array.getElem?_eq_getElem ht2] at h1
   refine ⟨?_, by simp [World.frozen?, hblk]⟩
   simp only [World.cell?, hblk]
   simp only [Option.isSome_none, Bool.false_eq_true, if_false]
   rw [Array.getElem?_eq_getElem ht2]
   simpa using h1
  rintro x w' ⟨rfl, hP⟩
  obtain ⟨cur', hb', hs', hc'⟩ := hP.here _ _ _ hblk
  refine ⟨_, rfl, N, ⟨?_, hM.boxn, fun r e' q'' hr => ?_, fun r hr => ?_, hM.inj1, hM.inj2, hM.inj3⟩, fun _ => rfl, fun _ _ _ => rfl, fun k hk => .inl hk, hP.os, hP.tape, hP.output, hP.size, fun k hk hno => hP.else_ k hk fun e1 => hno (.inr ⟨1000000, cap, q.sz, by rw [hg, e1]⟩), ?_⟩
  ·intro b cs hb; cases hb
  ·by_cases hr1 : r = 1000000
   ·subst hr1
    have : (e, q') = (e', q'') := by simpa [PS.r, asL, look_cons_self, show Nat.ble BIG 1000000 = false from rfl] using hr
    cases this
    refine .inr ⟨g, cap, cur', by rw [hg, hz], hb', by omega, hcm, by rw [hs', hcs, hz], fun i j d hi hd => ?_⟩
    have hj : j < q'.sz := by
     cases q' <;> first | (cases hq'; done) | skip
     ·rcases j with _ | j <;> simp [Sq.relem, Sq.elem] at hd; simp [Sq.sz]
     ·rcases j with _ | _ | j <;> simp [Sq.relem, Sq.elem] at hd <;> simp [Sq.sz]
    have hin : i * q'.sz + j < q'.len * q'.sz := by
     have h5 := Nat.mul_le_mul_right q'.sz (show i + 1 ≤ q'.len from hi)
     rw [Nat.add_mul, Nat.one_mul] at h5; omega
    rw [hc' _ hin (by rw [hl, hz] at hin; rw [hz]; omega)]
    exact cellsQ_rel hq' hi hd
   ·exfalso
    have : PS.r ⟨[], [(1000000, some (e, q'))], []⟩ r = none := by
     unfold PS.r
     cases hb : Nat.ble BIG r with
     | true =>
      simp only [PS.inn]
      have : look [(1000000, some (e, q'))] (FK + unF r) = none := by rw [look_cons_ne (by have : FK = 8589934592 := rfl; omega)]; rfl
      rw [this]; rfl
     | false => simp only; rw [look_cons_ne (Ne.symm hr1)]; rfl
    have hr' : PS.r ⟨[], [(1000000, some (e, q'))], []⟩ r = some (e', q'') := hr
    rw [this] at hr'; cases hr'
  ·by_cases hr1 : r = 1000000
   ·subst hr1
    have hr' : PS.r ⟨[], [(1000000, some (e, q'))], []⟩ 1000000 = none := hr
    simp [PS.r, look_cons_self, show Nat.ble BIG 1000000 = false from rfl] at hr'
   ·exact hγ r hr1
  ·exact .tup [] #[] rfl (fun i d h => by simp at h)
end Go.Proofs.YtmoamglpocjhgaaGreat
namespace Go.Proofs.YtmoamglpocjhgaaGreat
open Go.RowKit Go.Deep Go.Sort Go.Shelf
def cmpZ (a b : Int) : Int := if a < b then -1 else if a > b then 1 else 0
def cmpB (x y : Int × Int) : Int := if cmpZ x.1 y.1 ≠ 0 then cmpZ x.1 y.1 else cmpZ x.2 y.2
def encB (x : Int × Int) : List Value := [.int .i64 x.1, .int .i64 x.2]
theorem ltB (x y : Int × Int) : ltOf cmpB x y = decide (x.1 < y.1 ∨ (x.1 = y.1 ∧ x.2 < y.2)) := by
 unfold ltOf cmpB cmpZ
 apply decide_eq_decide.2
 by_cases h1 : x.1 < y.1
 ·simp [h1]
 ·by_cases h2 : x.1 > y.1
  ·simp [h1, h2]; omega
  ·by_cases h3 : x.2 < y.2
   ·simp [h1, h2, h3]; omega
   ·by_cases h4 : x.2 > y.2
    ·simp [h1, h2, h3, h4]
    ·simp [h1, h2, h3, h4]
theorem swoB : SWO (ltOf cmpB) where
 irrefl x := by rw [ltB]; simp
 trans x y z h1 h2 := by rw [ltB] at *; simp at *; omega
 ntrans x y z h1 h2 := by rw [ltB] at *; simp at *; omega
theorem totB (x y : Int × Int) (h1 : ltOf cmpB x y = false) (h2 : ltOf cmpB y x = false) : x = y := by
 rw [ltB] at *; simp at *
 have e1 : x.1 = y.1 := by omega
 have e2 : x.2 = y.2 := by omega
 exact Prod.ext e1 e2
def layB_ren : Go.Shelf.Ren := ⟨fun | 6 => 77 | 15 => 97 | 14 => 103 | 28 => 124 | 29 => 125 | 20 => 132 | 21 => 133 | 22 => 134 | 23 => 135 | 24 => 136 | 25 => 137 | 26 => 138 | 27 => 139 | 46 => 156 | 47 => 146 | 48 => 147 | 49 => 157 | 50 => 158 | 57 => 176 | n => n, fun | 22 => 28 | 24 => 39 | 25 => 100 | 3 => 3 | 39 => 114 | 0 => 0 | 53 => 133 | 55 => 135 | 4 => 4 | 46 => 126 | 45 => 125 | 50 => 130 | 5 => 5 | 9 => 9 | 66 => 146 | 70 => 150 | 76 => 161 | 77 => 162 | n => n, fun | n => n⟩
theorem layB : Go.Proofs.SlLaysF0.n6 Tryz.prog layB_ren := {
 mixed := by kernel_rfl
 f6 := ⟨Tryz.f77.name, by decide, Tryz.func77.trans (congrArg some (by kernel_rfl))⟩
 f14 := ⟨Tryz.f103.name, by decide, Tryz.func103.trans (congrArg some (by kernel_rfl))⟩
 f15 := Tryz.func97.trans (congrArg some (by kernel_rfl))
 f20 := ⟨Tryz.f132.name, by decide, Tryz.func132.trans (congrArg some (by kernel_rfl))⟩
 f21 := ⟨Tryz.f133.name, by decide, Tryz.func133.trans (congrArg some (by kernel_rfl))⟩
 f22 := ⟨Tryz.f134.name, by decide, Tryz.func134.trans (congrArg some (by kernel_rfl))⟩
 f23 := ⟨Tryz.f135.name, by decide, Tryz.func135.trans (congrArg some (by kernel_rfl))⟩
 f24 := ⟨Tryz.f136.name, by decide, Tryz.func136.trans (congrArg some (by kernel_rfl))⟩
 f25 := ⟨Tryz.f137.name, by decide, Tryz.func137.trans (congrArg some (by kernel_rfl))⟩
 f26 := ⟨Tryz.f138.name, by decide, Tryz.func138.trans (congrArg some (by kernel_rfl))⟩
 f27 := ⟨Tryz.f139.name, by decide, Tryz.func139.trans (congrArg some (by kernel_rfl))⟩
 f28 := Tryz.func124.trans (congrArg some (by kernel_rfl))
 f29 := Tryz.func125.trans (congrArg some (by kernel_rfl))
 f46 := ⟨Tryz.f156.name, by decide, Tryz.func156.trans (congrArg some (by kernel_rfl))⟩
 f47 := Tryz.func146.trans (congrArg some (by kernel_rfl))
 f48 := Tryz.func147.trans (congrArg some (by kernel_rfl))
 f49 := ⟨Tryz.f157.name, by decide, Tryz.func157.trans (congrArg some (by kernel_rfl))⟩
 f50 := ⟨Tryz.f158.name, by decide, Tryz.func158.trans (congrArg some (by kernel_rfl))⟩
 f57 := ⟨Tryz.f176.name, by decide, Tryz.func176.trans (congrArg some (by kernel_rfl))⟩
 t0 := Tryz.underlying0
 a0 := Tryz.isAgg0
 z0 := Tryz.sizeOf0
 v0 := Tryz.zeroValue0
 t3 := Tryz.underlying3
 a3 := Tryz.isAgg3
 z3 := Tryz.sizeOf3
 v3 := Tryz.zeroValue3
 t4 := Tryz.underlying4
 a4 := Tryz.isAgg4
 z4 := Tryz.sizeOf4
 v4 := Tryz.zeroValue4
 t5 := Tryz.underlying5
 a5 := Tryz.isAgg5
 z5 := Tryz.sizeOf5
 v5 := Tryz.zeroValue5
 t9 := Tryz.underlying9
 a9 := Tryz.isAgg9
 z9 := Tryz.sizeOf9
 v9 := Tryz.zeroValue9
 t22 := Tryz.underlying28
 a22 := Tryz.isAgg28
 z22 := Tryz.sizeOf28
 v22 := Tryz.zeroValue28
 t25 := Tryz.underlying100
 a25 := Tryz.isAgg100
 z25 := Tryz.sizeOf100
 v25 := Tryz.zeroValue100
 t39 := Tryz.underlying114
 a39 := Tryz.isAgg114
 z39 := Tryz.sizeOf114
 v39 := Tryz.zeroValue114
 t45 := Tryz.underlying125
 a45 := Tryz.isAgg125
 z45 := Tryz.sizeOf125
 v45 := Tryz.zeroValue125
 t46 := Tryz.underlying126
 a46 := Tryz.isAgg126
 z46 := Tryz.sizeOf126
 v46 := Tryz.zeroValue126
 t50 := Tryz.underlying130
 a50 := Tryz.isAgg130
 z50 := Tryz.sizeOf130
 v50 := Tryz.zeroValue130
 t53 := Tryz.underlying133
 a53 := Tryz.isAgg133
 z53 := Tryz.sizeOf133
 v53 := Tryz.zeroValue133
 t55 := Tryz.underlying135
 a55 := Tryz.isAgg135
 z55 := Tryz.sizeOf135
 v55 := Tryz.zeroValue135
 t66 := Tryz.underlying146
 a66 := Tryz.isAgg146
 z66 := Tryz.sizeOf146
 v66 := Tryz.zeroValue146
 t70 := Tryz.underlying150
 a70 := Tryz.isAgg150
 z70 := Tryz.sizeOf150
 v70 := Tryz.zeroValue150
 t76 := Tryz.underlying161
 a76 := Tryz.isAgg161
 z76 := Tryz.sizeOf161
 v76 := Tryz.zeroValue161
 t77 := Tryz.underlying162
 a77 := Tryz.isAgg162
 z77 := Tryz.sizeOf162
 v77 := Tryz.zeroValue162 }
set_option maxHeartbeats 1000000 in
theorem cmpInts_c (x y : Int) (W : World) : Calls Tryz.prog 58 #[.int .i64 x, .int .i64 y] W fun e w' => e = .returned (.int .i64 (cmpZ x y)) ∧ w' = W := by
 unfold cmpZ
 go_enter Tryz.func58, Tryz.ntmps58
 go_wp2
 all_goals (go_ret; exact ⟨rfl, rfl⟩)
set_option maxHeartbeats 1000000 in
theorem cmpBars_c (x y : Int × Int) (W : World) : Calls Tryz.prog 78 #[.agg #[.int .i64 x.1, .int .i64 x.2], .agg #[.int .i64 y.1, .int .i64 y.2]] W fun e w' => e = .returned (.int .i64 (cmpB x y)) ∧ ∃ q os', w' = grow (W.drewN q) os' := by
 have hcon := fun a b W' => cmpInts_c a b W'
 unfold cmpB
 generalize cmpZ = Z at hcon ⊢
 go_enter Tryz.func78, Tryz.ntmps78
 go_wp2_with (go_at_call 58; refine (hcon _ _ _).mono ?_; rintro e w' ⟨rfl, rfl⟩)
 all_goals first
  | (go_ret; exact ⟨rfl, 0, _, by rw [alloc_eq_grow, alloc_eq_grow, grow_grow]; rfl⟩)
  | (exfalso; simp_all; done)
def srtB (l : List (Int × Int)) : List (Int × Int) := l.mergeSort fun x y => !(ltOf cmpB) y x
theorem srtB_len (l : List (Int × Int)) : (srtB l).length = l.length := by simp [srtB]
def G_SortFunc_Bar (N : Nat) (a_0 : List (Int × Int)) : Option (List (Int × Int)) :=
 grd (a_0.length < 4611686018427387904) (some (srtB a_0))
theorem flatB (l : List (Int × Int)) {t : Nat} (ht : t < l.length * 2) : (flatK encB 2 l.toArray)[t]! = cellsQ (.pairs l) t := by
 have h1 : t / 2 < l.length := by omega
 rw [get_flatK encB 2 l.toArray t (by simpa using ht)]
 have e : l.toArray[t / 2]! = l.getD (t / 2) (0, 0) := by
  rw [getElem!_pos l.toArray (t / 2) (by simpa using h1), List.getD_eq_getElem?_getD, List.getElem?_eq_getElem h1]; rfl
 rw [e]
 rcases (by omega : t % 2 = 0 ∨ t % 2 = 1) with h | h <;> rw [h] <;> simp [cellsQ, encB, h]
theorem lays_bars (l : List (Int × Int)) (hl2 : l.length < 4611686018427387904) : Lays1 Tryz.prog 77 [.func (.func 78) #[] #[]] (.pairs l) (.pairs (srtB l)) := by
 refine ⟨fun blk cap w hc hb hl => ?_, fun h p cap w => ?_⟩
 ·have hH : HoldsK encB 2 w blk 0 l.toArray := fun j hj => by
   have hj' : j < l.length * 2 := by simpa using hj
   have := hc j hj'
   simp only [Nat.zero_add]
   refine ⟨?_, this.2⟩
   rw [this.1, ← flatB l hj']; rfl
  have hcon := AnyQ.slices_SortFunc_total layB 2 Tryz.isAgg39 Tryz.sizeOf39 encB (fun _ => rfl) (fun x v hv => by simp [encB] at hv; rcases hv with rfl | rfl <;> rfl) cmpB swoB 78 #[] blk 0 cap l.toArray w (enters_of Tryz.func78 (by kernel_rfl) rfl) (fun _ _ _ _ x y => cmpBars_c x y _) hH hb (by simpa using hl2) totB
  refine hcon.mono ?_
  rintro e w' ⟨rfl, n, os, rfl⟩
  refine ⟨rfl, ?_⟩
  have h := rowPut_of (enc := id) (w := w) (blk := blk) (n := n) (d := flatK encB 2 (srtB l).toArray) (os := os)
  refine h.to (by simp [Sq.len, Sq.sz]) fun t ht => ?_
  have ht' : t < (srtB l).length * 2 := by simpa using ht
  exact flatB (srtB l) ht'
 ·have := AnyF.slices_SortFunc_none { layB with } p cap (.func (.func 78) #[] #[]) w
  exact this
theorem G_SortFunc_Bar_w (N : Nat) (a_0 : List (Int × Int)) (r : List (Int × Int)) (h : G_SortFunc_Bar N a_0 = some r) : MCall Tryz.prog 77 [.row 1000000 0 a_0.length, .val (.func (.func 78) #[] #[])] [1000000] [] [(39, .pairs a_0)] [(39, .pairs r)] [] [] (.tup []) := by
 obtain ⟨h2, h⟩ := grd_inv h
 cases h
 exact mcall_lays (q := .pairs a_0) (q' := .pairs (srtB a_0)) (ds := [.val (.func (.func 78) #[] #[])]) (vs := [.func (.func 78) #[] #[]]) (enters_of Tryz.func77 (by kernel_rfl) rfl) rfl rfl (by show (srtB a_0).length = a_0.length; rw [srtB_len]) rfl rfl (fun M A w i d v h hv => by
  rcases i with _ | i
  ·simp at h; subst h; cases hv; rfl
  ·simp at h) (lays_bars a_0 h2)
end Go.Proofs.YtmoamglpocjhgaaGreat
namespace Go.Proofs.YtmoamglpocjhgaaGreat
open Go.RowKit
def I_withBars (N : Nat) (g_0 : Grf) (l_1 : List (Int × Int)) : Option (Grf) :=
 (I_copyGraph N g_0).bind fun v1 =>
 grd (v1.bars.length + l_1.length ≤ 4294967296) <|
 (G_SortFunc_Bar N (v1.bars ++ l_1)).bind fun v2 =>
 grd ((v1.bars ++ l_1).length = v2.length) <|
 some (⟨v1.n, v2⟩ : Grf)
set_option maxRecDepth 20000 in
set_option maxHeartbeats 1600000 in
theorem I_withBars_w (N : Nat) (g_0 : Grf) (l_1 : List (Int × Int)) (r : Grf) (h : I_withBars N g_0 l_1 = some r) : PCall Tryz.prog 46 [gD g_0, .ro false (.pairs l_1)] [(39, .pairs r.bars)] (.agg [.int r.n, .row 0 0 r.bars.length]) := by
 unfold I_withBars at h
 refine pcall_intro (TT := TT) tt Tryz.func46 rfl rfl Tryz.ntmps46 (congrArg Array.toList Tryz.results46) rfl rfl fun w0 => ?_
 refine vSeq ?_
 refine vRegion ?_
 refine oBox rfl rfl rfl rfl rfl rfl rfl rfl rfl ?_
 refine oAlloc tt rfl rfl rfl rfl rfl rfl rfl rfl rfl ?_
 refine vNil ?_
 change VC _ _ _ _
 refine vSeq ?_
 refine vRegion ?_
 refine oVal tt rfl rfl rfl rfl rfl trivial ?_
 obtain ⟨v1, hc1, h⟩ := bind_inv h
 refine oCall (I_copyGraph_w N g_0 v1 hc1) rfl rfl rfl rfl rfl rfl rfl rfl ⟨⟨rfl, rfl, trivial⟩, trivial⟩ ?_
 refine oAlloc tt rfl rfl rfl rfl rfl rfl rfl rfl rfl ?_
 refine oStore tt rfl rfl rfl rfl rfl rfl rfl rfl rfl rfl rfl ⟨trivial, trivial, trivial⟩ ?_
 refine vNil ?_
 change VC _ _ _ _
 refine vSeq ?_
 refine vRegion ?_
 iterate 3 refine oVal tt rfl rfl rfl rfl rfl trivial ?_
 obtain ⟨hg2, h⟩ := grd_inv h
 refine oAppend tt rfl rfl rfl rfl rfl rfl rfl rfl rfl rfl rfl rfl rfl rfl rfl rfl trivial hg2 ?_
 refine oVal tt rfl rfl rfl rfl rfl trivial ?_
 refine oStore tt rfl rfl rfl rfl rfl rfl rfl rfl rfl rfl rfl ⟨trivial, trivial⟩ ?_
 refine vNil ?_
 change VC _ _ _ _
 refine vSeq ?_
 refine vRegion ?_
 iterate 2 refine oVal tt rfl rfl rfl rfl rfl trivial ?_
 obtain ⟨v2, hc3, h⟩ := bind_inv h
 refine oMCall (G_SortFunc_Bar_w N (v1.bars ++ l_1) v2 hc3) [1070] [] [1070] rfl rfl rfl rfl rfl rfl ⟨rfl, trivial⟩ trivial ⟨⟨rfl, rfl⟩, ⟨rfl, rfl⟩, trivial⟩ ?_
 refine vNil ?_
 change VC _ _ _ _
 refine vSeq ?_
 refine vRegion ?_
 refine oVal tt rfl rfl rfl rfl rfl trivial ?_
 refine oStore tt rfl rfl rfl rfl rfl rfl rfl rfl rfl rfl rfl ⟨trivial, trivial, trivial⟩ ?_
 refine vNil ?_
 change VC _ _ _ _
 obtain ⟨hg4, h⟩ := grd_inv h
 refine vRet ?_
 change ∃ _, _
 cases h
 exact ⟨[1070], _, rfl, ⟨rfl, trivial⟩, rfl, (.eq (by simp only [hg4]; rfl)), rfl⟩
def I_AnchoredGraph_l2 (N : Nat) (g_0 : Grf) (anchors_1 : List Int) (x119 : Int) (k : ((List (Int × Int)) × Int) → Option (Grf × Bool)) : Nat → ((List (Int × Int)) × Int × Int) → Option (Grf × Bool)
 | 0, _ => none
 | n + 1, (l166, x167, c168) =>
  cnd (decide (x167 < (((anchors_1.take anchors_1.length).drop (((x119 + (1 : Int))).toNat)).length : Int))) (
   grd (0 ≤ x167 ∧ x167 < (((anchors_1.take anchors_1.length).drop (((x119 + (1 : Int))).toNat)).length : Int)) <|
   (I_CountBar N g_0 (anchors_1.getD ((x119).toNat) 0) (((anchors_1.take anchors_1.length).drop (((x119 + (1 : Int))).toNat)).getD ((x167).toNat) 0)).bind fun v172 =>
   cnd (v172 == (0 : Int)) (
    (I_bar N (anchors_1.getD ((x119).toNat) 0) (((anchors_1.take anchors_1.length).drop (((x119 + (1 : Int))).toNat)).getD ((x167).toNat) 0)).bind fun v173 =>
    (I_withBars N (⟨c168, l166⟩ : Grf) ([(v173.1, v173.2)] : List (Int × Int))).bind fun v174 =>
    grd (Rg64 (x167 + (1 : Int))) <|
    I_AnchoredGraph_l2 N g_0 anchors_1 x119 k n (v174.bars, (x167 + (1 : Int)), v174.n)) (
    grd (Rg64 (x167 + (1 : Int))) <|
    I_AnchoredGraph_l2 N g_0 anchors_1 x119 k n (l166, (x167 + (1 : Int)), c168))) (
   k (l166, c168))
def I_AnchoredGraph_l1 (N : Nat) (g_0 : Grf) (anchors_1 : List Int) (k : ((List (Int × Int)) × Int) → Option (Grf × Bool)) : Nat → ((List (Int × Int)) × Int × Int) → Option (Grf × Bool)
 | 0, _ => none
 | n + 1, (l118, x119, c120) =>
  cnd (decide (x119 < (anchors_1.length : Int))) (
   grd (0 ≤ x119 ∧ x119 < (anchors_1.length : Int)) <|
   grd (Rg64 (x119 + (1 : Int))) <|
   grd (0 ≤ (x119 + (1 : Int)) ∧ (x119 + (1 : Int)) ≤ (anchors_1.length : Int)) <|
   I_AnchoredGraph_l2 N g_0 anchors_1 x119 (fun (x : (List (Int × Int)) × Int) =>
     match x with
     | (l160, c161) =>
      I_AnchoredGraph_l1 N g_0 anchors_1 k n (l160, (x119 + (1 : Int)), c161)) N (l118, (0 : Int), c120)) (
   k (l118, c120))
def I_AnchoredGraph (N : Nat) (g_0 : Grf) (anchors_1 : List Int) : Option (Grf × Bool) :=
 (I_areAnchors N g_0 anchors_1).bind fun v1 =>
 cnd (!v1) (
  some ((⟨(0 : Int), ([] : List (Int × Int))⟩ : Grf), false)) (
  (I_copyGraph N g_0).bind fun v2 =>
  I_AnchoredGraph_l1 N g_0 anchors_1 (fun (x : (List (Int × Int)) × Int) =>
    match x with
    | (l87, c88) =>
     (I_IsGraph N (⟨c88, l87⟩ : Grf)).bind fun v89 =>
     cnd (!v89) (
      some ((⟨(0 : Int), ([] : List (Int × Int))⟩ : Grf), false)) (
      some ((⟨c88, l87⟩ : Grf), true))) N (v2.bars, (0 : Int), v2.n))
set_option maxRecDepth 20000 in
set_option maxHeartbeats 1600000 in
theorem I_AnchoredGraph_w (N : Nat) (g_0 : Grf) (anchors_1 : List Int) (r : Grf × Bool) (h : I_AnchoredGraph N g_0 anchors_1 = some r) : PCall Tryz.prog 36 [gD g_0, .ro false (.ints anchors_1)] [(39, .pairs r.1.bars)] (.tup [.agg [.int r.1.n, .row 0 0 r.1.bars.length], .bool r.2]) := by
 unfold I_AnchoredGraph at h
 refine pcall_intro (TT := TT) tt Tryz.func36 rfl rfl Tryz.ntmps36 (congrArg Array.toList Tryz.results36) rfl rfl fun w0 => ?_
 refine vSeq ?_
 refine vRegion ?_
 refine oBox rfl rfl rfl rfl rfl rfl rfl rfl rfl ?_
 refine oAlloc tt rfl rfl rfl rfl rfl rfl rfl rfl rfl ?_
 refine oVal tt rfl rfl rfl rfl rfl trivial ?_
 refine vNil ?_
 change VC _ _ _ _
 iterate 2 refine vSeq ?_
 refine vRegion ?_
 iterate 2 refine oVal tt rfl rfl rfl rfl rfl trivial ?_
 obtain ⟨v1, hc1, h⟩ := bind_inv h
 refine oCall (I_areAnchors_w N g_0 anchors_1 v1 hc1) rfl rfl rfl rfl rfl rfl rfl rfl ⟨⟨rfl, rfl, trivial⟩, rfl, trivial⟩ ?_
 refine oVal tt rfl rfl rfl rfl rfl trivial ?_
 refine vNil ?_
 change VC _ _ _ _
 refine vCond rfl (fun hb2 => ?_) (fun hb2 => ?_)
 ·replace h := cnd_t hb2 h
  refine vSeq ?_
  refine vRegion ?_
  refine oPure (wNone rfl) (pBuild bld_impl_Graph rfl rfl) rfl rfl ?_
  refine oStore tt rfl rfl rfl rfl rfl rfl rfl rfl rfl rfl rfl ⟨trivial, trivial, trivial⟩ ?_
  refine oVal tt rfl rfl rfl rfl rfl trivial ?_
  refine vNil ?_
  change VC _ _ _ _
  refine vNilB 4 1 9001 39 (.pairs []) rfl rfl rfl rfl rfl ?_
  refine vRet ?_
  change ∃ _, _
  cases h
  exact ⟨[9001], _, rfl, ⟨rfl, trivial⟩, rfl, (.eq rfl), rfl⟩
 ·replace h := cnd_f hb2 h
  refine vSkip ?_
  change VC _ _ _ _
  refine vSeq ?_
  refine vRegion ?_
  refine oVal tt rfl rfl rfl rfl rfl trivial ?_
  obtain ⟨v2, hc3, h⟩ := bind_inv h
  refine oCall (I_copyGraph_w N g_0 v2 hc3) rfl rfl rfl rfl rfl rfl rfl rfl ⟨⟨rfl, rfl, trivial⟩, trivial⟩ ?_
  refine oAlloc tt rfl rfl rfl rfl rfl rfl rfl rfl rfl ?_
  refine oStore tt rfl rfl rfl rfl rfl rfl rfl rfl rfl rfl rfl ⟨trivial, trivial, trivial⟩ ?_
  refine vNil ?_
  change VC _ _ _ _
  iterate 2 refine vSeq ?_
  refine vRegion ?_
  iterate 3 refine oVal tt rfl rfl rfl rfl rfl trivial ?_
  refine vNil ?_
  change VC _ _ _ _
  refine vJoin (F := fun k => I_AnchoredGraph_l1 N g_0 anchors_1 k) h (α := (List (Int × Int)) × Int) (J := fun | (l87, c88) => (⟨[(4, .ptr 4 0), (6, .ptr 6 0)], [(1170, some (39, .pairs l87))], [(4, some [.int (0 : Int), .nil]), (6, some [.int c88, .row 1170 0 l87.length])]⟩ : PS)) ?_ ?_
  ·rintro ⟨l87, c88⟩ h
   show VC _ _ _ (⟨[(4, .ptr 4 0), (6, .ptr 6 0)], [(1170, some (39, .pairs l87))], [(4, some [.int (0 : Int), .nil]), (6, some [.int c88, .row 1170 0 l87.length])]⟩ : PS)
   iterate 2 refine vSeq ?_
   refine vRegion ?_
   refine oVal tt rfl rfl rfl rfl rfl trivial ?_
   obtain ⟨v89, hc4, h⟩ := bind_inv h
   refine oCall (I_IsGraph_w N (⟨c88, l87⟩ : Grf) v89 hc4) rfl rfl rfl rfl rfl rfl rfl rfl ⟨⟨rfl, (.inl ⟨rfl, rfl⟩), trivial⟩, trivial⟩ ?_
   refine oVal tt rfl rfl rfl rfl rfl trivial ?_
   refine vNil ?_
   change VC _ _ _ _
   refine vCond rfl (fun hb5 => ?_) (fun hb5 => ?_)
   ·replace h := cnd_t hb5 h
    refine vSeq ?_
    refine vRegion ?_
    refine oPure (wNone rfl) (pBuild bld_impl_Graph rfl rfl) rfl rfl ?_
    refine oStore tt rfl rfl rfl rfl rfl rfl rfl rfl rfl rfl rfl ⟨trivial, trivial, trivial⟩ ?_
    refine oVal tt rfl rfl rfl rfl rfl trivial ?_
    refine vNil ?_
    change VC _ _ _ _
    refine vNilB 4 1 9001 39 (.pairs []) rfl rfl rfl rfl rfl ?_
    refine vRet ?_
    change ∃ _, _
    cases h
    exact ⟨[9001], _, rfl, ⟨rfl, trivial⟩, rfl, (.eq rfl), rfl⟩
   ·replace h := cnd_f hb5 h
    refine vSkip ?_
    change VC _ _ _ _
    refine vSeq ?_
    refine vRegion ?_
    refine oVal tt rfl rfl rfl rfl rfl trivial ?_
    refine oStore tt rfl rfl rfl rfl rfl rfl rfl rfl rfl rfl rfl ⟨trivial, trivial, trivial⟩ ?_
    refine oVal tt rfl rfl rfl rfl rfl trivial ?_
    refine vNil ?_
    change VC _ _ _ _
    refine vRet ?_
    change ∃ _, _
    cases h
    exact ⟨[1170], _, rfl, ⟨rfl, trivial⟩, rfl, (.eq rfl), rfl⟩
  ·intro k h
   refine vBlock ?_
   refine vLoopS (α := (List (Int × Int)) × Int × Int) (fun | (l118, x119, c120) => (⟨[(1, .ro false (.ints anchors_1)), (2, .ptr 2 0), (4, .ptr 4 0), (6, .ptr 6 0), (18, .ro false (.ints anchors_1)), (19, .int (anchors_1.length : Int)), (20, .int x119)], [(1170, some (39, .pairs l118))], [(2, some [.int g_0.n, .ro false (.pairs g_0.bars)]), (4, some [.int (0 : Int), .nil]), (6, some [.int c120, .row 1170 0 l118.length])]⟩ : PS)) (I_AnchoredGraph_l1 N g_0 anchors_1 k) h (En.of ⟨rfl, rfl, rfl, rfl, rfl, rfl, rfl, trivial⟩ ⟨rfl, trivial⟩ ⟨rfl, rfl, rfl, trivial⟩) (fun _ => rfl) ?_
   rintro n ⟨l118, x119, c120⟩ h
   rw [I_AnchoredGraph_l1] at h
   show VC _ _ _ (⟨[(1, .ro false (.ints anchors_1)), (2, .ptr 2 0), (4, .ptr 4 0), (6, .ptr 6 0), (18, .ro false (.ints anchors_1)), (19, .int (anchors_1.length : Int)), (20, .int x119)], [(1170, some (39, .pairs l118))], [(2, some [.int g_0.n, .ro false (.pairs g_0.bars)]), (4, some [.int (0 : Int), .nil]), (6, some [.int c120, .row 1170 0 l118.length])]⟩ : PS)
   refine vSeq ?_
   refine vRegion ?_
   refine oVal tt rfl rfl rfl rfl rfl trivial ?_
   refine vNil ?_
   change VC _ _ _ _
   refine vSeq ?_
   refine vCond rfl (fun hb6 => ?_) (fun hb6 => ?_)
   ·replace h := cnd_t hb6 h
    refine vSkip ?_
    change VC _ _ _ _
    refine vSeq ?_
    refine vBlock ?_
    refine vSeq ?_
    refine vRegion ?_
    refine oVal tt rfl rfl rfl rfl rfl trivial ?_
    obtain ⟨hg7, h⟩ := grd_inv h
    refine oVal tt rfl rfl rfl rfl rfl hg7 ?_
    iterate 3 refine oVal tt rfl rfl rfl rfl rfl trivial ?_
    refine vNil ?_
    change VC _ _ _ _
    refine vSeq ?_
    refine vRegion ?_
    iterate 2 refine oVal tt rfl rfl rfl rfl rfl trivial ?_
    obtain ⟨hg8, h⟩ := grd_inv h
    refine oVal tt rfl rfl rfl rfl rfl hg8 ?_
    obtain ⟨hg9, h⟩ := grd_inv h
    refine oVal tt rfl rfl rfl rfl rfl hg9 ?_
    iterate 2 refine oVal tt rfl rfl rfl rfl rfl trivial ?_
    refine vNil ?_
    change VC _ _ _ _
    refine vJoin (F := fun k => I_AnchoredGraph_l2 N g_0 anchors_1 x119 k) h (α := (List (Int × Int)) × Int) (J := fun | (l160, c161) => (⟨[(1, .ro false (.ints anchors_1)), (2, .ptr 2 0), (4, .ptr 4 0), (6, .ptr 6 0), (18, .ro false (.ints anchors_1)), (19, .int (anchors_1.length : Int)), (20, .int x119)], [(1170, some (39, .pairs l160))], [(2, some [.int g_0.n, .ro false (.pairs g_0.bars)]), (4, some [.int (0 : Int), .nil]), (6, some [.int c161, .row 1170 0 l160.length])]⟩ : PS)) ?_ ?_
    ·rintro ⟨l160, c161⟩ h
     show VC _ _ _ (⟨[(1, .ro false (.ints anchors_1)), (2, .ptr 2 0), (4, .ptr 4 0), (6, .ptr 6 0), (18, .ro false (.ints anchors_1)), (19, .int (anchors_1.length : Int)), (20, .int x119)], [(1170, some (39, .pairs l160))], [(2, some [.int g_0.n, .ro false (.pairs g_0.bars)]), (4, some [.int (0 : Int), .nil]), (6, some [.int c161, .row 1170 0 l160.length])]⟩ : PS)
     refine vRegion ?_
     refine oVal tt rfl rfl rfl rfl rfl hg8 ?_
     refine oVal tt rfl rfl rfl rfl rfl trivial ?_
     refine vNil ?_
     change ∃ _, _
     exact ⟨(l160, (x119 + (1 : Int)), c161), (En.of ⟨rfl, rfl, rfl, rfl, rfl, rfl, rfl, trivial⟩ ⟨rfl, trivial⟩ ⟨rfl, rfl, rfl, trivial⟩), h⟩
    ·intro k h
     refine vBlock ?_
     refine vLoopS (α := (List (Int × Int)) × Int × Int) (fun | (l166, x167, c168) => (⟨[(1, .ro false (.ints anchors_1)), (2, .ptr 2 0), (4, .ptr 4 0), (6, .ptr 6 0), (8, .int (anchors_1.getD ((x119).toNat) 0)), (18, .ro false (.ints anchors_1)), (19, .int (anchors_1.length : Int)), (20, .int x119), (28, .ro false (.ints ((anchors_1.take anchors_1.length).drop (((x119 + (1 : Int))).toNat)))), (29, .int (((anchors_1.take anchors_1.length).drop (((x119 + (1 : Int))).toNat)).length : Int)), (30, .int x167)], [(1170, some (39, .pairs l166))], [(2, some [.int g_0.n, .ro false (.pairs g_0.bars)]), (4, some [.int (0 : Int), .nil]), (6, some [.int c168, .row 1170 0 l166.length])]⟩ : PS)) (I_AnchoredGraph_l2 N g_0 anchors_1 x119 k) h (En.of ⟨rfl, rfl, rfl, rfl, rfl, rfl, rfl, rfl, rfl, rfl, rfl, trivial⟩ ⟨rfl, trivial⟩ ⟨rfl, rfl, rfl, trivial⟩) (fun _ => rfl) ?_
     rintro n ⟨l166, x167, c168⟩ h
     rw [I_AnchoredGraph_l2] at h
     show VC _ _ _ (⟨[(1, .ro false (.ints anchors_1)), (2, .ptr 2 0), (4, .ptr 4 0), (6, .ptr 6 0), (8, .int (anchors_1.getD ((x119).toNat) 0)), (18, .ro false (.ints anchors_1)), (19, .int (anchors_1.length : Int)), (20, .int x119), (28, .ro false (.ints ((anchors_1.take anchors_1.length).drop (((x119 + (1 : Int))).toNat)))), (29, .int (((anchors_1.take anchors_1.length).drop (((x119 + (1 : Int))).toNat)).length : Int)), (30, .int x167)], [(1170, some (39, .pairs l166))], [(2, some [.int g_0.n, .ro false (.pairs g_0.bars)]), (4, some [.int (0 : Int), .nil]), (6, some [.int c168, .row 1170 0 l166.length])]⟩ : PS)
     refine vSeq ?_
     refine vRegion ?_
     refine oVal tt rfl rfl rfl rfl rfl trivial ?_
     refine vNil ?_
     change VC _ _ _ _
     refine vSeq ?_
     refine vCond rfl (fun hb10 => ?_) (fun hb10 => ?_)
     ·replace h := cnd_t hb10 h
      refine vSkip ?_
      change VC _ _ _ _
      refine vSeq ?_
      refine vBlock ?_
      refine vSeq ?_
      refine vRegion ?_
      obtain ⟨hg11, h⟩ := grd_inv h
      refine oVal tt rfl rfl rfl rfl rfl hg11 ?_
      iterate 2 refine oVal tt rfl rfl rfl rfl rfl trivial ?_
      refine vNil ?_
      change VC _ _ _ _
      refine vSeq ?_
      refine vRegion ?_
      iterate 3 refine oVal tt rfl rfl rfl rfl rfl trivial ?_
      obtain ⟨v172, hc12, h⟩ := bind_inv h
      refine oCall (I_CountBar_w N g_0 (anchors_1.getD ((x119).toNat) 0) (((anchors_1.take anchors_1.length).drop (((x119 + (1 : Int))).toNat)).getD ((x167).toNat) 0) v172 hc12) rfl rfl rfl rfl rfl rfl rfl rfl ⟨⟨rfl, rfl, trivial⟩, rfl, rfl, trivial⟩ ?_
      refine oVal tt rfl rfl rfl rfl rfl trivial ?_
      refine vNil ?_
      change VC _ _ _ _
      refine vCond rfl (fun hb13 => ?_) (fun hb13 => ?_)
      ·replace h := cnd_t hb13 h
       refine vRegionN 5 [4] [0, 0, 0, 6, 14, 31, 63] (by kernel_rfl) (by kernel_rfl) (by kernel_rfl) (by kernel_rfl) (by kernel_rfl) rfl (by rfl) ?_
       iterate 3 refine nVal tt rfl (wNone rfl) rfl rfl rfl rfl rfl trivial ?_
       obtain ⟨v173, hc14, h⟩ := bind_inv h
       refine nCall (I_bar_w N (anchors_1.getD ((x119).toNat) 0) (((anchors_1.take anchors_1.length).drop (((x119 + (1 : Int))).toNat)).getD ((x167).toNat) 0) v173 hc14) rfl (wNone rfl) rfl rfl rfl rfl rfl rfl rfl rfl ⟨rfl, rfl, trivial⟩ ?_
       refine nBuild tt (wNone rfl) rfl rfl rfl rfl rfl rfl rfl rfl rfl rfl rfl rfl ?_
       refine nNil ?_
       change VO _ _ _ _ _
       obtain ⟨v174, hc15, h⟩ := bind_inv h
       refine oCall (I_withBars_w N (⟨c168, l166⟩ : Grf) ([(v173.1, v173.2)] : List (Int × Int)) v174 hc15) rfl rfl rfl rfl rfl rfl rfl rfl ⟨⟨rfl, (.inl ⟨rfl, rfl⟩), trivial⟩, (.inl ⟨rfl, rfl⟩), trivial⟩ ?_
       refine oStore tt rfl rfl rfl rfl rfl rfl rfl rfl rfl rfl rfl ⟨trivial, trivial, trivial⟩ ?_
       refine vNil ?_
       change VC _ _ _ _
       refine vRegion ?_
       obtain ⟨hg16, h⟩ := grd_inv h
       refine oVal tt rfl rfl rfl rfl rfl hg16 ?_
       refine oVal tt rfl rfl rfl rfl rfl trivial ?_
       refine vNil ?_
       change ∃ _, _
       exact ⟨(v174.bars, (x167 + (1 : Int)), v174.n), (En.ren [1170] [1440] rfl ⟨.inr rfl, .inr rfl, .inr rfl, .inr rfl, .inr rfl, .inr rfl, .inr rfl, .inr rfl, .inr rfl, .inr rfl, .inr rfl, trivial⟩ ⟨.inr rfl, trivial⟩ ⟨.inr ⟨_, _, rfl, rfl, ⟨.inr rfl, .inr rfl, trivial⟩⟩, .inr ⟨_, _, rfl, rfl, ⟨.inr rfl, .inr rfl, trivial⟩⟩, .inr ⟨_, _, rfl, rfl, ⟨.inr rfl, .inr rfl, trivial⟩⟩, trivial⟩), h⟩
      ·replace h := cnd_f hb13 h
       refine vSkip ?_
       change VC _ _ _ _
       refine vRegion ?_
       obtain ⟨hg17, h⟩ := grd_inv h
       refine oVal tt rfl rfl rfl rfl rfl hg17 ?_
       refine oVal tt rfl rfl rfl rfl rfl trivial ?_
       refine vNil ?_
       change ∃ _, _
       exact ⟨(l166, (x167 + (1 : Int)), c168), (En.of ⟨rfl, rfl, rfl, rfl, rfl, rfl, rfl, rfl, rfl, rfl, rfl, trivial⟩ ⟨rfl, trivial⟩ ⟨rfl, rfl, rfl, trivial⟩), h⟩
     ·replace h := cnd_f hb10 h
      refine vExit ?_
      change ∃ _, _
      exact ⟨(l166, c168), (En.of ⟨rfl, rfl, rfl, rfl, rfl, rfl, rfl, trivial⟩ ⟨rfl, trivial⟩ ⟨rfl, rfl, rfl, trivial⟩), h⟩
   ·replace h := cnd_f hb6 h
    refine vExit ?_
    change ∃ _, _
    exact ⟨(l118, c120), (En.of ⟨rfl, rfl, trivial⟩ ⟨rfl, trivial⟩ ⟨rfl, rfl, trivial⟩), h⟩
end Go.Proofs.YtmoamglpocjhgaaGreat
namespace Go.Proofs.YtmoamglpocjhgaaGreat
open Go.RowKit
def S_CountBar_l1 (N : Nat) (g_0 : Grf) (a_1 : Int) (b_2 : Int) (k : Int → Option (Int)) : Nat → (Int × Int) → Option (Int)
 | 0, _ => none
 | n + 1, (n5, i6) =>
  cnd (decide (i6 < (g_0.bars.length : Int))) (
   grd (0 ≤ i6 ∧ i6 < (g_0.bars.length : Int)) <|
   cnd (((g_0.bars.getD ((i6).toNat) (0, 0)).1) == a_1) (
    cnd (((g_0.bars.getD ((i6).toNat) (0, 0)).2) == b_2) (
     grd (Rg64 (n5 + (1 : Int))) <|
     grd (Rg64 (i6 + (1 : Int))) <|
     S_CountBar_l1 N g_0 a_1 b_2 k n ((n5 + (1 : Int)), (i6 + (1 : Int)))) (
     cnd (((g_0.bars.getD ((i6).toNat) (0, 0)).1) == b_2) (
      cnd (((g_0.bars.getD ((i6).toNat) (0, 0)).2) == a_1) (
       grd (Rg64 (n5 + (1 : Int))) <|
       grd (Rg64 (i6 + (1 : Int))) <|
       S_CountBar_l1 N g_0 a_1 b_2 k n ((n5 + (1 : Int)), (i6 + (1 : Int)))) (
       grd (Rg64 (i6 + (1 : Int))) <|
       S_CountBar_l1 N g_0 a_1 b_2 k n (n5, (i6 + (1 : Int))))) (
      grd (Rg64 (i6 + (1 : Int))) <|
      S_CountBar_l1 N g_0 a_1 b_2 k n (n5, (i6 + (1 : Int)))))) (
    cnd (((g_0.bars.getD ((i6).toNat) (0, 0)).1) == b_2) (
     cnd (((g_0.bars.getD ((i6).toNat) (0, 0)).2) == a_1) (
      grd (Rg64 (n5 + (1 : Int))) <|
      grd (Rg64 (i6 + (1 : Int))) <|
      S_CountBar_l1 N g_0 a_1 b_2 k n ((n5 + (1 : Int)), (i6 + (1 : Int)))) (
      grd (Rg64 (i6 + (1 : Int))) <|
      S_CountBar_l1 N g_0 a_1 b_2 k n (n5, (i6 + (1 : Int))))) (
     grd (Rg64 (i6 + (1 : Int))) <|
     S_CountBar_l1 N g_0 a_1 b_2 k n (n5, (i6 + (1 : Int)))))) (
   k n5)
def S_CountBar (N : Nat) (g_0 : Grf) (a_1 : Int) (b_2 : Int) : Option (Int) :=
 S_CountBar_l1 N g_0 a_1 b_2 (fun (n3 : Int) =>
    some n3) N ((0 : Int), (0 : Int))
set_option maxRecDepth 20000 in
set_option maxHeartbeats 1600000 in
theorem S_CountBar_w (N : Nat) (g_0 : Grf) (a_1 : Int) (b_2 : Int) (r : Int) (h : S_CountBar N g_0 a_1 b_2 = some r) : PCall Tryz.prog 63 [gD g_0, .int a_1, .int b_2] [] (.int r) := by
 unfold S_CountBar at h
 refine pcall_intro (TT := TT) tt Tryz.func63 rfl rfl Tryz.ntmps63 (congrArg Array.toList Tryz.results63) rfl rfl fun w0 => ?_
 refine vSeq ?_
 refine vRegion ?_
 refine oBox rfl rfl rfl rfl rfl rfl rfl rfl rfl ?_
 refine oVal tt rfl rfl rfl rfl rfl trivial ?_
 refine vNil ?_
 change VC _ _ _ _
 refine vSeq ?_
 refine vRegion ?_
 refine oVal tt rfl rfl rfl rfl rfl trivial ?_
 refine vNil ?_
 change VC _ _ _ _
 iterate 2 refine vSeq ?_
 refine vRegion ?_
 refine oVal tt rfl rfl rfl rfl rfl trivial ?_
 refine vNil ?_
 change VC _ _ _ _
 refine vJoin (F := fun k => S_CountBar_l1 N g_0 a_1 b_2 k) h (α := Int) (J := fun (n3 : Int) => (⟨[(7, .int n3)], [], []⟩ : PS)) ?_ ?_
 ·rintro n3 h
  show VC _ _ _ (⟨[(7, .int n3)], [], []⟩ : PS)
  refine vSeq ?_
  refine vRegion ?_
  iterate 2 refine oVal tt rfl rfl rfl rfl rfl trivial ?_
  refine vNil ?_
  change VC _ _ _ _
  refine vRet ?_
  change ∃ _, _
  cases h
  exact ⟨[], _, rfl, trivial, rfl, (.eq rfl), rfl⟩
 ·intro k h
  refine vBlock ?_
  refine vLoopS (α := Int × Int) (fun | (n5, i6) => (⟨[(1, .int a_1), (2, .int b_2), (3, .ptr 3 0), (7, .int n5), (8, .int i6)], [], [(3, some [.int g_0.n, .ro false (.pairs g_0.bars)])]⟩ : PS)) (S_CountBar_l1 N g_0 a_1 b_2 k) h (En.of ⟨rfl, rfl, rfl, rfl, rfl, trivial⟩ trivial ⟨rfl, trivial⟩) (fun _ => rfl) ?_
  rintro n ⟨n5, i6⟩ h
  rw [S_CountBar_l1] at h
  show VC _ _ _ (⟨[(1, .int a_1), (2, .int b_2), (3, .ptr 3 0), (7, .int n5), (8, .int i6)], [], [(3, some [.int g_0.n, .ro false (.pairs g_0.bars)])]⟩ : PS)
  iterate 2 refine vSeq ?_
  refine vRegion ?_
  iterate 5 refine oVal tt rfl rfl rfl rfl rfl trivial ?_
  refine vNil ?_
  change VC _ _ _ _
  refine vCond rfl (fun hb1 => ?_) (fun hb1 => ?_)
  ·replace h := cnd_t hb1 h
   refine vSkip ?_
   change VC _ _ _ _
   refine vSeq ?_
   refine vBlock ?_
   refine vSeq ?_
   refine vRegion ?_
   iterate 3 refine oVal tt rfl rfl rfl rfl rfl trivial ?_
   obtain ⟨hg2, h⟩ := grd_inv h
   refine oVal tt rfl rfl rfl rfl rfl hg2 ?_
   iterate 5 refine oVal tt rfl rfl rfl rfl rfl trivial ?_
   refine oSplit rfl rfl rfl (fun hb3 => ?_) (fun hb3 => ?_)
   ·replace h := cnd_t hb3 h
    iterate 3 refine oValG tt rfl rfl rfl rfl rfl hb3 rfl rfl rfl trivial ?_
    refine oValG tt rfl rfl rfl rfl rfl hb3 rfl rfl rfl hg2 ?_
    iterate 4 refine oValG tt rfl rfl rfl rfl rfl hb3 rfl rfl rfl trivial ?_
    refine oPick rfl rfl rfl rfl rfl hb3 rfl ?_
    refine oVal tt rfl rfl rfl rfl rfl trivial ?_
    refine oSplit rfl rfl rfl (fun hb4 => ?_) (fun hb4 => ?_)
    ·replace h := cnd_t hb4 h
     iterate 9 refine oNoF rfl rfl rfl rfl hb4 rfl rfl ?_
     iterate 8 refine oNoU rfl rfl rfl rfl rfl ?_
     refine oNoF rfl rfl rfl rfl hb4 rfl rfl ?_
     refine oPick rfl rfl rfl rfl rfl hb4 rfl ?_
     refine vNil ?_
     change VC _ _ _ _
     refine vCondT rfl rfl ?_
     refine vRegion ?_
     refine oVal tt rfl rfl rfl rfl rfl trivial ?_
     obtain ⟨hg5, h⟩ := grd_inv h
     refine oVal tt rfl rfl rfl rfl rfl hg5 ?_
     refine oVal tt rfl rfl rfl rfl rfl trivial ?_
     refine vNil ?_
     change VC _ _ _ _
     refine vRegion ?_
     refine oVal tt rfl rfl rfl rfl rfl trivial ?_
     obtain ⟨hg6, h⟩ := grd_inv h
     refine oVal tt rfl rfl rfl rfl rfl hg6 ?_
     refine oVal tt rfl rfl rfl rfl rfl trivial ?_
     refine vNil ?_
     change ∃ _, _
     exact ⟨((n5 + (1 : Int)), (i6 + (1 : Int))), (En.of ⟨rfl, rfl, rfl, rfl, rfl, trivial⟩ trivial ⟨rfl, trivial⟩), h⟩
    ·replace h := cnd_f hb4 h
     iterate 3 refine oValG tt rfl rfl rfl rfl rfl hb4 rfl rfl rfl trivial ?_
     refine oValG tt rfl rfl rfl rfl rfl hb4 rfl rfl rfl hg2 ?_
     iterate 5 refine oValG tt rfl rfl rfl rfl rfl hb4 rfl rfl rfl trivial ?_
     refine oSplit rfl rfl rfl (fun hb7 => ?_) (fun hb7 => ?_)
     ·replace h := cnd_t hb7 h
      iterate 3 refine oValG tt rfl rfl rfl rfl rfl hb7 rfl rfl rfl trivial ?_
      refine oValG tt rfl rfl rfl rfl rfl hb7 rfl rfl rfl hg2 ?_
      iterate 4 refine oValG tt rfl rfl rfl rfl rfl hb7 rfl rfl rfl trivial ?_
      refine oPickGT rfl rfl rfl rfl hb4 rfl rfl rfl rfl hb7 rfl ?_
      refine oPickF rfl rfl rfl rfl rfl hb4 rfl ?_
      refine vNil ?_
      change VC _ _ _ _
      refine vCond rfl (fun hb8 => ?_) (fun hb8 => ?_)
      ·replace h := cnd_t hb8 h
       refine vRegion ?_
       refine oVal tt rfl rfl rfl rfl rfl trivial ?_
       obtain ⟨hg9, h⟩ := grd_inv h
       refine oVal tt rfl rfl rfl rfl rfl hg9 ?_
       refine oVal tt rfl rfl rfl rfl rfl trivial ?_
       refine vNil ?_
       change VC _ _ _ _
       refine vRegion ?_
       refine oVal tt rfl rfl rfl rfl rfl trivial ?_
       obtain ⟨hg10, h⟩ := grd_inv h
       refine oVal tt rfl rfl rfl rfl rfl hg10 ?_
       refine oVal tt rfl rfl rfl rfl rfl trivial ?_
       refine vNil ?_
       change ∃ _, _
       exact ⟨((n5 + (1 : Int)), (i6 + (1 : Int))), (En.of ⟨rfl, rfl, rfl, rfl, rfl, trivial⟩ trivial ⟨rfl, trivial⟩), h⟩
      ·replace h := cnd_f hb8 h
       refine vSkip ?_
       change VC _ _ _ _
       refine vRegion ?_
       refine oVal tt rfl rfl rfl rfl rfl trivial ?_
       obtain ⟨hg11, h⟩ := grd_inv h
       refine oVal tt rfl rfl rfl rfl rfl hg11 ?_
       refine oVal tt rfl rfl rfl rfl rfl trivial ?_
       refine vNil ?_
       change ∃ _, _
       exact ⟨(n5, (i6 + (1 : Int))), (En.of ⟨rfl, rfl, rfl, rfl, rfl, trivial⟩ trivial ⟨rfl, trivial⟩), h⟩
     ·replace h := cnd_f hb7 h
      iterate 8 refine oNoT rfl rfl rfl rfl hb7 rfl rfl ?_
      refine oPickGF rfl rfl rfl rfl hb4 rfl rfl rfl rfl hb7 rfl ?_
      refine oPickF rfl rfl rfl rfl rfl hb4 rfl ?_
      refine vNil ?_
      change VC _ _ _ _
      refine vCondF rfl rfl ?_
      refine vSkip ?_
      change VC _ _ _ _
      refine vRegion ?_
      refine oVal tt rfl rfl rfl rfl rfl trivial ?_
      obtain ⟨hg12, h⟩ := grd_inv h
      refine oVal tt rfl rfl rfl rfl rfl hg12 ?_
      refine oVal tt rfl rfl rfl rfl rfl trivial ?_
      refine vNil ?_
      change ∃ _, _
      exact ⟨(n5, (i6 + (1 : Int))), (En.of ⟨rfl, rfl, rfl, rfl, rfl, trivial⟩ trivial ⟨rfl, trivial⟩), h⟩
   ·replace h := cnd_f hb3 h
    iterate 8 refine oNoT rfl rfl rfl rfl hb3 rfl rfl ?_
    refine oPickF rfl rfl rfl rfl rfl hb3 rfl ?_
    refine oVal tt rfl rfl rfl rfl rfl trivial ?_
    iterate 3 refine oValG tt rfl rfl rfl rfl rfl rfl rfl rfl rfl trivial ?_
    refine oValG tt rfl rfl rfl rfl rfl rfl rfl rfl rfl hg2 ?_
    iterate 5 refine oValG tt rfl rfl rfl rfl rfl rfl rfl rfl rfl trivial ?_
    refine oSplit rfl rfl rfl (fun hb13 => ?_) (fun hb13 => ?_)
    ·replace h := cnd_t hb13 h
     iterate 3 refine oValG tt rfl rfl rfl rfl rfl hb13 rfl rfl rfl trivial ?_
     refine oValG tt rfl rfl rfl rfl rfl hb13 rfl rfl rfl hg2 ?_
     iterate 4 refine oValG tt rfl rfl rfl rfl rfl hb13 rfl rfl rfl trivial ?_
     refine oPickGT rfl rfl rfl rfl rfl rfl rfl rfl rfl hb13 rfl ?_
     refine oPickF rfl rfl rfl rfl rfl rfl rfl ?_
     refine vNil ?_
     change VC _ _ _ _
     refine vCond rfl (fun hb14 => ?_) (fun hb14 => ?_)
     ·replace h := cnd_t hb14 h
      refine vRegion ?_
      refine oVal tt rfl rfl rfl rfl rfl trivial ?_
      obtain ⟨hg15, h⟩ := grd_inv h
      refine oVal tt rfl rfl rfl rfl rfl hg15 ?_
      refine oVal tt rfl rfl rfl rfl rfl trivial ?_
      refine vNil ?_
      change VC _ _ _ _
      refine vRegion ?_
      refine oVal tt rfl rfl rfl rfl rfl trivial ?_
      obtain ⟨hg16, h⟩ := grd_inv h
      refine oVal tt rfl rfl rfl rfl rfl hg16 ?_
      refine oVal tt rfl rfl rfl rfl rfl trivial ?_
      refine vNil ?_
      change ∃ _, _
      exact ⟨((n5 + (1 : Int)), (i6 + (1 : Int))), (En.of ⟨rfl, rfl, rfl, rfl, rfl, trivial⟩ trivial ⟨rfl, trivial⟩), h⟩
     ·replace h := cnd_f hb14 h
      refine vSkip ?_
      change VC _ _ _ _
      refine vRegion ?_
      refine oVal tt rfl rfl rfl rfl rfl trivial ?_
      obtain ⟨hg17, h⟩ := grd_inv h
      refine oVal tt rfl rfl rfl rfl rfl hg17 ?_
      refine oVal tt rfl rfl rfl rfl rfl trivial ?_
      refine vNil ?_
      change ∃ _, _
      exact ⟨(n5, (i6 + (1 : Int))), (En.of ⟨rfl, rfl, rfl, rfl, rfl, trivial⟩ trivial ⟨rfl, trivial⟩), h⟩
    ·replace h := cnd_f hb13 h
     iterate 8 refine oNoT rfl rfl rfl rfl hb13 rfl rfl ?_
     refine oPickGF rfl rfl rfl rfl rfl rfl rfl rfl rfl hb13 rfl ?_
     refine oPickF rfl rfl rfl rfl rfl rfl rfl ?_
     refine vNil ?_
     change VC _ _ _ _
     refine vCondF rfl rfl ?_
     refine vSkip ?_
     change VC _ _ _ _
     refine vRegion ?_
     refine oVal tt rfl rfl rfl rfl rfl trivial ?_
     obtain ⟨hg18, h⟩ := grd_inv h
     refine oVal tt rfl rfl rfl rfl rfl hg18 ?_
     refine oVal tt rfl rfl rfl rfl rfl trivial ?_
     refine vNil ?_
     change ∃ _, _
     exact ⟨(n5, (i6 + (1 : Int))), (En.of ⟨rfl, rfl, rfl, rfl, rfl, trivial⟩ trivial ⟨rfl, trivial⟩), h⟩
  ·replace h := cnd_f hb1 h
   refine vExit ?_
   change ∃ _, _
   exact ⟨n5, (En.of ⟨rfl, trivial⟩ trivial trivial), h⟩
def S_AnchoredGraph_l2 (N : Nat) (anchors_1 : List Int) (i95 : Int) (k : ((List (Int × Int)) × Int) → Option (Grf × Bool)) : Nat → ((List (Int × Int)) × Int × Int) → Option (Grf × Bool)
 | 0, _ => none
 | n + 1, (l132, k133, c134) =>
  cnd (decide (k133 < (anchors_1.length : Int))) (
   grd (0 ≤ i95 ∧ i95 < (anchors_1.length : Int)) <|
   grd (0 ≤ k133 ∧ k133 < (anchors_1.length : Int)) <|
   (S_CountBar N (⟨c134, l132⟩ : Grf) (anchors_1.getD ((i95).toNat) 0) (anchors_1.getD ((k133).toNat) 0)).bind fun v137 =>
   cnd (v137 == (0 : Int)) (
    (S_l2Put N (⟨c134, l132⟩ : Grf) ((anchors_1.getD ((i95).toNat) 0), (anchors_1.getD ((k133).toNat) 0))).bind fun v138 =>
    grd (Rg64 (k133 + (1 : Int))) <|
    S_AnchoredGraph_l2 N anchors_1 i95 k n (v138.bars, (k133 + (1 : Int)), v138.n)) (
    grd (Rg64 (k133 + (1 : Int))) <|
    S_AnchoredGraph_l2 N anchors_1 i95 k n (l132, (k133 + (1 : Int)), c134))) (
   k (l132, c134))
def S_AnchoredGraph_l1 (N : Nat) (anchors_1 : List Int) (k : ((List (Int × Int)) × Int) → Option (Grf × Bool)) : Nat → ((List (Int × Int)) × Int × Int) → Option (Grf × Bool)
 | 0, _ => none
 | n + 1, (l94, i95, c96) =>
  cnd (decide (i95 < (anchors_1.length : Int))) (
   grd (Rg64 (i95 + (1 : Int))) <|
   S_AnchoredGraph_l2 N anchors_1 i95 (fun (x : (List (Int × Int)) × Int) =>
     match x with
     | (l127, c128) =>
      S_AnchoredGraph_l1 N anchors_1 k n (l127, (i95 + (1 : Int)), c128)) N (l94, (i95 + (1 : Int)), c96)) (
   k (l94, c96))
def S_AnchoredGraph (N : Nat) (g_0 : Grf) (anchors_1 : List Int) : Option (Grf × Bool) :=
 (S_l2Copy N g_0).bind fun v1 =>
 (S_l23Anchors N g_0 anchors_1).bind fun v2 =>
 cnd (!v2) (
  some ((⟨(0 : Int), ([] : List (Int × Int))⟩ : Grf), false)) (
  S_AnchoredGraph_l1 N anchors_1 (fun (x : (List (Int × Int)) × Int) =>
    match x with
    | (l69, c70) =>
     (S_IsGraph N (⟨c70, l69⟩ : Grf)).bind fun v71 =>
     cnd (!v71) (
      some ((⟨(0 : Int), ([] : List (Int × Int))⟩ : Grf), false)) (
      some ((⟨c70, l69⟩ : Grf), true))) N (v1.bars, (0 : Int), v1.n))
set_option maxRecDepth 20000 in
set_option maxHeartbeats 1600000 in
theorem S_AnchoredGraph_w (N : Nat) (g_0 : Grf) (anchors_1 : List Int) (r : Grf × Bool) (h : S_AnchoredGraph N g_0 anchors_1 = some r) : PCall Tryz.prog 29 [gD g_0, .ro false (.ints anchors_1)] [(39, .pairs r.1.bars)] (.tup [.agg [.int r.1.n, .row 0 0 r.1.bars.length], .bool r.2]) := by
 unfold S_AnchoredGraph at h
 refine pcall_intro (TT := TT) tt Tryz.func29 rfl rfl Tryz.ntmps29 (congrArg Array.toList Tryz.results29) rfl rfl fun w0 => ?_
 refine vSeq ?_
 refine vRegion ?_
 refine oBox rfl rfl rfl rfl rfl rfl rfl rfl rfl ?_
 refine oAlloc tt rfl rfl rfl rfl rfl rfl rfl rfl rfl ?_
 refine oVal tt rfl rfl rfl rfl rfl trivial ?_
 refine vNil ?_
 change VC _ _ _ _
 refine vSeq ?_
 refine vRegion ?_
 refine oVal tt rfl rfl rfl rfl rfl trivial ?_
 obtain ⟨v1, hc1, h⟩ := bind_inv h
 refine oCall (S_l2Copy_w N g_0 v1 hc1) rfl rfl rfl rfl rfl rfl rfl rfl ⟨⟨rfl, rfl, trivial⟩, trivial⟩ ?_
 refine oAlloc tt rfl rfl rfl rfl rfl rfl rfl rfl rfl ?_
 refine oStore tt rfl rfl rfl rfl rfl rfl rfl rfl rfl rfl rfl ⟨trivial, trivial, trivial⟩ ?_
 refine vNil ?_
 change VC _ _ _ _
 iterate 2 refine vSeq ?_
 refine vRegion ?_
 iterate 2 refine oVal tt rfl rfl rfl rfl rfl trivial ?_
 obtain ⟨v2, hc2, h⟩ := bind_inv h
 refine oCall (S_l23Anchors_w N g_0 anchors_1 v2 hc2) rfl rfl rfl rfl rfl rfl rfl rfl ⟨⟨rfl, rfl, trivial⟩, rfl, trivial⟩ ?_
 refine oVal tt rfl rfl rfl rfl rfl trivial ?_
 refine vNil ?_
 change VC _ _ _ _
 refine vCond rfl (fun hb3 => ?_) (fun hb3 => ?_)
 ·replace h := cnd_t hb3 h
  refine vSeq ?_
  refine vRegion ?_
  refine oPure (wNone rfl) (pBuild bld_impl_Graph rfl rfl) rfl rfl ?_
  refine oStore tt rfl rfl rfl rfl rfl rfl rfl rfl rfl rfl rfl ⟨trivial, trivial, trivial⟩ ?_
  refine oVal tt rfl rfl rfl rfl rfl trivial ?_
  refine vNil ?_
  change VC _ _ _ _
  refine vNilB 4 1 9001 39 (.pairs []) rfl rfl rfl rfl rfl ?_
  refine vRet ?_
  change ∃ _, _
  cases h
  exact ⟨[9001], _, rfl, ⟨rfl, trivial⟩, rfl, (.eq rfl), rfl⟩
 ·replace h := cnd_f hb3 h
  refine vSkip ?_
  change VC _ _ _ _
  iterate 2 refine vSeq ?_
  refine vRegion ?_
  refine oVal tt rfl rfl rfl rfl rfl trivial ?_
  refine vNil ?_
  change VC _ _ _ _
  refine vJoin (F := fun k => S_AnchoredGraph_l1 N anchors_1 k) h (α := (List (Int × Int)) × Int) (J := fun | (l69, c70) => (⟨[(4, .ptr 4 0), (6, .ptr 6 0)], [(1100, some (39, .pairs l69))], [(4, some [.int (0 : Int), .nil]), (6, some [.int c70, .row 1100 0 l69.length])]⟩ : PS)) ?_ ?_
  ·rintro ⟨l69, c70⟩ h
   show VC _ _ _ (⟨[(4, .ptr 4 0), (6, .ptr 6 0)], [(1100, some (39, .pairs l69))], [(4, some [.int (0 : Int), .nil]), (6, some [.int c70, .row 1100 0 l69.length])]⟩ : PS)
   iterate 2 refine vSeq ?_
   refine vRegion ?_
   refine oVal tt rfl rfl rfl rfl rfl trivial ?_
   obtain ⟨v71, hc4, h⟩ := bind_inv h
   refine oCall (S_IsGraph_w N (⟨c70, l69⟩ : Grf) v71 hc4) rfl rfl rfl rfl rfl rfl rfl rfl ⟨⟨rfl, (.inl ⟨rfl, rfl⟩), trivial⟩, trivial⟩ ?_
   refine oVal tt rfl rfl rfl rfl rfl trivial ?_
   refine vNil ?_
   change VC _ _ _ _
   refine vCond rfl (fun hb5 => ?_) (fun hb5 => ?_)
   ·replace h := cnd_t hb5 h
    refine vSeq ?_
    refine vRegion ?_
    refine oPure (wNone rfl) (pBuild bld_impl_Graph rfl rfl) rfl rfl ?_
    refine oStore tt rfl rfl rfl rfl rfl rfl rfl rfl rfl rfl rfl ⟨trivial, trivial, trivial⟩ ?_
    refine oVal tt rfl rfl rfl rfl rfl trivial ?_
    refine vNil ?_
    change VC _ _ _ _
    refine vNilB 4 1 9001 39 (.pairs []) rfl rfl rfl rfl rfl ?_
    refine vRet ?_
    change ∃ _, _
    cases h
    exact ⟨[9001], _, rfl, ⟨rfl, trivial⟩, rfl, (.eq rfl), rfl⟩
   ·replace h := cnd_f hb5 h
    refine vSkip ?_
    change VC _ _ _ _
    refine vSeq ?_
    refine vRegion ?_
    refine oVal tt rfl rfl rfl rfl rfl trivial ?_
    refine oStore tt rfl rfl rfl rfl rfl rfl rfl rfl rfl rfl rfl ⟨trivial, trivial, trivial⟩ ?_
    refine oVal tt rfl rfl rfl rfl rfl trivial ?_
    refine vNil ?_
    change VC _ _ _ _
    refine vRet ?_
    change ∃ _, _
    cases h
    exact ⟨[1100], _, rfl, ⟨rfl, trivial⟩, rfl, (.eq rfl), rfl⟩
  ·intro k h
   refine vBlock ?_
   refine vLoopS (α := (List (Int × Int)) × Int × Int) (fun | (l94, i95, c96) => (⟨[(1, .ro false (.ints anchors_1)), (4, .ptr 4 0), (6, .ptr 6 0), (7, .int i95)], [(1100, some (39, .pairs l94))], [(4, some [.int (0 : Int), .nil]), (6, some [.int c96, .row 1100 0 l94.length])]⟩ : PS)) (S_AnchoredGraph_l1 N anchors_1 k) h (En.of ⟨rfl, rfl, rfl, rfl, trivial⟩ ⟨rfl, trivial⟩ ⟨rfl, rfl, trivial⟩) (fun _ => rfl) ?_
   rintro n ⟨l94, i95, c96⟩ h
   rw [S_AnchoredGraph_l1] at h
   show VC _ _ _ (⟨[(1, .ro false (.ints anchors_1)), (4, .ptr 4 0), (6, .ptr 6 0), (7, .int i95)], [(1100, some (39, .pairs l94))], [(4, some [.int (0 : Int), .nil]), (6, some [.int c96, .row 1100 0 l94.length])]⟩ : PS)
   iterate 2 refine vSeq ?_
   refine vRegion ?_
   iterate 4 refine oVal tt rfl rfl rfl rfl rfl trivial ?_
   refine vNil ?_
   change VC _ _ _ _
   refine vCond rfl (fun hb6 => ?_) (fun hb6 => ?_)
   ·replace h := cnd_t hb6 h
    refine vSkip ?_
    change VC _ _ _ _
    refine vSeq ?_
    refine vBlock ?_
    refine vSeq ?_
    refine vRegion ?_
    refine oVal tt rfl rfl rfl rfl rfl trivial ?_
    obtain ⟨hg7, h⟩ := grd_inv h
    refine oVal tt rfl rfl rfl rfl rfl hg7 ?_
    refine oVal tt rfl rfl rfl rfl rfl trivial ?_
    refine vNil ?_
    change VC _ _ _ _
    refine vJoin (F := fun k => S_AnchoredGraph_l2 N anchors_1 i95 k) h (α := (List (Int × Int)) × Int) (J := fun | (l127, c128) => (⟨[(1, .ro false (.ints anchors_1)), (4, .ptr 4 0), (6, .ptr 6 0), (7, .int i95)], [(1100, some (39, .pairs l127))], [(4, some [.int (0 : Int), .nil]), (6, some [.int c128, .row 1100 0 l127.length])]⟩ : PS)) ?_ ?_
    ·rintro ⟨l127, c128⟩ h
     show VC _ _ _ (⟨[(1, .ro false (.ints anchors_1)), (4, .ptr 4 0), (6, .ptr 6 0), (7, .int i95)], [(1100, some (39, .pairs l127))], [(4, some [.int (0 : Int), .nil]), (6, some [.int c128, .row 1100 0 l127.length])]⟩ : PS)
     refine vRegion ?_
     refine oVal tt rfl rfl rfl rfl rfl trivial ?_
     refine oVal tt rfl rfl rfl rfl rfl hg7 ?_
     refine oVal tt rfl rfl rfl rfl rfl trivial ?_
     refine vNil ?_
     change ∃ _, _
     exact ⟨(l127, (i95 + (1 : Int)), c128), (En.of ⟨rfl, rfl, rfl, rfl, trivial⟩ ⟨rfl, trivial⟩ ⟨rfl, rfl, trivial⟩), h⟩
    ·intro k h
     refine vBlock ?_
     refine vLoopS (α := (List (Int × Int)) × Int × Int) (fun | (l132, k133, c134) => (⟨[(1, .ro false (.ints anchors_1)), (4, .ptr 4 0), (6, .ptr 6 0), (7, .int i95), (8, .int k133)], [(1100, some (39, .pairs l132))], [(4, some [.int (0 : Int), .nil]), (6, some [.int c134, .row 1100 0 l132.length])]⟩ : PS)) (S_AnchoredGraph_l2 N anchors_1 i95 k) h (En.of ⟨rfl, rfl, rfl, rfl, rfl, trivial⟩ ⟨rfl, trivial⟩ ⟨rfl, rfl, trivial⟩) (fun _ => rfl) ?_
     rintro n ⟨l132, k133, c134⟩ h
     rw [S_AnchoredGraph_l2] at h
     show VC _ _ _ (⟨[(1, .ro false (.ints anchors_1)), (4, .ptr 4 0), (6, .ptr 6 0), (7, .int i95), (8, .int k133)], [(1100, some (39, .pairs l132))], [(4, some [.int (0 : Int), .nil]), (6, some [.int c134, .row 1100 0 l132.length])]⟩ : PS)
     iterate 2 refine vSeq ?_
     refine vRegion ?_
     iterate 4 refine oVal tt rfl rfl rfl rfl rfl trivial ?_
     refine vNil ?_
     change VC _ _ _ _
     refine vCond rfl (fun hb8 => ?_) (fun hb8 => ?_)
     ·replace h := cnd_t hb8 h
      refine vSkip ?_
      change VC _ _ _ _
      refine vSeq ?_
      refine vBlock ?_
      refine vSeq ?_
      refine vRegionD (by kernel_rfl) (by kernel_rfl) ?_
      iterate 3 refine cVal tt rfl (wNone rfl) rfl rfl rfl trivial ?_
      obtain ⟨hg9, h⟩ := grd_inv h
      refine cVal tt rfl (wNone rfl) rfl rfl rfl hg9 ?_
      iterate 3 refine cVal tt rfl (wNone rfl) rfl rfl rfl trivial ?_
      obtain ⟨hg10, h⟩ := grd_inv h
      refine cVal tt rfl (wNone rfl) rfl rfl rfl hg10 ?_
      refine cVal tt rfl (wNone rfl) rfl rfl rfl trivial ?_
      obtain ⟨v137, hc11, h⟩ := bind_inv h
      refine cCall (S_CountBar_w N (⟨c134, l132⟩ : Grf) (anchors_1.getD ((i95).toNat) 0) (anchors_1.getD ((k133).toNat) 0) v137 hc11) rfl (wNone rfl) rfl rfl rfl rfl rfl rfl ⟨⟨rfl, (.inl ⟨rfl, rfl⟩), trivial⟩, rfl, rfl, trivial⟩ ?_
      refine cVal tt rfl (wNone rfl) rfl rfl rfl trivial ?_
      refine cNil ?_
      change VC _ _ _ _
      refine vCond rfl (fun hb12 => ?_) (fun hb12 => ?_)
      ·replace h := cnd_t hb12 h
       refine vRegionN 10 [] [0, 0, 0, 6, 14, 0, 0, 96, 224, 510, 1023, 2047] (by kernel_rfl) (by kernel_rfl) (by kernel_rfl) (by kernel_rfl) (by kernel_rfl) rfl (by rfl) ?_
       iterate 3 refine nVal tt rfl (wNone rfl) rfl rfl rfl rfl rfl trivial ?_
       refine nVal tt rfl (wNone rfl) rfl rfl rfl rfl rfl hg9 ?_
       iterate 3 refine nVal tt rfl (wNone rfl) rfl rfl rfl rfl rfl trivial ?_
       refine nVal tt rfl (wNone rfl) rfl rfl rfl rfl rfl hg10 ?_
       refine nVal tt rfl (wNone rfl) rfl rfl rfl rfl rfl trivial ?_
       refine nPure (wNone rfl) (pBuild bld_impl_Bar rfl rfl) rfl rfl rfl rfl ?_
       refine nNil ?_
       change VO _ _ _ _ _
       obtain ⟨v138, hc13, h⟩ := bind_inv h
       refine oCall (S_l2Put_w N (⟨c134, l132⟩ : Grf) ((anchors_1.getD ((i95).toNat) 0), (anchors_1.getD ((k133).toNat) 0)) v138 hc13) rfl rfl rfl rfl rfl rfl rfl rfl ⟨⟨rfl, (.inl ⟨rfl, rfl⟩), trivial⟩, ⟨rfl, rfl, trivial⟩, trivial⟩ ?_
       refine oStore tt rfl rfl rfl rfl rfl rfl rfl rfl rfl rfl rfl ⟨trivial, trivial, trivial⟩ ?_
       refine vNil ?_
       change VC _ _ _ _
       refine vRegion ?_
       refine oVal tt rfl rfl rfl rfl rfl trivial ?_
       obtain ⟨hg14, h⟩ := grd_inv h
       refine oVal tt rfl rfl rfl rfl rfl hg14 ?_
       refine oVal tt rfl rfl rfl rfl rfl trivial ?_
       refine vNil ?_
       change ∃ _, _
       exact ⟨(v138.bars, (k133 + (1 : Int)), v138.n), (En.ren [1100] [1510] rfl ⟨.inr rfl, .inr rfl, .inr rfl, .inr rfl, .inr rfl, trivial⟩ ⟨.inr rfl, trivial⟩ ⟨.inr ⟨_, _, rfl, rfl, ⟨.inr rfl, .inr rfl, trivial⟩⟩, .inr ⟨_, _, rfl, rfl, ⟨.inr rfl, .inr rfl, trivial⟩⟩, trivial⟩), h⟩
      ·replace h := cnd_f hb12 h
       refine vSkip ?_
       change VC _ _ _ _
       refine vRegion ?_
       refine oVal tt rfl rfl rfl rfl rfl trivial ?_
       obtain ⟨hg15, h⟩ := grd_inv h
       refine oVal tt rfl rfl rfl rfl rfl hg15 ?_
       refine oVal tt rfl rfl rfl rfl rfl trivial ?_
       refine vNil ?_
       change ∃ _, _
       exact ⟨(l132, (k133 + (1 : Int)), c134), (En.of ⟨rfl, rfl, rfl, rfl, rfl, trivial⟩ ⟨rfl, trivial⟩ ⟨rfl, rfl, trivial⟩), h⟩
     ·replace h := cnd_f hb8 h
      refine vExit ?_
      change ∃ _, _
      exact ⟨(l132, c134), (En.of ⟨rfl, rfl, rfl, rfl, trivial⟩ ⟨rfl, trivial⟩ ⟨rfl, rfl, trivial⟩), h⟩
   ·replace h := cnd_f hb6 h
    refine vExit ?_
    change ∃ _, _
    exact ⟨(l94, c96), (En.of ⟨rfl, rfl, trivial⟩ ⟨rfl, trivial⟩ ⟨rfl, rfl, trivial⟩), h⟩
end Go.Proofs.YtmoamglpocjhgaaGreat
namespace Go.Proofs.YtmoamglpocjhgaaGreat
variable {n : Nat} {N : Nat}
def sameB (a b : Int) (e : Int × Int) : Bool := (e.1 == a && e.2 == b) || (e.1 == b && e.2 == a)
def cntB (l : List (Int × Int)) (a b : Int) : Int := (l.countP (sameB a b) : Int)
theorem cntB_take {l : List (Int × Int)} {a b : Int} {i : Nat} (hi : i < l.length) : cntB (l.take (i + 1)) a b = cntB (l.take i) a b + (if sameB a b (l.getD i (0, 0)) then 1 else 0) := by
 have e : l.take (i + 1) = l.take i ++ [l.getD i (0, 0)] := by
  rw [List.take_add_one, List.getElem?_eq_getElem hi, List.getD_eq_getElem?_getD, List.getElem?_eq_getElem hi]; rfl
 rw [e]; unfold cntB
 rw [List.countP_append, List.countP_singleton]
 split <;> simp
theorem cntB_zero {l : List (Int × Int)} {a b : Int} : (cntB l a b == 0) = l.all fun e => !sameB a b e := by
 rw [Bool.eq_iff_iff, beq_iff_eq, List.all_eq_true]
 unfold cntB
 constructor
 ·intro h e he
  have h2 : l.countP (sameB a b) = 0 := by omega
  rw [List.countP_eq_zero] at h2
  have := h2 e he
  simpa using this
 ·intro h
  have h2 : l.countP (sameB a b) = 0 := List.countP_eq_zero.2 fun e he => by have := h e he; simpa using this
  omega
theorem countS_s (hN : 4000000 ≤ N) {g : Grf} (hb : g.bars.length ≤ 3000000) (a b : Int) : S_CountBar N g a b = some (cntB g.bars a b) := by
 unfold S_CountBar
 refine Eq.trans ?_ ((fold (N := N) (len := g.bars.length) (σ := Int) (st := fun i => cntB (g.bars.take i) a b) (F := fun m s => S_CountBar_l1 N g a b (fun n3 => some n3) m (s.1, s.2)) (fin := some (cntB g.bars a b)) (by omega) (fun m i hi => ?_) fun m => ?_))
 ·simp [cntB]
 ·show S_CountBar_l1 N g a b _ (m + 1) (cntB (g.bars.take i) a b, (i : Int)) = S_CountBar_l1 N g a b _ m (cntB (g.bars.take (i + 1)) a b, ((i + 1 : Nat) : Int))
  have hc := cntB_take (a := a) (b := b) hi
  have hn : 0 ≤ cntB (g.bars.take i) a b ∧ cntB (g.bars.take i) a b ≤ 3000000 := by
   unfold cntB
   have h1 := List.countP_le_length (p := sameB a b) (l := g.bars.take i)
   have h2 : (g.bars.take i).length ≤ g.bars.length := by rw [List.length_take]; omega
   omega
  rw [S_CountBar_l1, cnd_dt (by omega), grd_pos (by omega), show ((i : Int)).toNat = i from by omega, hc]
  generalize g.bars.getD i (0, 0) = e
  generalize cntB (g.bars.take i) a b = c at hn
  have g1 : ∀ x : Option Int, grd (Rg64 (c + 1)) x = x := fun x => grd_R (by omega) (by omega) x
  have g2 : ∀ x : Option Int, grd (Rg64 ((i : Int) + 1)) x = x := fun x => grd_R (by omega) (by omega) x
  have e9 : (((i + 1 : Nat)) : Int) = (i : Int) + 1 := by omega
  simp only [g1, g2, sameB, e9]
  rcases Bool.eq_false_or_eq_true (e.1 == a) with h1 | h1 <;> rcases Bool.eq_false_or_eq_true (e.2 == b) with h2 | h2 <;> rcases Bool.eq_false_or_eq_true (e.1 == b) with h3 | h3 <;> rcases Bool.eq_false_or_eq_true (e.2 == a) with h4 | h4 <;>
   simp only [h1, h2, h3, h4, cnd_true, cnd_false, Bool.and_true, Bool.and_false, Bool.true_and, Bool.false_and, Bool.or_true, Bool.or_false, Bool.true_or, Bool.false_or, Bool.and_self, Bool.or_self, if_true, Bool.false_eq_true, if_false, Int.add_zero]
 ·show S_CountBar_l1 N g a b _ (m + 1) (cntB (g.bars.take g.bars.length) a b, (g.bars.length : Int)) = _
  rw [S_CountBar_l1, cnd_df (by omega), List.take_length]
theorem countI_s (hN : 4000000 ≤ N) {g : Grf} (hb : g.bars.length ≤ 3000000) (a b : Int) : I_CountBar N g a b = some (cntB g.bars a b) := by
 unfold I_CountBar
 refine Eq.trans ?_ ((fold (N := N) (len := g.bars.length) (σ := Int) (st := fun i => cntB (g.bars.take i) a b) (F := fun m s => I_CountBar_l1 N g a b (fun n3 => some n3) m (s.1, s.2)) (fin := some (cntB g.bars a b)) (by omega) (fun m i hi => ?_) fun m => ?_))
 ·simp [cntB]
 ·show I_CountBar_l1 N g a b _ (m + 1) (cntB (g.bars.take i) a b, (i : Int)) = I_CountBar_l1 N g a b _ m (cntB (g.bars.take (i + 1)) a b, ((i + 1 : Nat) : Int))
  have hc := cntB_take (a := a) (b := b) hi
  have hn : 0 ≤ cntB (g.bars.take i) a b ∧ cntB (g.bars.take i) a b ≤ 3000000 := by
   unfold cntB
   have h1 := List.countP_le_length (p := sameB a b) (l := g.bars.take i)
   have h2 : (g.bars.take i).length ≤ g.bars.length := by rw [List.length_take]; omega
   omega
  rw [I_CountBar_l1, cnd_dt (by omega), grd_pos (by omega), show ((i : Int)).toNat = i from by omega, hc]
  generalize g.bars.getD i (0, 0) = e
  generalize cntB (g.bars.take i) a b = c at hn
  have g1 : ∀ x : Option Int, grd (Rg64 (c + 1)) x = x := fun x => grd_R (by omega) (by omega) x
  have g2 : ∀ x : Option Int, grd (Rg64 ((i : Int) + 1)) x = x := fun x => grd_R (by omega) (by omega) x
  have e9 : (((i + 1 : Nat)) : Int) = (i : Int) + 1 := by omega
  simp only [g1, g2, sameB, e9]
  rcases Bool.eq_false_or_eq_true (e.1 == a) with h1 | h1 <;> rcases Bool.eq_false_or_eq_true (e.2 == b) with h2 | h2 <;> rcases Bool.eq_false_or_eq_true (e.1 == b) with h3 | h3 <;> rcases Bool.eq_false_or_eq_true (e.2 == a) with h4 | h4 <;>
   simp only [h1, h2, h3, h4, cnd_true, cnd_false, Bool.and_true, Bool.and_false, Bool.true_and, Bool.false_and, Bool.or_true, Bool.or_false, Bool.true_or, Bool.false_or, Bool.and_self, Bool.or_self, if_true, Bool.false_eq_true, if_false, Int.add_zero]
 ·show I_CountBar_l1 N g a b _ (m + 1) (cntB (g.bars.take g.bars.length) a b, (g.bars.length : Int)) = _
  rw [I_CountBar_l1, cnd_df (by omega), List.take_length]
theorem putP_s (hN : 4000000 ≤ N) {g : Grf} (hl : g.bars.length ≤ 1000) (x : Int × Int) (hs : Srt g.bars) : ∃ L, S_l2Put N g x = some ⟨g.n, L⟩ ∧ Srt L ∧ L.Perm (x :: g.bars) := by
 have keyT : ∀ {kk : (List (Int × Int) × Bool) → Option Grf} (fuel i : Nat) (l : List (Int × Int)), i ≤ g.bars.length → g.bars.length < fuel + i → l.length ≤ i + 1 →
   S_l2Put_l1 N g x kk fuel (l, true, (i : Int)) = kk (l ++ g.bars.drop i, true) := by
  intro kk fuel
  induction fuel with
  | zero => intro i l h1 h2; omega
  | succ fuel ih =>
   intro i l h1 h2 h3
   rw [S_l2Put_l1]
   by_cases hi : i < g.bars.length
   ·have e : g.bars.drop i = g.bars.getD i (0, 0) :: g.bars.drop (i + 1) := by
     rw [List.drop_eq_getElem_cons hi]
     simp [List.getD_eq_getElem?_getD, List.getElem?_eq_getElem hi]
    have := ih (i + 1) (l ++ [g.bars.getD i (0, 0)]) (by omega) (by omega) (by simp; omega)
    rw [e]
    simp (disch := omega) only [Int.toNat_natCast, tk0, List.length_cons, List.length_nil, grd_pos, grd_T, grd_R, cnd_dt, cnd_df, cnd_true, cnd_false, Option.bind_some, Bool.not_true, succ_cast]
    refine this.trans ?_
    simp
   ·have e : i = g.bars.length := by omega
    subst e
    simp (disch := omega) only [Int.toNat_natCast, tk0, List.length_cons, List.length_nil, grd_pos, grd_T, grd_R, cnd_dt, cnd_df, cnd_true, cnd_false, Option.bind_some]
    simp
 have keyF : ∀ {kk : (List (Int × Int) × Bool) → Option Grf} (fuel i : Nat), i ≤ g.bars.length → g.bars.length < fuel + i → (∀ e ∈ g.bars.take i, barLeB e x = true) →
   (∃ A B, g.bars = A ++ B ∧ (∀ e ∈ A, barLeB e x = true) ∧ (∀ b l, B = b :: l → barLeB b x = false) ∧ S_l2Put_l1 N g x kk fuel (g.bars.take i, false, (i : Int)) = kk (A ++ x :: B, true)) ∨
   ((∀ e ∈ g.bars, barLeB e x = true) ∧ S_l2Put_l1 N g x kk fuel (g.bars.take i, false, (i : Int)) = kk (g.bars, false)) := by
  intro kk fuel
  induction fuel with
  | zero => intro i h1 h2; omega
  | succ fuel ih =>
   intro i h1 h2 h3
   by_cases hi : i < g.bars.length
   ·have hd : g.bars.getD i (0, 0) = g.bars[i] := by simp [List.getD_eq_getElem?_getD, List.getElem?_eq_getElem hi]
    have htl : (g.bars.take i).length = i := by simp; omega
    have etk : g.bars.take i ++ [g.bars.getD i (0, 0)] = g.bars.take (i + 1) := by
     rw [List.take_add_one, List.getElem?_eq_getElem hi, hd]; rfl
    cases hb : barLeB (g.bars.getD i (0, 0)) x with
    | false =>
     left
     refine ⟨g.bars.take i, g.bars.drop i, (List.take_append_drop i g.bars).symm, h3, fun b l e => ?_, ?_⟩
     ·rw [List.drop_eq_getElem_cons hi] at e
      cases e
      rw [← hd]; exact hb
     ·rw [S_l2Put_l1]
      have := keyT (kk := kk) fuel (i + 1) (g.bars.take i ++ [x] ++ [g.bars.getD i (0, 0)]) (by omega) (by omega) (by simp; omega)
      simp (disch := omega) only [Int.toNat_natCast, tk0, List.length_cons, List.length_nil, grd_pos, grd_T, grd_R, cnd_dt, cnd_df, cnd_true, cnd_false, Option.bind_some, Bool.not_false, l2After_s, hb, List.length_append, succ_cast, htl]
      refine this.trans ?_
      congr 2
      have : g.bars.drop i = g.bars.getD i (0, 0) :: g.bars.drop (i + 1) := by rw [List.drop_eq_getElem_cons hi, hd]
      rw [this]; simp
    | true =>
     have step : S_l2Put_l1 N g x kk (fuel + 1) (g.bars.take i, false, (i : Int)) = S_l2Put_l1 N g x kk fuel (g.bars.take (i + 1), false, ((i + 1 : Nat) : Int)) := by
      rw [S_l2Put_l1]
      simp (disch := omega) only [Int.toNat_natCast, tk0, List.length_cons, List.length_nil, grd_pos, grd_T, grd_R, cnd_dt, cnd_df, cnd_true, cnd_false, Option.bind_some, Bool.not_false, Bool.not_true, l2After_s, hb, succ_cast, htl]
      rw [show ((g.bars.getD i (0, 0)).1, (g.bars.getD i (0, 0)).2) = g.bars.getD i (0, 0) from rfl, etk]
     rw [step]
     refine ih (i + 1) (by omega) (by omega) fun e he => ?_
     rw [← etk] at he
     rcases List.mem_append.1 he with he | he
     ·exact h3 e he
     ·rw [List.mem_singleton] at he; subst he; exact hb
   ·have e : i = g.bars.length := by omega
    subst e
    right
    rw [List.take_length] at h3 ⊢
    refine ⟨h3, ?_⟩
    rw [S_l2Put_l1]
    simp (disch := omega) only [Int.toNat_natCast, tk0, List.length_cons, List.length_nil, grd_pos, grd_T, grd_R, cnd_dt, cnd_df, cnd_true, cnd_false, Option.bind_some]
 have e0 : S_l2Put N g x = S_l2Put_l1 N g x (fun (x_ : (List (Int × Int)) × Bool) =>
   match x_ with
   | (l10, placed11) =>
    cnd (!placed11) (
     grd (l10.length + 1 ≤ 4294967296) <|
     some (⟨g.n, (l10 ++ ([(x.1, x.2)] : List (Int × Int)))⟩ : Grf)) (
     some (⟨g.n, l10⟩ : Grf))) N (g.bars.take 0, false, ((0 : Nat) : Int)) := rfl
 rcases keyF (kk := fun (x_ : (List (Int × Int)) × Bool) =>
   match x_ with
   | (l10, placed11) =>
    cnd (!placed11) (
     grd (l10.length + 1 ≤ 4294967296) <|
     some (⟨g.n, (l10 ++ ([(x.1, x.2)] : List (Int × Int)))⟩ : Grf)) (
     some (⟨g.n, l10⟩ : Grf))) N 0 (by omega) (by omega) (fun e he => by simp at he) with ⟨A, B, h1, h2, h3, h4⟩ | ⟨h1, h2⟩
 ·refine ⟨A ++ x :: B, e0.trans (h4.trans rfl), srt_put (by rw [← h1]; exact hs) h2 h3, ?_⟩
  rw [h1]; exact List.perm_middle
 ·refine ⟨g.bars ++ [x], e0.trans (h2.trans ?_), ?_, List.perm_append_singleton x g.bars⟩
  ·simp (disch := omega) only [Int.toNat_natCast, tk0, List.length_cons, List.length_nil, grd_pos, grd_T, grd_R, cnd_dt, cnd_df, cnd_true, cnd_false, Option.bind_some, Bool.not_false]
  ·have := srt_put (A := g.bars) (B := []) (x := x) (by simpa using hs) h1 (fun b l h => by cases h)
   exact this
theorem srtB_srt (l : List (Int × Int)) : Srt (srtB l) := by
 have h := List.pairwise_mergeSort (le := fun x y : Int × Int => !(ltOf cmpB) y x) (fun a b c h1 h2 => by rw [ltB] at *; simp at *; omega) (fun a b => by rw [ltB, ltB]; simp; omega) l
 refine h.imp fun {a b} h => ?_
 rw [ltB] at h
 simp only [barLeB, Bool.or_eq_true, Bool.and_eq_true, decide_eq_true_eq, beq_iff_eq]
 simp at h
 omega
theorem srt_uniq {l l' : List (Int × Int)} (h : Srt l) (h' : Srt l') (hp : l.Perm l') : l = l' :=
 List.Perm.eq_of_pairwise (le := fun x y => barLeB x y = true) (fun a b _ _ h1 h2 => by
  simp only [barLeB, Bool.or_eq_true, Bool.and_eq_true, decide_eq_true_eq, beq_iff_eq] at h1 h2
  exact Prod.ext (by omega) (by omega)) h h' hp
theorem put_srt (hN : 4000000 ≤ N) {c : Int} {L : List (Int × Int)} (hl : L.length ≤ 1000) (hs : Srt L) (x : Int × Int) : S_l2Put N ⟨c, L⟩ x = some ⟨c, srtB (L ++ [x])⟩ := by
 obtain ⟨L', h1, h2, h3⟩ := putP_s hN (g := ⟨c, L⟩) hl x hs
 rw [h1, srt_uniq h2 (srtB_srt (L ++ [x])) (h3.trans ?_)]
 exact ((List.perm_append_singleton x L).symm.trans (List.mergeSort_perm _ _).symm)
theorem withBars_s (hN : 4000000 ≤ N) {c : Int} {L : List (Int × Int)} (hl : L.length ≤ 1000) (x : Int × Int) : I_withBars N ⟨c, L⟩ [x] = some ⟨c, srtB (L ++ [x])⟩ := by
 unfold I_withBars I_copyGraph
 have hl2 : (L ++ [x]).length ≤ 1001 := by simp; omega
 rw [grd_pos (by show L.length ≤ _; omega), Option.bind_some]
 show grd ((([] : List (Int × Int)) ++ L).length + [x].length ≤ 4294967296) ((G_SortFunc_Bar N (([] ++ L) ++ [x])).bind _) = _
 rw [List.nil_append, grd_pos (by simp; omega)]
 unfold G_SortFunc_Bar
 rw [grd_pos (by omega), Option.bind_some]
 show grd (([] ++ L ++ [x]).length = (srtB (L ++ [x])).length) _ = _
 rw [grd_pos (by rw [srtB_len, List.nil_append])]
theorem graph_srt {g : Grf} (h : isGraph g = true) : Srt g.bars := by
 have hp := (isGraph_parts h).2.2
 have ad : ∀ i, i + 1 < g.bars.length → barLeB (g.bars.getD i (0, 0)) (g.bars.getD (i + 1) (0, 0)) = true := by
  intro i hi
  have := hp (i + 1) hi
  simp only [barAt, Bool.and_eq_true, Bool.or_eq_true, decide_eq_true_eq, Nat.add_sub_cancel] at this
  rcases this.2 with h | h
  ·omega
  ·exact h
 have key : ∀ d i, i + d + 1 < g.bars.length → barLeB (g.bars.getD i (0, 0)) (g.bars.getD (i + d + 1) (0, 0)) = true := by
  intro d
  induction d with
  | zero => intro i hi; exact ad i hi
  | succ d ih => intro i hi; exact le_trans' (ih i (by omega)) (ad (i + d + 1) (by omega))
 unfold Srt
 rw [List.pairwise_iff_getElem]
 intro i j hi hj hij
 have := key (j - i - 1) i (by omega)
 rw [show i + (j - i - 1) + 1 = j from by omega] at this
 simpa [List.getD_eq_getElem?_getD, hi, hj] using this
theorem asc_lt {n : Int} {A : List Int} (h : asc n A = true) : ∀ p q : Nat, p < q → q < A.length → A.getD p 0 < A.getD q 0 := by
 have h1 : ∀ i, i < A.length → ascAt n A i = true := by
  simpa [asc, List.all_eq_true] using h
 have h2 : ∀ d p, p + d + 1 < A.length → A.getD p 0 < A.getD (p + d + 1) 0 := by
  intro d
  induction d with
  | zero =>
   intro p hp
   have := h1 (p + 1) hp
   simp only [ascAt, Bool.and_eq_true, Bool.or_eq_true, decide_eq_true_eq, Nat.add_sub_cancel] at this
   show A.getD p 0 < A.getD (p + 1) 0
   rcases this.2 with h | h
   ·omega
   ·exact h
  | succ d ih =>
   intro p hp
   have a1 := ih p (by omega)
   have := h1 (p + d + 1 + 1) (by omega)
   simp only [ascAt, Bool.and_eq_true, Bool.or_eq_true, decide_eq_true_eq, Nat.add_sub_cancel] at this
   show A.getD p 0 < A.getD (p + d + 1 + 1) 0
   rcases this.2 with h | h
   ·omega
   ·omega
 intro p q hpq hq
 have := h2 (q - p - 1) p (by omega)
 rwa [show p + (q - p - 1) + 1 = q from by omega] at this
theorem asc_len8 {n : Int} {A : List Int} (h : asc n A = true) (hn : n ≤ 8) : A.length ≤ 8 := by
 have h1 : ∀ i, i < A.length → ascAt n A i = true := by
  simpa [asc, List.all_eq_true] using h
 have h2 : ∀ i, i < A.length → (i : Int) ≤ A.getD i 0 := by
  intro i
  induction i with
  | zero =>
   intro hi
   have := h1 0 hi
   simp only [ascAt, inB, Bool.and_eq_true, decide_eq_true_eq] at this
   omega
  | succ i ih =>
   intro hi
   have := ih (by omega)
   have := asc_lt h i (i + 1) (by omega) hi
   omega
 by_cases h0 : A.length = 0
 ·omega
 ·have a := h2 (A.length - 1) (by omega)
  have b := h1 (A.length - 1) (by omega)
  simp only [ascAt, inB, Bool.and_eq_true, decide_eq_true_eq] at b
  omega
structure AInv (g : Grf) (A : List Int) (i k : Nat) (L : List (Int × Int)) : Prop where
 srt : Srt L
 len : L.length ≤ 24 + 10 * i + k
 sub : ∀ e ∈ g.bars, e ∈ L
 orig : ∀ e ∈ L, e ∈ g.bars ∨ ∃ p q : Nat, p < q ∧ q < A.length ∧ (p < i ∨ (p = i ∧ q < k)) ∧ e = (A.getD p 0, A.getD q 0)
theorem AInv.cnt {g : Grf} {A : List Int} {i k : Nat} {L : List (Int × Int)} (h : AInv g A i k L) (ha : ∀ p q : Nat, p < q → q < A.length → A.getD p 0 < A.getD q 0) (hik : i < k) (hk : k < A.length) :
  (cntB L (A.getD i 0) (A.getD k 0) == 0) = (cntB g.bars (A.getD i 0) (A.getD k 0) == 0) := by
 rw [cntB_zero, cntB_zero, Bool.eq_iff_iff, List.all_eq_true, List.all_eq_true]
 constructor
 ·intro h2 e he; exact h2 e (h.sub e he)
 ·intro h2 e he
  rcases h.orig e he with he | ⟨p, q, h3, h4, h5, rfl⟩
  ·exact h2 e he
  ·have a1 := ha p q h3 h4
   have a2 := ha i k hik hk
   simp only [sameB, Bool.not_eq_true', Bool.or_eq_false_iff, Bool.and_eq_false_iff, beq_eq_false_iff_ne]
   rcases h5 with h5 | ⟨rfl, h5⟩
   ·have a3 := ha p i h5 (by omega)
    exact ⟨.inl (by omega), .inl (by omega)⟩
   ·have a3 := ha q k h5 hk
    exact ⟨.inr (by omega), .inl (by omega)⟩
def aStep (g : Grf) (A : List Int) (i k : Nat) (L : List (Int × Int)) : List (Int × Int) := cnd (cntB g.bars (A.getD i 0) (A.getD k 0) == 0) (srtB (L ++ [(A.getD i 0, A.getD k 0)])) L
theorem AInv.step {g : Grf} {A : List Int} {i k : Nat} {L : List (Int × Int)} (h : AInv g A i k L) (hik : i < k) (hk : k < A.length) : AInv g A i (k + 1) (aStep g A i k L) := by
 unfold aStep
 cases (cntB g.bars (A.getD i 0) (A.getD k 0) == 0) with
 | true =>
  rw [cnd_true]
  have hm : ∀ e, e ∈ srtB (L ++ [(A.getD i 0, A.getD k 0)]) ↔ e ∈ L ∨ e = (A.getD i 0, A.getD k 0) := fun e => by simp [srtB]
  refine ⟨srtB_srt _, ?_, fun e he => (hm e).2 (.inl (h.sub e he)), fun e he => ?_⟩
  ·rw [srtB_len]; have := h.len; simp; omega
  ·rcases (hm e).1 he with he | rfl
   ·rcases h.orig e he with he | ⟨p, q, h3, h4, h5, rfl⟩
    ·exact .inl he
    ·exact .inr ⟨p, q, h3, h4, by omega, rfl⟩
   ·exact .inr ⟨i, k, hik, hk, by omega, rfl⟩
 | false =>
  rw [cnd_false]
  refine ⟨h.srt, by have := h.len; omega, h.sub, fun e he => ?_⟩
  rcases h.orig e he with he | ⟨p, q, h3, h4, h5, rfl⟩
  ·exact .inl he
  ·exact .inr ⟨p, q, h3, h4, by omega, rfl⟩
theorem AInv.next {g : Grf} {A : List Int} {i : Nat} {L : List (Int × Int)} (h8 : A.length ≤ 8) (h : AInv g A i A.length L) : AInv g A (i + 1) (i + 2) L :=
 ⟨h.srt, by have := h.len; omega, h.sub, fun e he => by
  rcases h.orig e he with he | ⟨p, q, h3, h4, h5, rfl⟩
  ·exact .inl he
  ·exact .inr ⟨p, q, h3, h4, by omega, rfl⟩⟩
theorem anch_l2 (hN : 4000000 ≤ N) {g : Grf} (hb : g.bars.length ≤ 24) {A : List Int} (h8 : A.length ≤ 8) (ha : ∀ p q : Nat, p < q → q < A.length → A.getD p 0 < A.getD q 0) {i : Nat} (hi : i < A.length) {kS kI : List (Int × Int) × Int → Option (Grf × Bool)} :
  ∀ (fuel x : Nat) (L : List (Int × Int)), i + 1 + x ≤ A.length → A.length < fuel + (i + 1 + x) → AInv g A i (i + 1 + x) L →
  ∃ L', AInv g A i A.length L' ∧ S_AnchoredGraph_l2 N A (i : Int) kS fuel (L, ((i + 1 + x : Nat) : Int), g.n) = kS (L', g.n) ∧ I_AnchoredGraph_l2 N g A (i : Int) kI fuel (L, (x : Int), g.n) = kI (L', g.n) := by
 intro fuel
 induction fuel with
 | zero => intro x L h1 h2; omega
 | succ fuel ih =>
  intro x L h1 h2 hI
  have et : (A.take A.length).drop (((i : Int) + 1).toNat) = A.drop (i + 1) := by rw [List.take_length, show ((i : Int) + 1).toNat = i + 1 from by omega]
  have el : (A.drop (i + 1)).length = A.length - (i + 1) := List.length_drop
  have eg : (A.drop (i + 1)).getD x 0 = A.getD (i + 1 + x) 0 := by rw [List.getD_eq_getElem?_getD, List.getElem?_drop, ← List.getD_eq_getElem?_getD]
  have ei : ((i : Int)).toNat = i := by omega
  have ex : ((x : Int)).toNat = x := by omega
  have ek : (((i + 1 + x : Nat) : Int)).toNat = i + 1 + x := by omega
  have hlL := hI.len
  rw [S_AnchoredGraph_l2, I_AnchoredGraph_l2, et, el, ei, ex, ek, eg]
  by_cases hk : i + 1 + x < A.length
  ·have hst := hI.step (by omega) hk
   have hc := hI.cnt ha (by omega) hk
   have hab := ha i (i + 1 + x) (by omega) hk
   rw [cnd_dt (by omega), cnd_dt (by omega), grd_pos (by omega), grd_pos (by omega), grd_pos (p := 0 ≤ (x : Int) ∧ (x : Int) < ((A.length - (i + 1) : Nat) : Int)) (by omega), countS_s hN (g := ⟨g.n, L⟩) (by show L.length ≤ _; omega), countI_s hN (by omega), Option.bind_some, Option.bind_some]
   rw [show cntB (Grf.mk g.n L).bars (A.getD i 0) (A.getD (i + 1 + x) 0) = cntB L (A.getD i 0) (A.getD (i + 1 + x) 0) from rfl, hc]
   have ebar : I_bar N (A.getD i 0) (A.getD (i + 1 + x) 0) = some (A.getD i 0, A.getD (i + 1 + x) 0) := by
    unfold I_bar; rw [show min (A.getD i 0) (A.getD (i + 1 + x) 0) = A.getD i 0 from by omega, show max (A.getD i 0) (A.getD (i + 1 + x) 0) = A.getD (i + 1 + x) 0 from by omega]
   rw [ebar, Option.bind_some, put_srt hN (by omega) hI.srt, withBars_s hN (by omega), Option.bind_some, Option.bind_some]
   obtain ⟨L', g1, g2, g3⟩ := ih (x + 1) (aStep g A i (i + 1 + x) L) (by omega) (by omega) hst
   refine ⟨L', g1, ?_, ?_⟩
   ·rw [← g2]
    unfold aStep
    cases (cntB g.bars (A.getD i 0) (A.getD (i + 1 + x) 0) == 0) with
    | true => rw [cnd_true, cnd_true, grd_R (by omega) (by omega)]; rfl
    | false => rw [cnd_false, cnd_false, grd_R (by omega) (by omega)]; rfl
   ·rw [← g3]
    unfold aStep
    cases (cntB g.bars (A.getD i 0) (A.getD (i + 1 + x) 0) == 0) with
    | true => rw [cnd_true, cnd_true, grd_R (by omega) (by omega)]; rfl
    | false => rw [cnd_false, cnd_false, grd_R (by omega) (by omega)]; rfl
  ·have e : i + 1 + x = A.length := by omega
   rw [cnd_df (by omega), cnd_df (by omega)]
   exact ⟨L, by rw [← e]; exact hI, rfl, rfl⟩
theorem anch_l1 (hN : 4000000 ≤ N) {g : Grf} (hb : g.bars.length ≤ 24) {A : List Int} (h8 : A.length ≤ 8) (ha : ∀ p q : Nat, p < q → q < A.length → A.getD p 0 < A.getD q 0) {kS kI : List (Int × Int) × Int → Option (Grf × Bool)} :
  ∀ (fuel i : Nat) (L : List (Int × Int)), i ≤ A.length → A.length < fuel + i → AInv g A i (i + 1) L →
  ∃ L', L'.length ≤ 1000 ∧ S_AnchoredGraph_l1 N A kS fuel (L, (i : Int), g.n) = kS (L', g.n) ∧ I_AnchoredGraph_l1 N g A kI fuel (L, (i : Int), g.n) = kI (L', g.n) := by
 intro fuel
 induction fuel with
 | zero => intro i L h1 h2; omega
 | succ fuel ih =>
  intro i L h1 h2 hI
  rw [S_AnchoredGraph_l1, I_AnchoredGraph_l1]
  by_cases hi : i < A.length
  ·rw [cnd_dt (by omega), cnd_dt (by omega), grd_R (by omega) (by omega), grd_pos (by omega), grd_R (by omega) (by omega), grd_pos (by omega)]
   obtain ⟨L1, g1, g2, g3⟩ := anch_l2 hN hb h8 ha hi (kS := fun x => match x with | (l127, c128) => S_AnchoredGraph_l1 N A kS fuel (l127, ((i : Int) + 1), c128)) (kI := fun x => match x with | (l160, c161) => I_AnchoredGraph_l1 N g A kI fuel (l160, ((i : Int) + 1), c161)) N 0 L (by omega) (by omega) hI
   obtain ⟨L', k1, k2, k3⟩ := ih (i + 1) L1 (by omega) (by omega) (g1.next h8)
   exact ⟨L', k1, g2.trans k2, g3.trans k3⟩
  ·rw [cnd_df (by omega), cnd_df (by omega)]
   exact ⟨L, by have := hI.len; omega, rfl, rfl⟩
end Go.Proofs.YtmoamglpocjhgaaGreat
namespace Go.Proofs.YtmoamglpocjhgaaGreat
open Go.RowKit Go.Deep
theorem VR.str_inv {M : Mp} {A : Bool → Nat → Prop} {w : World} {b : ByteArray} {v : Value} (h : VR M A w (.val (.string b)) v) : v = .string b := by cases h; rfl
section
variable {C : Cx} {o : Oper} {s : PS}
theorem pStrEq {t u : TypeId} {x y : Operand} {a b : ByteArray} (hop : o.op = .binOp .eql t x y u) (hx : s.ev x = .val (.string a)) (hy : s.ev y = .val (.string b)) : Pur C o s (.bool (a.toList == b.toList)) :=
 ⟨fun s1 hs M ac w hr' => by
  have h1 := hr'.ev x
  have h2 := hr'.ev y
  rw [hs x (by rw [hop]; simp [Op.operands]), hx] at h1
  rw [hs y (by rw [hop]; simp [Op.operands]), hy] at h2
  have e1 := h1.str_inv
  have e2 := h2.str_inv
  refine ⟨.bool (a.toList == b.toList), ?_, .bool _⟩
  simp only [execOp, hop, e1, e2]
  simp [eqGuard, go_sem]⟩
end
end Go.Proofs.YtmoamglpocjhgaaGreat
namespace Go.Proofs.YtmoamglpocjhgaaGreat
open Go.RowKit
end Go.Proofs.YtmoamglpocjhgaaGreat
namespace Go.Proofs.YtmoamglpocjhgaaGreat
open Go.RowKit
end Go.Proofs.YtmoamglpocjhgaaGreat
namespace Go.Proofs.YtmoamglpocjhgaaGreat
open Go.RowKit
end Go.Proofs.YtmoamglpocjhgaaGreat
namespace Go.Proofs.YtmoamglpocjhgaaGreat
open Go.RowKit
end Go.Proofs.YtmoamglpocjhgaaGreat
namespace Go.Proofs.YtmoamglpocjhgaaGreat
open Go.RowKit
end Go.Proofs.YtmoamglpocjhgaaGreat
namespace Go.Proofs.YtmoamglpocjhgaaGreat
open Go.RowKit Go.Deep
end Go.Proofs.YtmoamglpocjhgaaGreat
namespace Go.Proofs.YtmoamglpocjhgaaGreat
open Go.RowKit
def S_l5With_l1 (N : Nat) (l_0 : List Int) (x_1 : Int) (k : ((List Int) × Bool) → Option (List Int)) : Nat → ((List Int) × Bool × Int) → Option (List Int)
 | 0, _ => none
 | n + 1, (l19, placed20, i21) =>
  cnd (decide (i21 < (l_0.length : Int))) (
   grd (0 ≤ i21 ∧ i21 < (l_0.length : Int)) <|
   jn (fun (placed24 : Bool) =>
      cnd (decide ((l_0.getD ((i21).toNat) 0) > x_1)) (
       cnd (!placed24) (
        grd (l19.length + 1 ≤ 4294967296) <|
        grd ((l19 ++ ([x_1] : List Int)).length + 1 ≤ 4294967296) <|
        grd (Rg64 (i21 + (1 : Int))) <|
        S_l5With_l1 N l_0 x_1 k n (((l19 ++ ([x_1] : List Int)) ++ ([(l_0.getD ((i21).toNat) 0)] : List Int)), true, (i21 + (1 : Int)))) (
        grd (l19.length + 1 ≤ 4294967296) <|
        grd (Rg64 (i21 + (1 : Int))) <|
        S_l5With_l1 N l_0 x_1 k n ((l19 ++ ([(l_0.getD ((i21).toNat) 0)] : List Int)), placed24, (i21 + (1 : Int))))) (
       grd (l19.length + 1 ≤ 4294967296) <|
       grd (Rg64 (i21 + (1 : Int))) <|
       S_l5With_l1 N l_0 x_1 k n ((l19 ++ ([(l_0.getD ((i21).toNat) 0)] : List Int)), placed24, (i21 + (1 : Int))))) fun k25 =>
    cnd ((l_0.getD ((i21).toNat) 0) == x_1) (
     k25 true) (
     k25 placed20)) (
   k (l19, placed20))
def S_l5With (N : Nat) (l_0 : List Int) (x_1 : Int) : Option (List Int) :=
 S_l5With_l1 N l_0 x_1 (fun (x : (List Int) × Bool) =>
   match x with
   | (l12, placed13) =>
    cnd (!placed13) (
     grd (l12.length + 1 ≤ 4294967296) <|
     some (l12 ++ ([x_1] : List Int))) (
     some l12)) N (([] : List Int), false, (0 : Int))
set_option maxRecDepth 20000 in
set_option maxHeartbeats 1600000 in
theorem S_l5With_w (N : Nat) (l_0 : List Int) (x_1 : Int) (r : List Int) (h : S_l5With N l_0 x_1 = some r) : PCall Tryz.prog 34 [.ro false (.ints l_0), .int x_1] [(3, .ints r)] (.row 0 0 r.length) := by
 unfold S_l5With at h
 refine pcall_intro (TT := TT) tt Tryz.func34 rfl rfl Tryz.ntmps34 (congrArg Array.toList Tryz.results34) rfl rfl fun w0 => ?_
 refine vSeq ?_
 refine vRegion ?_
 refine oVal tt rfl rfl rfl rfl rfl trivial ?_
 refine vNil ?_
 change VC _ _ _ _
 refine vSeq ?_
 refine vRegion ?_
 refine oEmpty tt (wNone rfl) rfl rfl rfl rfl ?_
 refine oVal tt rfl rfl rfl rfl rfl trivial ?_
 refine vNil ?_
 change VC _ _ _ _
 refine vSeq ?_
 refine vRegion ?_
 refine oVal tt rfl rfl rfl rfl rfl trivial ?_
 refine vNil ?_
 change VC _ _ _ _
 iterate 2 refine vSeq ?_
 refine vRegion ?_
 refine oVal tt rfl rfl rfl rfl rfl trivial ?_
 refine vNil ?_
 change VC _ _ _ _
 refine vJoin (F := fun k => S_l5With_l1 N l_0 x_1 k) h (α := (List Int) × Bool) (J := fun | (l12, placed13) => (⟨[(1, .int x_1), (5, .row 34 0 l12.length), (6, .bool placed13)], [(34, some (3, .ints l12))], []⟩ : PS)) ?_ ?_
 ·rintro ⟨l12, placed13⟩ h
  show VC _ _ _ (⟨[(1, .int x_1), (5, .row 34 0 l12.length), (6, .bool placed13)], [(34, some (3, .ints l12))], []⟩ : PS)
  iterate 2 refine vSeq ?_
  refine vRegion ?_
  iterate 2 refine oVal tt rfl rfl rfl rfl rfl trivial ?_
  refine vNil ?_
  change VC _ _ _ _
  refine vCond rfl (fun hb1 => ?_) (fun hb1 => ?_)
  ·replace h := cnd_t hb1 h
   refine vRegion ?_
   iterate 2 refine oVal tt rfl rfl rfl rfl rfl trivial ?_
   refine oBuild tt rfl rfl rfl rfl rfl rfl rfl rfl rfl rfl rfl ?_
   obtain ⟨hg2, h⟩ := grd_inv h
   refine oAppend tt rfl rfl rfl rfl rfl rfl rfl rfl rfl rfl rfl rfl rfl rfl rfl rfl (Nat.le_of_eq (Nat.zero_add _)) hg2 ?_
   refine oVal tt rfl rfl rfl rfl rfl trivial ?_
   refine vNil ?_
   change VC _ _ _ _
   refine vSeq ?_
   refine vRegion ?_
   iterate 2 refine oVal tt rfl rfl rfl rfl rfl trivial ?_
   refine vNil ?_
   change VC _ _ _ _
   refine vRet ?_
   change ∃ _, _
   cases h
   exact ⟨[34], _, rfl, ⟨rfl, trivial⟩, rfl, (.eq rfl), rfl⟩
  ·replace h := cnd_f hb1 h
   refine vSkip ?_
   change VC _ _ _ _
   refine vSeq ?_
   refine vRegion ?_
   iterate 2 refine oVal tt rfl rfl rfl rfl rfl trivial ?_
   refine vNil ?_
   change VC _ _ _ _
   refine vRet ?_
   change ∃ _, _
   cases h
   exact ⟨[34], _, rfl, ⟨rfl, trivial⟩, rfl, (.eq rfl), rfl⟩
 ·intro k h
  refine vBlock ?_
  refine vNilT 5 34 3 (.ints []) rfl rfl rfl rfl ?_
  refine vLoopS (α := (List Int) × Bool × Int) (fun | (l19, placed20, i21) => (⟨[(0, .ro false (.ints l_0)), (1, .int x_1), (5, .row 34 0 l19.length), (6, .bool placed20), (7, .int i21)], [(34, some (3, .ints l19))], []⟩ : PS)) (S_l5With_l1 N l_0 x_1 k) h (En.of ⟨rfl, rfl, rfl, rfl, rfl, trivial⟩ ⟨rfl, trivial⟩ trivial) (fun _ => rfl) ?_
  rintro n ⟨l19, placed20, i21⟩ h
  rw [S_l5With_l1] at h
  show VC _ _ _ (⟨[(0, .ro false (.ints l_0)), (1, .int x_1), (5, .row 34 0 l19.length), (6, .bool placed20), (7, .int i21)], [(34, some (3, .ints l19))], []⟩ : PS)
  iterate 2 refine vSeq ?_
  refine vRegion ?_
  iterate 4 refine oVal tt rfl rfl rfl rfl rfl trivial ?_
  refine vNil ?_
  change VC _ _ _ _
  refine vCond rfl (fun hb3 => ?_) (fun hb3 => ?_)
  ·replace h := cnd_t hb3 h
   refine vSkip ?_
   change VC _ _ _ _
   refine vSeq ?_
   refine vBlock ?_
   iterate 2 refine vSeq ?_
   refine vRegion ?_
   iterate 2 refine oVal tt rfl rfl rfl rfl rfl trivial ?_
   obtain ⟨hg4, h⟩ := grd_inv h
   refine oVal tt rfl rfl rfl rfl rfl hg4 ?_
   iterate 3 refine oVal tt rfl rfl rfl rfl rfl trivial ?_
   refine vNil ?_
   change VC _ _ _ _
   refine vJoinN h (α := Bool) (J := fun (placed24 : Bool) => (⟨[(0, .ro false (.ints l_0)), (1, .int x_1), (5, .row 34 0 l19.length), (6, .bool placed24), (7, .int i21)], [(34, some (3, .ints l19))], []⟩ : PS)) ?_ ?_
   ·rintro placed24 h
    show VC _ _ _ (⟨[(0, .ro false (.ints l_0)), (1, .int x_1), (5, .row 34 0 l19.length), (6, .bool placed24), (7, .int i21)], [(34, some (3, .ints l19))], []⟩ : PS)
    iterate 2 refine vSeq ?_
    refine vRegion ?_
    iterate 2 refine oVal tt rfl rfl rfl rfl rfl trivial ?_
    refine oVal tt rfl rfl rfl rfl rfl hg4 ?_
    iterate 4 refine oVal tt rfl rfl rfl rfl rfl trivial ?_
    refine oSplit rfl rfl rfl (fun hb5 => ?_) (fun hb5 => ?_)
    ·replace h := cnd_t hb5 h
     iterate 2 refine oValG tt rfl rfl rfl rfl rfl hb5 rfl rfl rfl trivial ?_
     refine oPick rfl rfl rfl rfl rfl hb5 rfl ?_
     refine vNil ?_
     change VC _ _ _ _
     refine vCond rfl (fun hb6 => ?_) (fun hb6 => ?_)
     ·replace h := cnd_t hb6 h
      refine vSeq ?_
      refine vRegion ?_
      iterate 2 refine oVal tt rfl rfl rfl rfl rfl trivial ?_
      refine oBuild tt rfl rfl rfl rfl rfl rfl rfl rfl rfl rfl rfl ?_
      obtain ⟨hg7, h⟩ := grd_inv h
      refine oAppend tt rfl rfl rfl rfl rfl rfl rfl rfl rfl rfl rfl rfl rfl rfl rfl rfl (Nat.le_of_eq (Nat.zero_add _)) hg7 ?_
      refine oVal tt rfl rfl rfl rfl rfl trivial ?_
      refine vNil ?_
      change VC _ _ _ _
      refine vRegion ?_
      refine oVal tt rfl rfl rfl rfl rfl trivial ?_
      refine vNil ?_
      change VC _ _ _ _
      refine vRegion ?_
      iterate 3 refine oVal tt rfl rfl rfl rfl rfl trivial ?_
      refine oVal tt rfl rfl rfl rfl rfl hg4 ?_
      refine oVal tt rfl rfl rfl rfl rfl trivial ?_
      refine oBuild tt rfl rfl rfl rfl rfl rfl rfl rfl rfl rfl rfl ?_
      obtain ⟨hg8, h⟩ := grd_inv h
      refine oAppend tt rfl rfl rfl rfl rfl rfl rfl rfl rfl rfl rfl rfl rfl rfl rfl rfl (Nat.le_of_eq (Nat.zero_add _)) hg8 ?_
      refine oVal tt rfl rfl rfl rfl rfl trivial ?_
      refine vNil ?_
      change VC _ _ _ _
      refine vRegion ?_
      refine oVal tt rfl rfl rfl rfl rfl trivial ?_
      obtain ⟨hg9, h⟩ := grd_inv h
      refine oVal tt rfl rfl rfl rfl rfl hg9 ?_
      refine oVal tt rfl rfl rfl rfl rfl trivial ?_
      refine vNil ?_
      change ∃ _, _
      exact ⟨(((l19 ++ ([x_1] : List Int)) ++ ([(l_0.getD ((i21).toNat) 0)] : List Int)), true, (i21 + (1 : Int))), (En.of ⟨rfl, rfl, rfl, rfl, rfl, trivial⟩ ⟨rfl, trivial⟩ trivial), h⟩
     ·replace h := cnd_f hb6 h
      refine vSkip ?_
      change VC _ _ _ _
      refine vRegion ?_
      iterate 3 refine oVal tt rfl rfl rfl rfl rfl trivial ?_
      refine oVal tt rfl rfl rfl rfl rfl hg4 ?_
      refine oVal tt rfl rfl rfl rfl rfl trivial ?_
      refine oBuild tt rfl rfl rfl rfl rfl rfl rfl rfl rfl rfl rfl ?_
      obtain ⟨hg10, h⟩ := grd_inv h
      refine oAppend tt rfl rfl rfl rfl rfl rfl rfl rfl rfl rfl rfl rfl rfl rfl rfl rfl (Nat.le_of_eq (Nat.zero_add _)) hg10 ?_
      refine oVal tt rfl rfl rfl rfl rfl trivial ?_
      refine vNil ?_
      change VC _ _ _ _
      refine vRegion ?_
      refine oVal tt rfl rfl rfl rfl rfl trivial ?_
      obtain ⟨hg11, h⟩ := grd_inv h
      refine oVal tt rfl rfl rfl rfl rfl hg11 ?_
      refine oVal tt rfl rfl rfl rfl rfl trivial ?_
      refine vNil ?_
      change ∃ _, _
      exact ⟨((l19 ++ ([(l_0.getD ((i21).toNat) 0)] : List Int)), placed24, (i21 + (1 : Int))), (En.of ⟨rfl, rfl, rfl, rfl, rfl, trivial⟩ ⟨rfl, trivial⟩ trivial), h⟩
    ·replace h := cnd_f hb5 h
     iterate 2 refine oNoT rfl rfl rfl rfl hb5 rfl rfl ?_
     refine oPickF rfl rfl rfl rfl rfl hb5 rfl ?_
     refine vNil ?_
     change VC _ _ _ _
     refine vCondF rfl rfl ?_
     refine vSkip ?_
     change VC _ _ _ _
     refine vRegion ?_
     iterate 3 refine oVal tt rfl rfl rfl rfl rfl trivial ?_
     refine oVal tt rfl rfl rfl rfl rfl hg4 ?_
     refine oVal tt rfl rfl rfl rfl rfl trivial ?_
     refine oBuild tt rfl rfl rfl rfl rfl rfl rfl rfl rfl rfl rfl ?_
     obtain ⟨hg12, h⟩ := grd_inv h
     refine oAppend tt rfl rfl rfl rfl rfl rfl rfl rfl rfl rfl rfl rfl rfl rfl rfl rfl (Nat.le_of_eq (Nat.zero_add _)) hg12 ?_
     refine oVal tt rfl rfl rfl rfl rfl trivial ?_
     refine vNil ?_
     change VC _ _ _ _
     refine vRegion ?_
     refine oVal tt rfl rfl rfl rfl rfl trivial ?_
     obtain ⟨hg13, h⟩ := grd_inv h
     refine oVal tt rfl rfl rfl rfl rfl hg13 ?_
     refine oVal tt rfl rfl rfl rfl rfl trivial ?_
     refine vNil ?_
     change ∃ _, _
     exact ⟨((l19 ++ ([(l_0.getD ((i21).toNat) 0)] : List Int)), placed24, (i21 + (1 : Int))), (En.of ⟨rfl, rfl, rfl, rfl, rfl, trivial⟩ ⟨rfl, trivial⟩ trivial), h⟩
   ·intro k25 h
    refine vCond rfl (fun hb14 => ?_) (fun hb14 => ?_)
    ·replace h := cnd_t hb14 h
     refine vRegion ?_
     refine oVal tt rfl rfl rfl rfl rfl trivial ?_
     refine vNil ?_
     change ∃ _, _
     exact ⟨true, (En.of ⟨rfl, rfl, rfl, rfl, rfl, trivial⟩ ⟨rfl, trivial⟩ trivial), h⟩
    ·replace h := cnd_f hb14 h
     refine vSkip ?_
     change ∃ _, _
     exact ⟨placed20, (En.of ⟨rfl, rfl, rfl, rfl, rfl, trivial⟩ ⟨rfl, trivial⟩ trivial), h⟩
  ·replace h := cnd_f hb3 h
   refine vExit ?_
   change ∃ _, _
   exact ⟨(l19, placed20), (En.of ⟨rfl, rfl, rfl, trivial⟩ ⟨rfl, trivial⟩ trivial), h⟩
end Go.Proofs.YtmoamglpocjhgaaGreat
namespace Go.Proofs.YtmoamglpocjhgaaGreat
open Go.RowKit
def S_WhyNotGlobal (N : Nat) (g_0 : Grf) : Option (ByteArray) :=
 (S_l17Simple N g_0).bind fun v1 =>
 cnd (!v1) (
  some (ByteArray.mk #[103, 114, 97, 112, 104])) (
  cnd (decide (g_0.n ≤ (3 : Int))) (
   grd (Rg64 (g_0.n - (1 : Int))) <|
   grd (Rg64 (g_0.n * (g_0.n - (1 : Int)))) <|
   grd ((2 : Int) ≠ 0 ∧ Rg64 (Int.tdiv (g_0.n * (g_0.n - (1 : Int))) (2 : Int))) <|
   cnd (decide ((g_0.bars.length : Int) < (Int.tdiv (g_0.n * (g_0.n - (1 : Int))) (2 : Int)))) (
    some (ByteArray.mk #[114, 105, 103, 105, 100])) (
    some (ByteArray.mk #[]))) (
   (S_IsRigid N g_0).bind fun v2 =>
   cnd (!v2) (
    some (ByteArray.mk #[114, 105, 103, 105, 100])) (
    (S_IsKConnected N g_0 (3 : Int)).bind fun v3 =>
    cnd (!v3) (
     some (ByteArray.mk #[99, 111, 110, 110, 101, 99, 116, 101, 100])) (
     (S_IsRedundantlyRigid N g_0).bind fun v4 =>
     cnd (!v4) (
      some (ByteArray.mk #[114, 101, 100, 117, 110, 100, 97, 110, 116])) (
      some (ByteArray.mk #[]))))))
set_option maxRecDepth 20000 in
set_option maxHeartbeats 1600000 in
theorem S_WhyNotGlobal_w (N : Nat) (g_0 : Grf) (r : ByteArray) (h : S_WhyNotGlobal N g_0 = some r) : PCall Tryz.prog 65 [gD g_0] [] (.val (.string r)) := by
 unfold S_WhyNotGlobal at h
 refine pcall_intro (TT := TT) tt Tryz.func65 rfl rfl Tryz.ntmps65 (congrArg Array.toList Tryz.results65) rfl rfl fun w0 => ?_
 refine vSeq ?_
 refine vRegion ?_
 refine oBox rfl rfl rfl rfl rfl rfl rfl rfl rfl ?_
 refine oVal tt rfl rfl rfl rfl rfl trivial ?_
 refine vNil ?_
 change VC _ _ _ _
 refine vSeq ?_
 refine vBlock ?_
 refine vSeq ?_
 refine vRegion ?_
 refine oVal tt rfl rfl rfl rfl rfl trivial ?_
 obtain ⟨v1, hc1, h⟩ := bind_inv h
 refine oCall (S_l17Simple_w N g_0 v1 hc1) rfl rfl rfl rfl rfl rfl rfl rfl ⟨⟨rfl, rfl, trivial⟩, trivial⟩ ?_
 iterate 2 refine oVal tt rfl rfl rfl rfl rfl trivial ?_
 refine vNil ?_
 change VC _ _ _ _
 refine vCond rfl (fun hb2 => ?_) (fun hb2 => ?_)
 ·replace h := cnd_t hb2 h
  refine vSeq ?_
  refine vRegion ?_
  refine oVal tt rfl rfl rfl rfl rfl trivial ?_
  refine vNil ?_
  change VC _ _ _ _
  refine vRet ?_
  change ∃ _, _
  cases h
  exact ⟨[], _, rfl, trivial, rfl, (.eq rfl), rfl⟩
 ·replace h := cnd_f hb2 h
  refine vSeq ?_
  refine vRegion ?_
  iterate 4 refine oVal tt rfl rfl rfl rfl rfl trivial ?_
  refine vNil ?_
  change VC _ _ _ _
  refine vCond rfl (fun hb3 => ?_) (fun hb3 => ?_)
  ·replace h := cnd_t hb3 h
   iterate 2 refine vSeq ?_
   refine vRegion ?_
   iterate 7 refine oVal tt rfl rfl rfl rfl rfl trivial ?_
   obtain ⟨hg4, h⟩ := grd_inv h
   refine oVal tt rfl rfl rfl rfl rfl hg4 ?_
   obtain ⟨hg5, h⟩ := grd_inv h
   refine oVal tt rfl rfl rfl rfl rfl hg5 ?_
   obtain ⟨hg6, h⟩ := grd_inv h
   refine oVal tt rfl rfl rfl rfl rfl hg6 ?_
   refine oVal tt rfl rfl rfl rfl rfl trivial ?_
   refine vNil ?_
   change VC _ _ _ _
   refine vCond rfl (fun hb7 => ?_) (fun hb7 => ?_)
   ·replace h := cnd_t hb7 h
    refine vSeq ?_
    refine vRegion ?_
    refine oVal tt rfl rfl rfl rfl rfl trivial ?_
    refine vNil ?_
    change VC _ _ _ _
    refine vRet ?_
    change ∃ _, _
    cases h
    exact ⟨[], _, rfl, trivial, rfl, (.eq rfl), rfl⟩
   ·replace h := cnd_f hb7 h
    refine vSkip ?_
    change VC _ _ _ _
    refine vSeq ?_
    refine vRegion ?_
    refine oVal tt rfl rfl rfl rfl rfl trivial ?_
    refine vNil ?_
    change VC _ _ _ _
    refine vRet ?_
    change ∃ _, _
    cases h
    exact ⟨[], _, rfl, trivial, rfl, (.eq rfl), rfl⟩
  ·replace h := cnd_f hb3 h
   refine vSeq ?_
   refine vRegion ?_
   refine oVal tt rfl rfl rfl rfl rfl trivial ?_
   obtain ⟨v2, hc8, h⟩ := bind_inv h
   refine oCall (S_IsRigid_w N g_0 v2 hc8) rfl rfl rfl rfl rfl rfl rfl rfl ⟨⟨rfl, rfl, trivial⟩, trivial⟩ ?_
   iterate 2 refine oVal tt rfl rfl rfl rfl rfl trivial ?_
   refine vNil ?_
   change VC _ _ _ _
   refine vCond rfl (fun hb9 => ?_) (fun hb9 => ?_)
   ·replace h := cnd_t hb9 h
    refine vSeq ?_
    refine vRegion ?_
    refine oVal tt rfl rfl rfl rfl rfl trivial ?_
    refine vNil ?_
    change VC _ _ _ _
    refine vRet ?_
    change ∃ _, _
    cases h
    exact ⟨[], _, rfl, trivial, rfl, (.eq rfl), rfl⟩
   ·replace h := cnd_f hb9 h
    refine vSeq ?_
    refine vRegion ?_
    refine oVal tt rfl rfl rfl rfl rfl trivial ?_
    obtain ⟨v3, hc10, h⟩ := bind_inv h
    refine oCall (S_IsKConnected_w N g_0 (3 : Int) v3 hc10) rfl rfl rfl rfl rfl rfl rfl rfl ⟨⟨rfl, rfl, trivial⟩, rfl, trivial⟩ ?_
    iterate 2 refine oVal tt rfl rfl rfl rfl rfl trivial ?_
    refine vNil ?_
    change VC _ _ _ _
    refine vCond rfl (fun hb11 => ?_) (fun hb11 => ?_)
    ·replace h := cnd_t hb11 h
     refine vSeq ?_
     refine vRegion ?_
     refine oVal tt rfl rfl rfl rfl rfl trivial ?_
     refine vNil ?_
     change VC _ _ _ _
     refine vRet ?_
     change ∃ _, _
     cases h
     exact ⟨[], _, rfl, trivial, rfl, (.eq rfl), rfl⟩
    ·replace h := cnd_f hb11 h
     refine vSeq ?_
     refine vRegion ?_
     refine oVal tt rfl rfl rfl rfl rfl trivial ?_
     obtain ⟨v4, hc12, h⟩ := bind_inv h
     refine oCall (S_IsRedundantlyRigid_w N g_0 v4 hc12) rfl rfl rfl rfl rfl rfl rfl rfl ⟨⟨rfl, rfl, trivial⟩, trivial⟩ ?_
     iterate 2 refine oVal tt rfl rfl rfl rfl rfl trivial ?_
     refine vNil ?_
     change VC _ _ _ _
     refine vCond rfl (fun hb13 => ?_) (fun hb13 => ?_)
     ·replace h := cnd_t hb13 h
      refine vSeq ?_
      refine vRegion ?_
      refine oVal tt rfl rfl rfl rfl rfl trivial ?_
      refine vNil ?_
      change VC _ _ _ _
      refine vRet ?_
      change ∃ _, _
      cases h
      exact ⟨[], _, rfl, trivial, rfl, (.eq rfl), rfl⟩
     ·replace h := cnd_f hb13 h
      refine vSkip ?_
      change VC _ _ _ _
      refine vSeq ?_
      refine vRegion ?_
      refine oVal tt rfl rfl rfl rfl rfl trivial ?_
      refine vNil ?_
      change VC _ _ _ _
      refine vRet ?_
      change ∃ _, _
      cases h
      exact ⟨[], _, rfl, trivial, rfl, (.eq rfl), rfl⟩
def S_IsGloballyRigid (N : Nat) (g_0 : Grf) : Option (Bool) :=
 (S_WhyNotGlobal N g_0).bind fun v1 =>
 some (v1.toList == (ByteArray.mk #[]).toList)
set_option maxRecDepth 20000 in
set_option maxHeartbeats 1600000 in
theorem S_IsGloballyRigid_w (N : Nat) (g_0 : Grf) (r : Bool) (h : S_IsGloballyRigid N g_0 = some r) : PCall Tryz.prog 32 [gD g_0] [] (.bool r) := by
 unfold S_IsGloballyRigid at h
 refine pcall_intro (TT := TT) tt Tryz.func32 rfl rfl Tryz.ntmps32 (congrArg Array.toList Tryz.results32) rfl rfl fun w0 => ?_
 refine vSeq ?_
 refine vRegion ?_
 refine oBox rfl rfl rfl rfl rfl rfl rfl rfl rfl ?_
 refine oVal tt rfl rfl rfl rfl rfl trivial ?_
 refine vNil ?_
 change VC _ _ _ _
 refine vSeq ?_
 refine vRegion ?_
 refine oVal tt rfl rfl rfl rfl rfl trivial ?_
 obtain ⟨v1, hc1, h⟩ := bind_inv h
 refine oCall (S_WhyNotGlobal_w N g_0 v1 hc1) rfl rfl rfl rfl rfl rfl rfl rfl ⟨⟨rfl, rfl, trivial⟩, trivial⟩ ?_
 refine oPure (wNone rfl) (pStrEq rfl rfl rfl) rfl rfl ?_
 refine oVal tt rfl rfl rfl rfl rfl trivial ?_
 refine vNil ?_
 change VC _ _ _ _
 refine vRet ?_
 change ∃ _, _
 cases h
 exact ⟨[], _, rfl, trivial, rfl, (.eq rfl), rfl⟩
def S_LocatedPoints_l2 (N : Nat) (v247 : List Int) (k : (List Int) → Option (List Int)) : Nat → ((List Int) × Int) → Option (List Int)
 | 0, _ => none
 | n + 1, (l268, i269) =>
  cnd (decide (i269 < (v247.length : Int))) (
   grd (0 ≤ i269 ∧ i269 < (v247.length : Int)) <|
   (S_l2Has N l268 (v247.getD ((i269).toNat) 0)).bind fun v272 =>
   cnd (!v272) (
    (S_l5With N l268 (v247.getD ((i269).toNat) 0)).bind fun v273 =>
    grd (Rg64 (i269 + (1 : Int))) <|
    S_LocatedPoints_l2 N v247 k n (v273, (i269 + (1 : Int)))) (
    grd (Rg64 (i269 + (1 : Int))) <|
    S_LocatedPoints_l2 N v247 k n (l268, (i269 + (1 : Int))))) (
   k l268)
def S_LocatedPoints_l3 (N : Nat) (anchors_1 : List Int) (v247 : List Int) (k : Bool → Option (List Int)) : Nat → (Bool × Int) → Option (List Int)
 | 0, _ => none
 | n + 1, (all276, i277) =>
  cnd (decide (i277 < (anchors_1.length : Int))) (
   cnd all276 (
    grd (0 ≤ i277 ∧ i277 < (anchors_1.length : Int)) <|
    (S_l2Has N v247 (anchors_1.getD ((i277).toNat) 0)).bind fun v279 =>
    grd (Rg64 (i277 + (1 : Int))) <|
    S_LocatedPoints_l3 N anchors_1 v247 k n (v279, (i277 + (1 : Int)))) (
    grd (Rg64 (i277 + (1 : Int))) <|
    S_LocatedPoints_l3 N anchors_1 v247 k n (false, (i277 + (1 : Int))))) (
   k all276)
def S_LocatedPoints_l1 (N : Nat) (g_0 : Grf) (anchors_1 : List Int) (v1 : Grf × Bool) (k : (List Int) → Option (List Int)) : Nat → ((List Int) × Int) → Option (List Int)
 | 0, _ => none
 | n + 1, (l212, mask213) =>
  grd (0 ≤ g_0.n ∧ g_0.n < 64 ∧ Rg64 ((1 : Int) * 2 ^ ((g_0.n).toNat))) <|
  cnd (decide (mask213 < ((1 : Int) * 2 ^ ((g_0.n).toNat)))) (
   (S_l3Set N g_0.n mask213).bind fun v247 =>
   S_LocatedPoints_l3 N anchors_1 v247 (fun (all253 : Bool) =>
      cnd all253 (
       (S_l23Part N v1.1 v247).bind fun v254 =>
       (S_IsGloballyRigid N v254).bind fun v255 =>
       cnd v255 (
        S_LocatedPoints_l2 N v247 (fun (l264 : List Int) =>
           grd (Rg64 (mask213 + (1 : Int))) <|
           S_LocatedPoints_l1 N g_0 anchors_1 v1 k n (l264, (mask213 + (1 : Int)))) N (l212, (0 : Int))) (
        grd (Rg64 (mask213 + (1 : Int))) <|
        S_LocatedPoints_l1 N g_0 anchors_1 v1 k n (l212, (mask213 + (1 : Int))))) (
       grd (Rg64 (mask213 + (1 : Int))) <|
       S_LocatedPoints_l1 N g_0 anchors_1 v1 k n (l212, (mask213 + (1 : Int))))) N (true, (0 : Int))) (
   k l212)
def S_LocatedPoints (N : Nat) (g_0 : Grf) (anchors_1 : List Int) : Option (List Int) :=
 (S_AnchoredGraph N g_0 anchors_1).bind fun v1 =>
 cnd (!v1.2) (
  some ([] : List Int)) (
  cnd (decide ((anchors_1.length : Int) < (3 : Int))) (
   some ([] : List Int)) (
   S_LocatedPoints_l1 N g_0 anchors_1 v1 (fun (l140 : List Int) =>
      some l140) N (([] : List Int), (1 : Int))))
set_option maxRecDepth 20000 in
set_option maxHeartbeats 1600000 in
theorem S_LocatedPoints_w (N : Nat) (g_0 : Grf) (anchors_1 : List Int) (r : List Int) (h : S_LocatedPoints N g_0 anchors_1 = some r) : PCall Tryz.prog 7 [gD g_0, .ro false (.ints anchors_1)] [(3, .ints r)] (.row 0 0 r.length) := by
 unfold S_LocatedPoints at h
 refine pcall_intro (TT := TT) tt Tryz.func7 rfl rfl Tryz.ntmps7 (congrArg Array.toList Tryz.results7) rfl rfl fun w0 => ?_
 refine vSeq ?_
 refine vRegion ?_
 refine oBox rfl rfl rfl rfl rfl rfl rfl rfl rfl ?_
 refine oVal tt rfl rfl rfl rfl rfl trivial ?_
 refine vNil ?_
 change VC _ _ _ _
 refine vSeq ?_
 refine vRegion ?_
 refine oEmpty tt (wNone rfl) rfl rfl rfl rfl ?_
 refine oVal tt rfl rfl rfl rfl rfl trivial ?_
 refine vNil ?_
 change VC _ _ _ _
 refine vSeq ?_
 refine vRegion ?_
 iterate 2 refine oVal tt rfl rfl rfl rfl rfl trivial ?_
 obtain ⟨v1, hc1, h⟩ := bind_inv h
 refine oCall (S_AnchoredGraph_w N g_0 anchors_1 v1 hc1) rfl rfl rfl rfl rfl rfl rfl rfl ⟨⟨rfl, rfl, trivial⟩, rfl, trivial⟩ ?_
 iterate 3 refine oVal tt rfl rfl rfl rfl rfl trivial ?_
 refine oAlloc tt rfl rfl rfl rfl rfl rfl rfl rfl rfl ?_
 refine oStore tt rfl rfl rfl rfl rfl rfl rfl rfl rfl rfl rfl ⟨trivial, trivial, trivial⟩ ?_
 refine oVal tt rfl rfl rfl rfl rfl trivial ?_
 refine vNil ?_
 change VC _ _ _ _
 iterate 2 refine vSeq ?_
 refine vRegion ?_
 iterate 3 refine oVal tt rfl rfl rfl rfl rfl trivial ?_
 refine oSplit rfl rfl rfl (fun hb2 => ?_) (fun hb2 => ?_)
 ·replace h := cnd_t hb2 h
  iterate 3 refine oNoF rfl rfl rfl rfl hb2 rfl rfl ?_
  refine oPick rfl rfl rfl rfl rfl hb2 rfl ?_
  refine vNil ?_
  change VC _ _ _ _
  refine vCondT rfl rfl ?_
  refine vSeq ?_
  refine vRegion ?_
  iterate 2 refine oVal tt rfl rfl rfl rfl rfl trivial ?_
  refine vNil ?_
  change VC _ _ _ _
  refine vNilT 4 9001 3 (.ints []) rfl rfl rfl rfl ?_
  refine vRet ?_
  change ∃ _, _
  cases h
  exact ⟨[9001], _, rfl, ⟨rfl, trivial⟩, rfl, (.eq rfl), rfl⟩
 ·replace h := cnd_f hb2 h
  iterate 3 refine oValG tt rfl rfl rfl rfl rfl hb2 rfl rfl rfl trivial ?_
  refine oPickF rfl rfl rfl rfl rfl hb2 rfl ?_
  refine vNil ?_
  change VC _ _ _ _
  refine vCond rfl (fun hb3 => ?_) (fun hb3 => ?_)
  ·replace h := cnd_t hb3 h
   refine vSeq ?_
   refine vRegion ?_
   iterate 2 refine oVal tt rfl rfl rfl rfl rfl trivial ?_
   refine vNil ?_
   change VC _ _ _ _
   refine vNilT 4 9001 3 (.ints []) rfl rfl rfl rfl ?_
   refine vRet ?_
   change ∃ _, _
   cases h
   exact ⟨[9001], _, rfl, ⟨rfl, trivial⟩, rfl, (.eq rfl), rfl⟩
  ·replace h := cnd_f hb3 h
   refine vSkip ?_
   change VC _ _ _ _
   iterate 2 refine vSeq ?_
   refine vRegion ?_
   refine oVal tt rfl rfl rfl rfl rfl trivial ?_
   refine vNil ?_
   change VC _ _ _ _
   refine vJoin (F := fun k => S_LocatedPoints_l1 N g_0 anchors_1 v1 k) h (α := List Int) (J := fun (l140 : List Int) => (⟨[(5, .row 9509 0 l140.length)], [(9509, some (3, .ints l140))], []⟩ : PS)) ?_ ?_
   ·rintro l140 h
    show VC _ _ _ (⟨[(5, .row 9509 0 l140.length)], [(9509, some (3, .ints l140))], []⟩ : PS)
    refine vSeq ?_
    refine vRegion ?_
    iterate 2 refine oVal tt rfl rfl rfl rfl rfl trivial ?_
    refine vNil ?_
    change VC _ _ _ _
    refine vRet ?_
    change ∃ _, _
    cases h
    exact ⟨[9509], _, rfl, ⟨rfl, trivial⟩, rfl, (.eq rfl), rfl⟩
   ·intro k h
    refine vBlock ?_
    refine vNilT 5 9512 3 (.ints []) rfl rfl rfl rfl ?_
    refine vLoopS (α := (List Int) × Int) (fun | (l212, mask213) => (⟨[(1, .ro false (.ints anchors_1)), (2, .ptr 2 0), (5, .row 9512 0 l212.length), (6, .ptr 6 0), (8, .int mask213)], [(9512, some (3, .ints l212)), (1170, some (39, .pairs v1.1.bars))], [(2, some [.int g_0.n, .ro false (.pairs g_0.bars)]), (6, some [.int v1.1.n, .row 1170 0 v1.1.bars.length])]⟩ : PS)) (S_LocatedPoints_l1 N g_0 anchors_1 v1 k) h (En.of ⟨rfl, rfl, rfl, rfl, rfl, trivial⟩ ⟨rfl, rfl, trivial⟩ ⟨rfl, rfl, trivial⟩) (fun _ => rfl) ?_
    rintro n ⟨l212, mask213⟩ h
    rw [S_LocatedPoints_l1] at h
    show VC _ _ _ (⟨[(1, .ro false (.ints anchors_1)), (2, .ptr 2 0), (5, .row 9512 0 l212.length), (6, .ptr 6 0), (8, .int mask213)], [(9512, some (3, .ints l212)), (1170, some (39, .pairs v1.1.bars))], [(2, some [.int g_0.n, .ro false (.pairs g_0.bars)]), (6, some [.int v1.1.n, .row 1170 0 v1.1.bars.length])]⟩ : PS)
    iterate 2 refine vSeq ?_
    refine vRegion ?_
    iterate 3 refine oVal tt rfl rfl rfl rfl rfl trivial ?_
    obtain ⟨hg4, h⟩ := grd_inv h
    refine oVal tt rfl rfl rfl rfl rfl hg4 ?_
    refine oVal tt rfl rfl rfl rfl rfl trivial ?_
    refine vNil ?_
    change VC _ _ _ _
    refine vCond rfl (fun hb5 => ?_) (fun hb5 => ?_)
    ·replace h := cnd_t hb5 h
     refine vSkip ?_
     change VC _ _ _ _
     refine vSeq ?_
     refine vBlock ?_
     refine vSeq ?_
     refine vRegion ?_
     iterate 3 refine oVal tt rfl rfl rfl rfl rfl trivial ?_
     obtain ⟨v247, hc6, h⟩ := bind_inv h
     refine oCall (S_l3Set_w N g_0.n mask213 v247 hc6) rfl rfl rfl rfl rfl rfl rfl rfl ⟨rfl, rfl, trivial⟩ ?_
     refine oVal tt rfl rfl rfl rfl rfl trivial ?_
     refine vNil ?_
     change VC _ _ _ _
     refine vSeq ?_
     refine vRegion ?_
     refine oVal tt rfl rfl rfl rfl rfl trivial ?_
     refine vNil ?_
     change VC _ _ _ _
     iterate 2 refine vSeq ?_
     refine vRegion ?_
     refine oVal tt rfl rfl rfl rfl rfl trivial ?_
     refine vNil ?_
     change VC _ _ _ _
     refine vJoin (F := fun k => S_LocatedPoints_l3 N anchors_1 v247 k) h (α := Bool) (J := fun (all253 : Bool) => (⟨[(1, .ro false (.ints anchors_1)), (2, .ptr 2 0), (5, .row 9512 0 l212.length), (6, .ptr 6 0), (8, .int mask213), (9, .row 1380 0 v247.length), (10, .bool all253)], [(9512, some (3, .ints l212)), (1380, some (3, .ints v247)), (1170, some (39, .pairs v1.1.bars))], [(2, some [.int g_0.n, .ro false (.pairs g_0.bars)]), (6, some [.int v1.1.n, .row 1170 0 v1.1.bars.length])]⟩ : PS)) ?_ ?_
     ·rintro all253 h
      show VC _ _ _ (⟨[(1, .ro false (.ints anchors_1)), (2, .ptr 2 0), (5, .row 9512 0 l212.length), (6, .ptr 6 0), (8, .int mask213), (9, .row 1380 0 v247.length), (10, .bool all253)], [(9512, some (3, .ints l212)), (1380, some (3, .ints v247)), (1170, some (39, .pairs v1.1.bars))], [(2, some [.int g_0.n, .ro false (.pairs g_0.bars)]), (6, some [.int v1.1.n, .row 1170 0 v1.1.bars.length])]⟩ : PS)
      refine vSeq ?_
      refine vRegion ?_
      iterate 2 refine oVal tt rfl rfl rfl rfl rfl trivial ?_
      refine oSplit rfl rfl rfl (fun hb7 => ?_) (fun hb7 => ?_)
      ·replace h := cnd_t hb7 h
       iterate 2 refine oValG tt rfl rfl rfl rfl rfl hb7 rfl rfl rfl trivial ?_
       obtain ⟨v254, hc8, h⟩ := bind_inv h
       refine oCallG (S_l23Part_w N v1.1 v247 v254 hc8) rfl rfl rfl rfl hb7 rfl rfl rfl rfl rfl rfl rfl ⟨⟨rfl, (.inl ⟨rfl, rfl⟩), trivial⟩, (.inl ⟨rfl, rfl⟩), trivial⟩ ?_
       obtain ⟨v255, hc9, h⟩ := bind_inv h
       refine oCallG (S_IsGloballyRigid_w N v254 v255 hc9) rfl rfl rfl rfl hb7 rfl rfl rfl rfl rfl rfl rfl ⟨⟨rfl, (.inl ⟨rfl, rfl⟩), trivial⟩, trivial⟩ ?_
       refine oPick rfl rfl rfl rfl rfl hb7 rfl ?_
       refine vNil ?_
       change VC _ _ _ _
       refine vCond rfl (fun hb10 => ?_) (fun hb10 => ?_)
       ·replace h := cnd_t hb10 h
        refine vSeq ?_
        refine vRegion ?_
        refine oVal tt rfl rfl rfl rfl rfl trivial ?_
        refine vNil ?_
        change VC _ _ _ _
        refine vJoin (F := fun k => S_LocatedPoints_l2 N v247 k) h (α := List Int) (J := fun (l264 : List Int) => (⟨[(1, .ro false (.ints anchors_1)), (2, .ptr 2 0), (5, .row 9512 0 l264.length), (6, .ptr 6 0), (8, .int mask213)], [(9512, some (3, .ints l264)), (1170, some (39, .pairs v1.1.bars))], [(2, some [.int g_0.n, .ro false (.pairs g_0.bars)]), (6, some [.int v1.1.n, .row 1170 0 v1.1.bars.length])]⟩ : PS)) ?_ ?_
        ·rintro l264 h
         show VC _ _ _ (⟨[(1, .ro false (.ints anchors_1)), (2, .ptr 2 0), (5, .row 9512 0 l264.length), (6, .ptr 6 0), (8, .int mask213)], [(9512, some (3, .ints l264)), (1170, some (39, .pairs v1.1.bars))], [(2, some [.int g_0.n, .ro false (.pairs g_0.bars)]), (6, some [.int v1.1.n, .row 1170 0 v1.1.bars.length])]⟩ : PS)
         refine vRegion ?_
         refine oVal tt rfl rfl rfl rfl rfl trivial ?_
         obtain ⟨hg11, h⟩ := grd_inv h
         refine oVal tt rfl rfl rfl rfl rfl hg11 ?_
         refine oVal tt rfl rfl rfl rfl rfl trivial ?_
         refine vNil ?_
         change ∃ _, _
         exact ⟨(l264, (mask213 + (1 : Int))), (En.of ⟨rfl, rfl, rfl, rfl, rfl, trivial⟩ ⟨rfl, rfl, trivial⟩ ⟨rfl, rfl, trivial⟩), h⟩
        ·intro k h
         refine vBlock ?_
         refine vLoopS (α := (List Int) × Int) (fun | (l268, i269) => (⟨[(1, .ro false (.ints anchors_1)), (2, .ptr 2 0), (5, .row 9512 0 l268.length), (6, .ptr 6 0), (8, .int mask213), (9, .row 1380 0 v247.length), (12, .int i269)], [(9512, some (3, .ints l268)), (1380, some (3, .ints v247)), (1170, some (39, .pairs v1.1.bars))], [(2, some [.int g_0.n, .ro false (.pairs g_0.bars)]), (6, some [.int v1.1.n, .row 1170 0 v1.1.bars.length])]⟩ : PS)) (S_LocatedPoints_l2 N v247 k) h (En.of ⟨rfl, rfl, rfl, rfl, rfl, rfl, rfl, trivial⟩ ⟨rfl, rfl, rfl, trivial⟩ ⟨rfl, rfl, trivial⟩) (fun _ => rfl) ?_
         rintro n ⟨l268, i269⟩ h
         rw [S_LocatedPoints_l2] at h
         show VC _ _ _ (⟨[(1, .ro false (.ints anchors_1)), (2, .ptr 2 0), (5, .row 9512 0 l268.length), (6, .ptr 6 0), (8, .int mask213), (9, .row 1380 0 v247.length), (12, .int i269)], [(9512, some (3, .ints l268)), (1380, some (3, .ints v247)), (1170, some (39, .pairs v1.1.bars))], [(2, some [.int g_0.n, .ro false (.pairs g_0.bars)]), (6, some [.int v1.1.n, .row 1170 0 v1.1.bars.length])]⟩ : PS)
         iterate 2 refine vSeq ?_
         refine vRegion ?_
         iterate 4 refine oVal tt rfl rfl rfl rfl rfl trivial ?_
         refine vNil ?_
         change VC _ _ _ _
         refine vCond rfl (fun hb12 => ?_) (fun hb12 => ?_)
         ·replace h := cnd_t hb12 h
          refine vSkip ?_
          change VC _ _ _ _
          refine vSeq ?_
          refine vBlock ?_
          refine vSeq ?_
          refine vRegion ?_
          iterate 3 refine oVal tt rfl rfl rfl rfl rfl trivial ?_
          obtain ⟨hg13, h⟩ := grd_inv h
          iterate 2 refine oVal tt rfl rfl rfl rfl rfl hg13 ?_
          obtain ⟨v272, hc14, h⟩ := bind_inv h
          refine oCall (S_l2Has_w N l268 (v247.getD ((i269).toNat) 0) v272 hc14) rfl rfl rfl rfl rfl rfl rfl rfl ⟨(.inl ⟨rfl, rfl⟩), rfl, trivial⟩ ?_
          refine oVal tt rfl rfl rfl rfl rfl trivial ?_
          refine vNil ?_
          change VC _ _ _ _
          refine vCond rfl (fun hb15 => ?_) (fun hb15 => ?_)
          ·replace h := cnd_t hb15 h
           refine vRegion ?_
           iterate 3 refine oVal tt rfl rfl rfl rfl rfl trivial ?_
           iterate 2 refine oVal tt rfl rfl rfl rfl rfl hg13 ?_
           obtain ⟨v273, hc16, h⟩ := bind_inv h
           refine oCall (S_l5With_w N l268 (v247.getD ((i269).toNat) 0) v273 hc16) rfl rfl rfl rfl rfl rfl rfl rfl ⟨(.inl ⟨rfl, rfl⟩), rfl, trivial⟩ ?_
           refine oVal tt rfl rfl rfl rfl rfl trivial ?_
           refine vNil ?_
           change VC _ _ _ _
           refine vRegion ?_
           refine oVal tt rfl rfl rfl rfl rfl trivial ?_
           obtain ⟨hg17, h⟩ := grd_inv h
           refine oVal tt rfl rfl rfl rfl rfl hg17 ?_
           refine oVal tt rfl rfl rfl rfl rfl trivial ?_
           refine vNil ?_
           change ∃ _, _
           exact ⟨(v273, (i269 + (1 : Int))), (En.ren [9512] [1790] rfl ⟨.inr rfl, .inr rfl, .inr rfl, .inr rfl, .inr rfl, .inr rfl, .inr rfl, trivial⟩ ⟨.inr rfl, .inr rfl, .inr rfl, trivial⟩ ⟨.inr ⟨_, _, rfl, rfl, ⟨.inr rfl, .inr rfl, trivial⟩⟩, .inr ⟨_, _, rfl, rfl, ⟨.inr rfl, .inr rfl, trivial⟩⟩, trivial⟩), h⟩
          ·replace h := cnd_f hb15 h
           refine vSkip ?_
           change VC _ _ _ _
           refine vRegion ?_
           refine oVal tt rfl rfl rfl rfl rfl trivial ?_
           obtain ⟨hg18, h⟩ := grd_inv h
           refine oVal tt rfl rfl rfl rfl rfl hg18 ?_
           refine oVal tt rfl rfl rfl rfl rfl trivial ?_
           refine vNil ?_
           change ∃ _, _
           exact ⟨(l268, (i269 + (1 : Int))), (En.of ⟨rfl, rfl, rfl, rfl, rfl, rfl, rfl, trivial⟩ ⟨rfl, rfl, rfl, trivial⟩ ⟨rfl, rfl, trivial⟩), h⟩
         ·replace h := cnd_f hb12 h
          refine vExit ?_
          change ∃ _, _
          exact ⟨l268, (En.of ⟨rfl, rfl, rfl, rfl, rfl, trivial⟩ ⟨rfl, rfl, trivial⟩ ⟨rfl, rfl, trivial⟩), h⟩
       ·replace h := cnd_f hb10 h
        refine vSkip ?_
        change VC _ _ _ _
        refine vRegion ?_
        refine oVal tt rfl rfl rfl rfl rfl trivial ?_
        obtain ⟨hg19, h⟩ := grd_inv h
        refine oVal tt rfl rfl rfl rfl rfl hg19 ?_
        refine oVal tt rfl rfl rfl rfl rfl trivial ?_
        refine vNil ?_
        change ∃ _, _
        exact ⟨(l212, (mask213 + (1 : Int))), (En.of ⟨rfl, rfl, rfl, rfl, rfl, trivial⟩ ⟨rfl, rfl, trivial⟩ ⟨rfl, rfl, trivial⟩), h⟩
      ·replace h := cnd_f hb7 h
       iterate 4 refine oNoT rfl rfl rfl rfl hb7 rfl rfl ?_
       refine oPickF rfl rfl rfl rfl rfl hb7 rfl ?_
       refine vNil ?_
       change VC _ _ _ _
       refine vCondF rfl rfl ?_
       refine vSkip ?_
       change VC _ _ _ _
       refine vRegion ?_
       refine oVal tt rfl rfl rfl rfl rfl trivial ?_
       obtain ⟨hg20, h⟩ := grd_inv h
       refine oVal tt rfl rfl rfl rfl rfl hg20 ?_
       refine oVal tt rfl rfl rfl rfl rfl trivial ?_
       refine vNil ?_
       change ∃ _, _
       exact ⟨(l212, (mask213 + (1 : Int))), (En.of ⟨rfl, rfl, rfl, rfl, rfl, trivial⟩ ⟨rfl, rfl, trivial⟩ ⟨rfl, rfl, trivial⟩), h⟩
     ·intro k h
      refine vBlock ?_
      refine vLoopS (α := Bool × Int) (fun | (all276, i277) => (⟨[(1, .ro false (.ints anchors_1)), (2, .ptr 2 0), (5, .row 9512 0 l212.length), (6, .ptr 6 0), (8, .int mask213), (9, .row 1380 0 v247.length), (10, .bool all276), (11, .int i277)], [(9512, some (3, .ints l212)), (1380, some (3, .ints v247)), (1170, some (39, .pairs v1.1.bars))], [(2, some [.int g_0.n, .ro false (.pairs g_0.bars)]), (6, some [.int v1.1.n, .row 1170 0 v1.1.bars.length])]⟩ : PS)) (S_LocatedPoints_l3 N anchors_1 v247 k) h (En.of ⟨rfl, rfl, rfl, rfl, rfl, rfl, rfl, rfl, trivial⟩ ⟨rfl, rfl, rfl, trivial⟩ ⟨rfl, rfl, trivial⟩) (fun _ => rfl) ?_
      rintro n ⟨all276, i277⟩ h
      rw [S_LocatedPoints_l3] at h
      show VC _ _ _ (⟨[(1, .ro false (.ints anchors_1)), (2, .ptr 2 0), (5, .row 9512 0 l212.length), (6, .ptr 6 0), (8, .int mask213), (9, .row 1380 0 v247.length), (10, .bool all276), (11, .int i277)], [(9512, some (3, .ints l212)), (1380, some (3, .ints v247)), (1170, some (39, .pairs v1.1.bars))], [(2, some [.int g_0.n, .ro false (.pairs g_0.bars)]), (6, some [.int v1.1.n, .row 1170 0 v1.1.bars.length])]⟩ : PS)
      iterate 2 refine vSeq ?_
      refine vRegion ?_
      iterate 4 refine oVal tt rfl rfl rfl rfl rfl trivial ?_
      refine vNil ?_
      change VC _ _ _ _
      refine vCond rfl (fun hb21 => ?_) (fun hb21 => ?_)
      ·replace h := cnd_t hb21 h
       refine vSkip ?_
       change VC _ _ _ _
       refine vSeq ?_
       refine vBlock ?_
       refine vRegion ?_
       iterate 2 refine oVal tt rfl rfl rfl rfl rfl trivial ?_
       refine oSplit rfl rfl rfl (fun hb22 => ?_) (fun hb22 => ?_)
       ·replace h := cnd_t hb22 h
        iterate 3 refine oValG tt rfl rfl rfl rfl rfl hb22 rfl rfl rfl trivial ?_
        obtain ⟨hg23, h⟩ := grd_inv h
        refine oValG tt rfl rfl rfl rfl rfl hb22 rfl rfl rfl hg23 ?_
        refine oValG tt rfl rfl rfl rfl rfl hb22 rfl rfl rfl trivial ?_
        obtain ⟨v279, hc24, h⟩ := bind_inv h
        refine oCallG (S_l2Has_w N v247 (anchors_1.getD ((i277).toNat) 0) v279 hc24) rfl rfl rfl rfl hb22 rfl rfl rfl rfl rfl rfl rfl ⟨(.inl ⟨rfl, rfl⟩), rfl, trivial⟩ ?_
        refine oPick rfl rfl rfl rfl rfl hb22 rfl ?_
        refine oVal tt rfl rfl rfl rfl rfl trivial ?_
        refine vNil ?_
        change VC _ _ _ _
        refine vRegion ?_
        refine oVal tt rfl rfl rfl rfl rfl trivial ?_
        obtain ⟨hg25, h⟩ := grd_inv h
        refine oVal tt rfl rfl rfl rfl rfl hg25 ?_
        refine oVal tt rfl rfl rfl rfl rfl trivial ?_
        refine vNil ?_
        change ∃ _, _
        exact ⟨(v279, (i277 + (1 : Int))), (En.of ⟨rfl, rfl, rfl, rfl, rfl, rfl, rfl, rfl, trivial⟩ ⟨rfl, rfl, rfl, trivial⟩ ⟨rfl, rfl, trivial⟩), h⟩
       ·replace h := cnd_f hb22 h
        iterate 6 refine oNoT rfl rfl rfl rfl hb22 rfl rfl ?_
        refine oPickF rfl rfl rfl rfl rfl hb22 rfl ?_
        refine oVal tt rfl rfl rfl rfl rfl trivial ?_
        refine vNil ?_
        change VC _ _ _ _
        refine vRegion ?_
        refine oVal tt rfl rfl rfl rfl rfl trivial ?_
        obtain ⟨hg26, h⟩ := grd_inv h
        refine oVal tt rfl rfl rfl rfl rfl hg26 ?_
        refine oVal tt rfl rfl rfl rfl rfl trivial ?_
        refine vNil ?_
        change ∃ _, _
        exact ⟨(false, (i277 + (1 : Int))), (En.of ⟨rfl, rfl, rfl, rfl, rfl, rfl, rfl, rfl, trivial⟩ ⟨rfl, rfl, rfl, trivial⟩ ⟨rfl, rfl, trivial⟩), h⟩
      ·replace h := cnd_f hb21 h
       refine vExit ?_
       change ∃ _, _
       exact ⟨all276, (En.of ⟨rfl, rfl, rfl, rfl, rfl, rfl, rfl, trivial⟩ ⟨rfl, rfl, rfl, trivial⟩ ⟨rfl, rfl, trivial⟩), h⟩
    ·replace h := cnd_f hb5 h
     refine vExit ?_
     change ∃ _, _
     exact ⟨l212, (En.ren [9509] [9512] rfl ⟨.inr rfl, trivial⟩ ⟨.inr rfl, trivial⟩ trivial), h⟩
def I_WhyNotGlobal (N : Nat) (g_0 : Grf) : Option (ByteArray) :=
 (I_IsGraph N g_0).bind fun v1 =>
 cnd (!v1) (
  some (ByteArray.mk #[103, 114, 97, 112, 104])) (
  (I_hasDoubles N g_0).bind fun v2 =>
  cnd v2 (
   some (ByteArray.mk #[103, 114, 97, 112, 104])) (
   cnd (decide (g_0.n ≤ (3 : Int))) (
    (I_MissingBars N g_0).bind fun v3 =>
    cnd (decide ((v3.length : Int) > (0 : Int))) (
     some (ByteArray.mk #[114, 105, 103, 105, 100])) (
     cnd (decide (g_0.n > (3 : Int))) (
      (I_IsRigid N g_0).bind fun v4 =>
      cnd (!v4) (
       some (ByteArray.mk #[114, 105, 103, 105, 100])) (
       (I_IsKConnected N g_0 (3 : Int)).bind fun v5 =>
       cnd (!v5) (
        some (ByteArray.mk #[99, 111, 110, 110, 101, 99, 116, 101, 100])) (
        (I_IsRedundantlyRigid N g_0).bind fun v6 =>
        cnd (!v6) (
         some (ByteArray.mk #[114, 101, 100, 117, 110, 100, 97, 110, 116])) (
         some (ByteArray.mk #[]))))) (
      some (ByteArray.mk #[])))) (
    cnd (decide (g_0.n > (3 : Int))) (
     (I_IsRigid N g_0).bind fun v7 =>
     cnd (!v7) (
      some (ByteArray.mk #[114, 105, 103, 105, 100])) (
      (I_IsKConnected N g_0 (3 : Int)).bind fun v8 =>
      cnd (!v8) (
       some (ByteArray.mk #[99, 111, 110, 110, 101, 99, 116, 101, 100])) (
       (I_IsRedundantlyRigid N g_0).bind fun v9 =>
       cnd (!v9) (
        some (ByteArray.mk #[114, 101, 100, 117, 110, 100, 97, 110, 116])) (
        some (ByteArray.mk #[]))))) (
     some (ByteArray.mk #[])))))
set_option maxRecDepth 20000 in
set_option maxHeartbeats 1600000 in
theorem I_WhyNotGlobal_w (N : Nat) (g_0 : Grf) (r : ByteArray) (h : I_WhyNotGlobal N g_0 = some r) : PCall Tryz.prog 102 [gD g_0] [] (.val (.string r)) := by
 unfold I_WhyNotGlobal at h
 refine pcall_intro (TT := TT) tt Tryz.func102 rfl rfl Tryz.ntmps102 (congrArg Array.toList Tryz.results102) rfl rfl fun w0 => ?_
 refine vSeq ?_
 refine vRegion ?_
 refine oBox rfl rfl rfl rfl rfl rfl rfl rfl rfl ?_
 refine oVal tt rfl rfl rfl rfl rfl trivial ?_
 refine vNil ?_
 change VC _ _ _ _
 refine vSeq ?_
 refine vBlock ?_
 refine vSeq ?_
 refine vRegion ?_
 refine oVal tt rfl rfl rfl rfl rfl trivial ?_
 obtain ⟨v1, hc1, h⟩ := bind_inv h
 refine oCall (I_IsGraph_w N g_0 v1 hc1) rfl rfl rfl rfl rfl rfl rfl rfl ⟨⟨rfl, rfl, trivial⟩, trivial⟩ ?_
 iterate 2 refine oVal tt rfl rfl rfl rfl rfl trivial ?_
 refine oSplit rfl rfl rfl (fun hb2 => ?_) (fun hb2 => ?_)
 ·replace h := cnd_t hb2 h
  iterate 2 refine oNoF rfl rfl rfl rfl hb2 rfl rfl ?_
  refine oPick rfl rfl rfl rfl rfl hb2 rfl ?_
  refine oVal tt rfl rfl rfl rfl rfl trivial ?_
  refine vNil ?_
  change VC _ _ _ _
  refine vCondT rfl rfl ?_
  refine vSeq ?_
  refine vRegion ?_
  refine oVal tt rfl rfl rfl rfl rfl trivial ?_
  refine vNil ?_
  change VC _ _ _ _
  refine vRet ?_
  change ∃ _, _
  cases h
  exact ⟨[], _, rfl, trivial, rfl, (.eq rfl), rfl⟩
 ·replace h := cnd_f hb2 h
  refine oValG tt rfl rfl rfl rfl rfl hb2 rfl rfl rfl trivial ?_
  obtain ⟨v2, hc3, h⟩ := bind_inv h
  refine oCallG (I_hasDoubles_w N g_0 v2 hc3) rfl rfl rfl rfl hb2 rfl rfl rfl rfl rfl rfl rfl ⟨⟨rfl, rfl, trivial⟩, trivial⟩ ?_
  refine oPickF rfl rfl rfl rfl rfl hb2 rfl ?_
  refine oVal tt rfl rfl rfl rfl rfl trivial ?_
  refine vNil ?_
  change VC _ _ _ _
  refine vCond rfl (fun hb4 => ?_) (fun hb4 => ?_)
  ·replace h := cnd_t hb4 h
   refine vSeq ?_
   refine vRegion ?_
   refine oVal tt rfl rfl rfl rfl rfl trivial ?_
   refine vNil ?_
   change VC _ _ _ _
   refine vRet ?_
   change ∃ _, _
   cases h
   exact ⟨[], _, rfl, trivial, rfl, (.eq rfl), rfl⟩
  ·replace h := cnd_f hb4 h
   refine vSeq ?_
   refine vRegion ?_
   iterate 4 refine oVal tt rfl rfl rfl rfl rfl trivial ?_
   refine oSplit rfl rfl rfl (fun hb5 => ?_) (fun hb5 => ?_)
   ·replace h := cnd_t hb5 h
    refine oValG tt rfl rfl rfl rfl rfl hb5 rfl rfl rfl trivial ?_
    obtain ⟨v3, hc6, h⟩ := bind_inv h
    refine oCallG (I_MissingBars_w N g_0 v3 hc6) rfl rfl rfl rfl hb5 rfl rfl rfl rfl rfl rfl rfl ⟨⟨rfl, rfl, trivial⟩, trivial⟩ ?_
    iterate 2 refine oValG tt rfl rfl rfl rfl rfl hb5 rfl rfl rfl trivial ?_
    refine oPick rfl rfl rfl rfl rfl hb5 rfl ?_
    refine oVal tt rfl rfl rfl rfl rfl trivial ?_
    refine oSplit rfl rfl rfl (fun hb7 => ?_) (fun hb7 => ?_)
    ·replace h := cnd_t hb7 h
     iterate 4 refine oNoF rfl rfl rfl rfl hb7 rfl rfl ?_
     iterate 3 refine oNoU rfl rfl rfl rfl rfl ?_
     refine oNoF rfl rfl rfl rfl hb7 rfl rfl ?_
     refine oPick rfl rfl rfl rfl rfl hb7 rfl ?_
     refine oVal tt rfl rfl rfl rfl rfl trivial ?_
     refine vNil ?_
     change VC _ _ _ _
     refine vCondT rfl rfl ?_
     refine vSeq ?_
     refine vRegion ?_
     refine oVal tt rfl rfl rfl rfl rfl trivial ?_
     refine vNil ?_
     change VC _ _ _ _
     refine vRet ?_
     change ∃ _, _
     cases h
     exact ⟨[], _, rfl, trivial, rfl, (.eq rfl), rfl⟩
    ·replace h := cnd_f hb7 h
     iterate 4 refine oValG tt rfl rfl rfl rfl rfl hb7 rfl rfl rfl trivial ?_
     refine oSplit rfl rfl rfl (fun hb8 => ?_) (fun hb8 => ?_)
     ·replace h := cnd_t hb8 h
      refine oValG tt rfl rfl rfl rfl rfl hb8 rfl rfl rfl trivial ?_
      obtain ⟨v4, hc9, h⟩ := bind_inv h
      refine oCallG (I_IsRigid_w N g_0 v4 hc9) rfl rfl rfl rfl hb8 rfl rfl rfl rfl rfl rfl rfl ⟨⟨rfl, rfl, trivial⟩, trivial⟩ ?_
      refine oValG tt rfl rfl rfl rfl rfl hb8 rfl rfl rfl trivial ?_
      refine oPickGT rfl rfl rfl rfl hb7 rfl rfl rfl rfl hb8 rfl ?_
      refine oPickF rfl rfl rfl rfl rfl hb7 rfl ?_
      refine oVal tt rfl rfl rfl rfl rfl trivial ?_
      refine vNil ?_
      change VC _ _ _ _
      refine vCond rfl (fun hb10 => ?_) (fun hb10 => ?_)
      ·replace h := cnd_t hb10 h
       refine vSeq ?_
       refine vRegion ?_
       refine oVal tt rfl rfl rfl rfl rfl trivial ?_
       refine vNil ?_
       change VC _ _ _ _
       refine vRet ?_
       change ∃ _, _
       cases h
       exact ⟨[], _, rfl, trivial, rfl, (.eq rfl), rfl⟩
      ·replace h := cnd_f hb10 h
       refine vSeq ?_
       refine vRegion ?_
       iterate 4 refine oVal tt rfl rfl rfl rfl rfl trivial ?_
       refine oValG tt rfl rfl rfl rfl rfl hb8 rfl rfl rfl trivial ?_
       obtain ⟨v5, hc11, h⟩ := bind_inv h
       refine oCallG (I_IsKConnected_w N g_0 (3 : Int) v5 hc11) rfl rfl rfl rfl hb8 rfl rfl rfl rfl rfl rfl rfl ⟨⟨rfl, rfl, trivial⟩, rfl, trivial⟩ ?_
       refine oValG tt rfl rfl rfl rfl rfl hb8 rfl rfl rfl trivial ?_
       refine oPick rfl rfl rfl rfl rfl hb8 rfl ?_
       refine oVal tt rfl rfl rfl rfl rfl trivial ?_
       refine vNil ?_
       change VC _ _ _ _
       refine vCond rfl (fun hb12 => ?_) (fun hb12 => ?_)
       ·replace h := cnd_t hb12 h
        refine vSeq ?_
        refine vRegion ?_
        refine oVal tt rfl rfl rfl rfl rfl trivial ?_
        refine vNil ?_
        change VC _ _ _ _
        refine vRet ?_
        change ∃ _, _
        cases h
        exact ⟨[], _, rfl, trivial, rfl, (.eq rfl), rfl⟩
       ·replace h := cnd_f hb12 h
        refine vSeq ?_
        refine vRegion ?_
        iterate 4 refine oVal tt rfl rfl rfl rfl rfl trivial ?_
        refine oValG tt rfl rfl rfl rfl rfl hb8 rfl rfl rfl trivial ?_
        obtain ⟨v6, hc13, h⟩ := bind_inv h
        refine oCallG (I_IsRedundantlyRigid_w N g_0 v6 hc13) rfl rfl rfl rfl hb8 rfl rfl rfl rfl rfl rfl rfl ⟨⟨rfl, rfl, trivial⟩, trivial⟩ ?_
        refine oValG tt rfl rfl rfl rfl rfl hb8 rfl rfl rfl trivial ?_
        refine oPick rfl rfl rfl rfl rfl hb8 rfl ?_
        refine oVal tt rfl rfl rfl rfl rfl trivial ?_
        refine vNil ?_
        change VC _ _ _ _
        refine vCond rfl (fun hb14 => ?_) (fun hb14 => ?_)
        ·replace h := cnd_t hb14 h
         refine vSeq ?_
         refine vRegion ?_
         refine oVal tt rfl rfl rfl rfl rfl trivial ?_
         refine vNil ?_
         change VC _ _ _ _
         refine vRet ?_
         change ∃ _, _
         cases h
         exact ⟨[], _, rfl, trivial, rfl, (.eq rfl), rfl⟩
        ·replace h := cnd_f hb14 h
         refine vSkip ?_
         change VC _ _ _ _
         refine vSeq ?_
         refine vRegion ?_
         refine oVal tt rfl rfl rfl rfl rfl trivial ?_
         refine vNil ?_
         change VC _ _ _ _
         refine vRet ?_
         change ∃ _, _
         cases h
         exact ⟨[], _, rfl, trivial, rfl, (.eq rfl), rfl⟩
     ·replace h := cnd_f hb8 h
      iterate 3 refine oNoT rfl rfl rfl rfl hb8 rfl rfl ?_
      refine oPickGF rfl rfl rfl rfl hb7 rfl rfl rfl rfl hb8 rfl ?_
      refine oPickF rfl rfl rfl rfl rfl hb7 rfl ?_
      refine oVal tt rfl rfl rfl rfl rfl trivial ?_
      refine vNil ?_
      change VC _ _ _ _
      refine vCondF rfl rfl ?_
      refine vSeq ?_
      refine vRegion ?_
      iterate 4 refine oVal tt rfl rfl rfl rfl rfl trivial ?_
      iterate 3 refine oNoT rfl rfl rfl rfl hb8 rfl rfl ?_
      refine oPickF rfl rfl rfl rfl rfl hb8 rfl ?_
      refine oVal tt rfl rfl rfl rfl rfl trivial ?_
      refine vNil ?_
      change VC _ _ _ _
      refine vCondF rfl rfl ?_
      refine vSeq ?_
      refine vRegion ?_
      iterate 4 refine oVal tt rfl rfl rfl rfl rfl trivial ?_
      iterate 3 refine oNoT rfl rfl rfl rfl hb8 rfl rfl ?_
      refine oPickF rfl rfl rfl rfl rfl hb8 rfl ?_
      refine oVal tt rfl rfl rfl rfl rfl trivial ?_
      refine vNil ?_
      change VC _ _ _ _
      refine vCondF rfl rfl ?_
      refine vSkip ?_
      change VC _ _ _ _
      refine vSeq ?_
      refine vRegion ?_
      refine oVal tt rfl rfl rfl rfl rfl trivial ?_
      refine vNil ?_
      change VC _ _ _ _
      refine vRet ?_
      change ∃ _, _
      cases h
      exact ⟨[], _, rfl, trivial, rfl, (.eq rfl), rfl⟩
   ·replace h := cnd_f hb5 h
    iterate 4 refine oNoT rfl rfl rfl rfl hb5 rfl rfl ?_
    refine oPickF rfl rfl rfl rfl rfl hb5 rfl ?_
    refine oVal tt rfl rfl rfl rfl rfl trivial ?_
    iterate 4 refine oValG tt rfl rfl rfl rfl rfl rfl rfl rfl rfl trivial ?_
    refine oSplit rfl rfl rfl (fun hb15 => ?_) (fun hb15 => ?_)
    ·replace h := cnd_t hb15 h
     refine oValG tt rfl rfl rfl rfl rfl hb15 rfl rfl rfl trivial ?_
     obtain ⟨v7, hc16, h⟩ := bind_inv h
     refine oCallG (I_IsRigid_w N g_0 v7 hc16) rfl rfl rfl rfl hb15 rfl rfl rfl rfl rfl rfl rfl ⟨⟨rfl, rfl, trivial⟩, trivial⟩ ?_
     refine oValG tt rfl rfl rfl rfl rfl hb15 rfl rfl rfl trivial ?_
     refine oPickGT rfl rfl rfl rfl rfl rfl rfl rfl rfl hb15 rfl ?_
     refine oPickF rfl rfl rfl rfl rfl rfl rfl ?_
     refine oVal tt rfl rfl rfl rfl rfl trivial ?_
     refine vNil ?_
     change VC _ _ _ _
     refine vCond rfl (fun hb17 => ?_) (fun hb17 => ?_)
     ·replace h := cnd_t hb17 h
      refine vSeq ?_
      refine vRegion ?_
      refine oVal tt rfl rfl rfl rfl rfl trivial ?_
      refine vNil ?_
      change VC _ _ _ _
      refine vRet ?_
      change ∃ _, _
      cases h
      exact ⟨[], _, rfl, trivial, rfl, (.eq rfl), rfl⟩
     ·replace h := cnd_f hb17 h
      refine vSeq ?_
      refine vRegion ?_
      iterate 4 refine oVal tt rfl rfl rfl rfl rfl trivial ?_
      refine oValG tt rfl rfl rfl rfl rfl hb15 rfl rfl rfl trivial ?_
      obtain ⟨v8, hc18, h⟩ := bind_inv h
      refine oCallG (I_IsKConnected_w N g_0 (3 : Int) v8 hc18) rfl rfl rfl rfl hb15 rfl rfl rfl rfl rfl rfl rfl ⟨⟨rfl, rfl, trivial⟩, rfl, trivial⟩ ?_
      refine oValG tt rfl rfl rfl rfl rfl hb15 rfl rfl rfl trivial ?_
      refine oPick rfl rfl rfl rfl rfl hb15 rfl ?_
      refine oVal tt rfl rfl rfl rfl rfl trivial ?_
      refine vNil ?_
      change VC _ _ _ _
      refine vCond rfl (fun hb19 => ?_) (fun hb19 => ?_)
      ·replace h := cnd_t hb19 h
       refine vSeq ?_
       refine vRegion ?_
       refine oVal tt rfl rfl rfl rfl rfl trivial ?_
       refine vNil ?_
       change VC _ _ _ _
       refine vRet ?_
       change ∃ _, _
       cases h
       exact ⟨[], _, rfl, trivial, rfl, (.eq rfl), rfl⟩
      ·replace h := cnd_f hb19 h
       refine vSeq ?_
       refine vRegion ?_
       iterate 4 refine oVal tt rfl rfl rfl rfl rfl trivial ?_
       refine oValG tt rfl rfl rfl rfl rfl hb15 rfl rfl rfl trivial ?_
       obtain ⟨v9, hc20, h⟩ := bind_inv h
       refine oCallG (I_IsRedundantlyRigid_w N g_0 v9 hc20) rfl rfl rfl rfl hb15 rfl rfl rfl rfl rfl rfl rfl ⟨⟨rfl, rfl, trivial⟩, trivial⟩ ?_
       refine oValG tt rfl rfl rfl rfl rfl hb15 rfl rfl rfl trivial ?_
       refine oPick rfl rfl rfl rfl rfl hb15 rfl ?_
       refine oVal tt rfl rfl rfl rfl rfl trivial ?_
       refine vNil ?_
       change VC _ _ _ _
       refine vCond rfl (fun hb21 => ?_) (fun hb21 => ?_)
       ·replace h := cnd_t hb21 h
        refine vSeq ?_
        refine vRegion ?_
        refine oVal tt rfl rfl rfl rfl rfl trivial ?_
        refine vNil ?_
        change VC _ _ _ _
        refine vRet ?_
        change ∃ _, _
        cases h
        exact ⟨[], _, rfl, trivial, rfl, (.eq rfl), rfl⟩
       ·replace h := cnd_f hb21 h
        refine vSkip ?_
        change VC _ _ _ _
        refine vSeq ?_
        refine vRegion ?_
        refine oVal tt rfl rfl rfl rfl rfl trivial ?_
        refine vNil ?_
        change VC _ _ _ _
        refine vRet ?_
        change ∃ _, _
        cases h
        exact ⟨[], _, rfl, trivial, rfl, (.eq rfl), rfl⟩
    ·replace h := cnd_f hb15 h
     iterate 3 refine oNoT rfl rfl rfl rfl hb15 rfl rfl ?_
     refine oPickGF rfl rfl rfl rfl rfl rfl rfl rfl rfl hb15 rfl ?_
     refine oPickF rfl rfl rfl rfl rfl rfl rfl ?_
     refine oVal tt rfl rfl rfl rfl rfl trivial ?_
     refine vNil ?_
     change VC _ _ _ _
     refine vCondF rfl rfl ?_
     refine vSeq ?_
     refine vRegion ?_
     iterate 4 refine oVal tt rfl rfl rfl rfl rfl trivial ?_
     iterate 3 refine oNoT rfl rfl rfl rfl hb15 rfl rfl ?_
     refine oPickF rfl rfl rfl rfl rfl hb15 rfl ?_
     refine oVal tt rfl rfl rfl rfl rfl trivial ?_
     refine vNil ?_
     change VC _ _ _ _
     refine vCondF rfl rfl ?_
     refine vSeq ?_
     refine vRegion ?_
     iterate 4 refine oVal tt rfl rfl rfl rfl rfl trivial ?_
     iterate 3 refine oNoT rfl rfl rfl rfl hb15 rfl rfl ?_
     refine oPickF rfl rfl rfl rfl rfl hb15 rfl ?_
     refine oVal tt rfl rfl rfl rfl rfl trivial ?_
     refine vNil ?_
     change VC _ _ _ _
     refine vCondF rfl rfl ?_
     refine vSkip ?_
     change VC _ _ _ _
     refine vSeq ?_
     refine vRegion ?_
     refine oVal tt rfl rfl rfl rfl rfl trivial ?_
     refine vNil ?_
     change VC _ _ _ _
     refine vRet ?_
     change ∃ _, _
     cases h
     exact ⟨[], _, rfl, trivial, rfl, (.eq rfl), rfl⟩
def I_IsGloballyRigid (N : Nat) (g_0 : Grf) : Option (Bool) :=
 (I_WhyNotGlobal N g_0).bind fun v1 =>
 some (v1.toList == (ByteArray.mk #[]).toList)
set_option maxRecDepth 20000 in
set_option maxHeartbeats 1600000 in
theorem I_IsGloballyRigid_w (N : Nat) (g_0 : Grf) (r : Bool) (h : I_IsGloballyRigid N g_0 = some r) : PCall Tryz.prog 72 [gD g_0] [] (.bool r) := by
 unfold I_IsGloballyRigid at h
 refine pcall_intro (TT := TT) tt Tryz.func72 rfl rfl Tryz.ntmps72 (congrArg Array.toList Tryz.results72) rfl rfl fun w0 => ?_
 refine vSeq ?_
 refine vRegion ?_
 refine oBox rfl rfl rfl rfl rfl rfl rfl rfl rfl ?_
 refine oVal tt rfl rfl rfl rfl rfl trivial ?_
 refine vNil ?_
 change VC _ _ _ _
 refine vSeq ?_
 refine vRegion ?_
 refine oVal tt rfl rfl rfl rfl rfl trivial ?_
 obtain ⟨v1, hc1, h⟩ := bind_inv h
 refine oCall (I_WhyNotGlobal_w N g_0 v1 hc1) rfl rfl rfl rfl rfl rfl rfl rfl ⟨⟨rfl, rfl, trivial⟩, trivial⟩ ?_
 refine oPure (wNone rfl) (pStrEq rfl rfl rfl) rfl rfl ?_
 refine oVal tt rfl rfl rfl rfl rfl trivial ?_
 refine vNil ?_
 change VC _ _ _ _
 refine vRet ?_
 change ∃ _, _
 cases h
 exact ⟨[], _, rfl, trivial, rfl, (.eq rfl), rfl⟩
def I_isGlobal (N : Nat) (g_0 : Grf) (mask_1 : Int) : Option (Bool) :=
 grd (0 ≤ g_0.n ∧ g_0.n < 64 ∧ Rg64 ((1 : Int) * 2 ^ ((g_0.n).toNat))) <|
 grd (Rg64 (((1 : Int) * 2 ^ ((g_0.n).toNat)) - (1 : Int))) <|
 grd (Rg64 ((((1 : Int) * 2 ^ ((g_0.n).toNat)) - (1 : Int)) - mask_1)) <|
 (I_setOf N ((((1 : Int) * 2 ^ ((g_0.n).toNat)) - (1 : Int)) - mask_1) g_0.n).bind fun v1 =>
 (I_WithoutPoints N g_0 v1).bind fun v2 =>
 (I_IsGloballyRigid N v2).bind fun v3 =>
 some v3
set_option maxRecDepth 20000 in
set_option maxHeartbeats 1600000 in
theorem I_isGlobal_w (N : Nat) (g_0 : Grf) (mask_1 : Int) (r : Bool) (h : I_isGlobal N g_0 mask_1 = some r) : PCall Tryz.prog 37 [gD g_0, .int mask_1] [] (.bool r) := by
 unfold I_isGlobal at h
 refine pcall_intro (TT := TT) tt Tryz.func37 rfl rfl Tryz.ntmps37 (congrArg Array.toList Tryz.results37) rfl rfl fun w0 => ?_
 refine vSeq ?_
 refine vRegion ?_
 refine oBox rfl rfl rfl rfl rfl rfl rfl rfl rfl ?_
 refine oVal tt rfl rfl rfl rfl rfl trivial ?_
 refine vNil ?_
 change VC _ _ _ _
 refine vSeq ?_
 refine vRegionN 10 [9] [0, 0, 2, 6, 14, 0, 62, 0, 128, 510, 1023, 2047, 4095] (by kernel_rfl) (by kernel_rfl) (by kernel_rfl) (by kernel_rfl) (by kernel_rfl) rfl (by rfl) ?_
 iterate 3 refine nVal tt rfl (wNone rfl) rfl rfl rfl rfl rfl trivial ?_
 obtain ⟨hg1, h⟩ := grd_inv h
 refine nVal tt rfl (wNone rfl) rfl rfl rfl rfl rfl hg1 ?_
 obtain ⟨hg2, h⟩ := grd_inv h
 refine nVal tt rfl (wNone rfl) rfl rfl rfl rfl rfl hg2 ?_
 refine nVal tt rfl (wNone rfl) rfl rfl rfl rfl rfl trivial ?_
 obtain ⟨hg3, h⟩ := grd_inv h
 refine nVal tt rfl (wNone rfl) rfl rfl rfl rfl rfl hg3 ?_
 iterate 2 refine nVal tt rfl (wNone rfl) rfl rfl rfl rfl rfl trivial ?_
 obtain ⟨v1, hc4, h⟩ := bind_inv h
 refine nCallR (I_setOf_w N ((((1 : Int) * 2 ^ ((g_0.n).toNat)) - (1 : Int)) - mask_1) g_0.n v1 hc4) rfl (wNone rfl) rfl rfl rfl rfl rfl rfl (by first | rfl | kernel_rfl | (simp [nrL, nm, gdst, nmT, rowB]; done)) rfl (by first | rfl | kernel_rfl | (simp [chkE, nrL, nm, gdst, nmT, rowB, hid, ment, mentA, mentS]; done) | (simp [chkE, nrL, nm, gdst, nmT, rowB, hid, ment, mentA, mentS]; decide)) ⟨rfl, rfl, trivial⟩ ?_
 refine nNil ?_
 change VO _ _ _ _ _
 obtain ⟨v2, hc5, h⟩ := bind_inv h
 refine oCall (I_WithoutPoints_w N g_0 v1 v2 hc5) rfl rfl rfl rfl rfl rfl rfl rfl ⟨⟨rfl, rfl, trivial⟩, (.inl ⟨rfl, rfl⟩), trivial⟩ ?_
 obtain ⟨v3, hc6, h⟩ := bind_inv h
 refine oCall (I_IsGloballyRigid_w N v2 v3 hc6) rfl rfl rfl rfl rfl rfl rfl rfl ⟨⟨rfl, (.inl ⟨rfl, rfl⟩), trivial⟩, trivial⟩ ?_
 refine oVal tt rfl rfl rfl rfl rfl trivial ?_
 refine vNil ?_
 change VC _ _ _ _
 refine vRet ?_
 change ∃ _, _
 cases h
 exact ⟨[], _, rfl, trivial, rfl, (.eq rfl), rfl⟩
end Go.Proofs.YtmoamglpocjhgaaGreat
namespace Go.Proofs.YtmoamglpocjhgaaGreat
open Go.RowKit
def I_LocatedPoints_l1 (N : Nat) (g_0 : Grf) (v1 : Grf × Bool) (base4 : Int) (k : Int → Option (List Int)) : Nat → (Int × Int) → Option (List Int)
 | 0, _ => none
 | n + 1, (all14, x15) =>
  cnd (decide (x15 < ((1 : Int) * 2 ^ ((g_0.n).toNat)))) (
   cnd ((andI x15 base4) == base4) (
    (I_isGlobal N v1.1 x15).bind fun v17 =>
    cnd v17 (
     grd (Rg64 (x15 + (1 : Int))) <|
     I_LocatedPoints_l1 N g_0 v1 base4 k n ((orI all14 x15), (x15 + (1 : Int)))) (
     grd (Rg64 (x15 + (1 : Int))) <|
     I_LocatedPoints_l1 N g_0 v1 base4 k n (all14, (x15 + (1 : Int))))) (
    grd (Rg64 (x15 + (1 : Int))) <|
    I_LocatedPoints_l1 N g_0 v1 base4 k n (all14, (x15 + (1 : Int))))) (
   k all14)
def I_LocatedPoints_l2 (N : Nat) (anchors_1 : List Int) (k : Int → Option (List Int)) : Nat → (Int × Int) → Option (List Int)
 | 0, _ => none
 | n + 1, (base19, x20) =>
  cnd (decide (x20 < (anchors_1.length : Int))) (
   grd (0 ≤ x20 ∧ x20 < (anchors_1.length : Int)) <|
   grd (0 ≤ (anchors_1.getD ((x20).toNat) 0) ∧ (anchors_1.getD ((x20).toNat) 0) < 64 ∧ Rg64 ((1 : Int) * 2 ^ (((anchors_1.getD ((x20).toNat) 0)).toNat))) <|
   grd (Rg64 (x20 + (1 : Int))) <|
   I_LocatedPoints_l2 N anchors_1 k n ((orI base19 ((1 : Int) * 2 ^ (((anchors_1.getD ((x20).toNat) 0)).toNat))), (x20 + (1 : Int)))) (
   k base19)
def I_LocatedPoints (N : Nat) (g_0 : Grf) (anchors_1 : List Int) : Option (List Int) :=
 (I_AnchoredGraph N g_0 anchors_1).bind fun v1 =>
 cnd (!v1.2) (
  some ([] : List Int)) (
  cnd (decide ((anchors_1.length : Int) < (3 : Int))) (
   some ([] : List Int)) (
   I_LocatedPoints_l2 N anchors_1 (fun (base4 : Int) =>
      grd (0 ≤ g_0.n ∧ g_0.n < 64 ∧ Rg64 ((1 : Int) * 2 ^ ((g_0.n).toNat))) <|
      I_LocatedPoints_l1 N g_0 v1 base4 (fun (all10 : Int) =>
         (I_setOf N all10 g_0.n).bind fun v11 =>
         some v11) N ((0 : Int), (0 : Int))) N ((0 : Int), (0 : Int))))
set_option maxRecDepth 20000 in
set_option maxHeartbeats 1600000 in
theorem I_LocatedPoints_w (N : Nat) (g_0 : Grf) (anchors_1 : List Int) (r : List Int) (h : I_LocatedPoints N g_0 anchors_1 = some r) : PCall Tryz.prog 10 [gD g_0, .ro false (.ints anchors_1)] [(3, .ints r)] (.row 0 0 r.length) := by
 unfold I_LocatedPoints at h
 refine pcall_intro (TT := TT) tt Tryz.func10 rfl rfl Tryz.ntmps10 (congrArg Array.toList Tryz.results10) rfl rfl fun w0 => ?_
 refine vSeq ?_
 refine vRegion ?_
 refine oBox rfl rfl rfl rfl rfl rfl rfl rfl rfl ?_
 refine oVal tt rfl rfl rfl rfl rfl trivial ?_
 refine vNil ?_
 change VC _ _ _ _
 refine vSeq ?_
 refine vRegion ?_
 iterate 2 refine oVal tt rfl rfl rfl rfl rfl trivial ?_
 obtain ⟨v1, hc1, h⟩ := bind_inv h
 refine oCall (I_AnchoredGraph_w N g_0 anchors_1 v1 hc1) rfl rfl rfl rfl rfl rfl rfl rfl ⟨⟨rfl, rfl, trivial⟩, rfl, trivial⟩ ?_
 iterate 3 refine oVal tt rfl rfl rfl rfl rfl trivial ?_
 refine oAlloc tt rfl rfl rfl rfl rfl rfl rfl rfl rfl ?_
 refine oStore tt rfl rfl rfl rfl rfl rfl rfl rfl rfl rfl rfl ⟨trivial, trivial, trivial⟩ ?_
 refine oVal tt rfl rfl rfl rfl rfl trivial ?_
 refine vNil ?_
 change VC _ _ _ _
 iterate 2 refine vSeq ?_
 refine vRegion ?_
 iterate 3 refine oVal tt rfl rfl rfl rfl rfl trivial ?_
 refine oSplit rfl rfl rfl (fun hb2 => ?_) (fun hb2 => ?_)
 ·replace h := cnd_t hb2 h
  iterate 3 refine oNoF rfl rfl rfl rfl hb2 rfl rfl ?_
  refine oPick rfl rfl rfl rfl rfl hb2 rfl ?_
  refine vNil ?_
  change VC _ _ _ _
  refine vCondT rfl rfl ?_
  refine vSeq ?_
  refine vRegion ?_
  refine oEmpty tt (wNone rfl) rfl rfl rfl rfl ?_
  refine oVal tt rfl rfl rfl rfl rfl trivial ?_
  refine vNil ?_
  change VC _ _ _ _
  refine vNilT 4 9001 3 (.ints []) rfl rfl rfl rfl ?_
  refine vRet ?_
  change ∃ _, _
  cases h
  exact ⟨[9001], _, rfl, ⟨rfl, trivial⟩, rfl, (.eq rfl), rfl⟩
 ·replace h := cnd_f hb2 h
  iterate 3 refine oValG tt rfl rfl rfl rfl rfl hb2 rfl rfl rfl trivial ?_
  refine oPickF rfl rfl rfl rfl rfl hb2 rfl ?_
  refine vNil ?_
  change VC _ _ _ _
  refine vCond rfl (fun hb3 => ?_) (fun hb3 => ?_)
  ·replace h := cnd_t hb3 h
   refine vSeq ?_
   refine vRegion ?_
   refine oEmpty tt (wNone rfl) rfl rfl rfl rfl ?_
   refine oVal tt rfl rfl rfl rfl rfl trivial ?_
   refine vNil ?_
   change VC _ _ _ _
   refine vNilT 4 9001 3 (.ints []) rfl rfl rfl rfl ?_
   refine vRet ?_
   change ∃ _, _
   cases h
   exact ⟨[9001], _, rfl, ⟨rfl, trivial⟩, rfl, (.eq rfl), rfl⟩
  ·replace h := cnd_f hb3 h
   refine vSkip ?_
   change VC _ _ _ _
   refine vSeq ?_
   refine vRegion ?_
   refine oVal tt rfl rfl rfl rfl rfl trivial ?_
   refine vNil ?_
   change VC _ _ _ _
   iterate 2 refine vSeq ?_
   refine vRegion ?_
   iterate 3 refine oVal tt rfl rfl rfl rfl rfl trivial ?_
   refine vNil ?_
   change VC _ _ _ _
   refine vJoin (F := fun k => I_LocatedPoints_l2 N anchors_1 k) h (α := Int) (J := fun (base4 : Int) => (⟨[(2, .ptr 2 0), (5, .ptr 5 0), (7, .int base4)], [(1150, some (39, .pairs v1.1.bars))], [(2, some [.int g_0.n, .ro false (.pairs g_0.bars)]), (5, some [.int v1.1.n, .row 1150 0 v1.1.bars.length])]⟩ : PS)) ?_ ?_
   ·rintro base4 h
    show VC _ _ _ (⟨[(2, .ptr 2 0), (5, .ptr 5 0), (7, .int base4)], [(1150, some (39, .pairs v1.1.bars))], [(2, some [.int g_0.n, .ro false (.pairs g_0.bars)]), (5, some [.int v1.1.n, .row 1150 0 v1.1.bars.length])]⟩ : PS)
    refine vSeq ?_
    refine vRegion ?_
    refine oVal tt rfl rfl rfl rfl rfl trivial ?_
    refine vNil ?_
    change VC _ _ _ _
    iterate 2 refine vSeq ?_
    refine vRegion ?_
    iterate 2 refine oVal tt rfl rfl rfl rfl rfl trivial ?_
    obtain ⟨hg4, h⟩ := grd_inv h
    refine oVal tt rfl rfl rfl rfl rfl hg4 ?_
    refine oVal tt rfl rfl rfl rfl rfl trivial ?_
    refine vNil ?_
    change VC _ _ _ _
    refine vJoin (F := fun k => I_LocatedPoints_l1 N g_0 v1 base4 k) h (α := Int) (J := fun (all10 : Int) => (⟨[(2, .ptr 2 0), (10, .int all10)], [], [(2, some [.int g_0.n, .ro false (.pairs g_0.bars)])]⟩ : PS)) ?_ ?_
    ·rintro all10 h
     show VC _ _ _ (⟨[(2, .ptr 2 0), (10, .int all10)], [], [(2, some [.int g_0.n, .ro false (.pairs g_0.bars)])]⟩ : PS)
     refine vSeq ?_
     refine vRegion ?_
     iterate 3 refine oVal tt rfl rfl rfl rfl rfl trivial ?_
     obtain ⟨v11, hc5, h⟩ := bind_inv h
     refine oCall (I_setOf_w N all10 g_0.n v11 hc5) rfl rfl rfl rfl rfl rfl rfl rfl ⟨rfl, rfl, trivial⟩ ?_
     refine oVal tt rfl rfl rfl rfl rfl trivial ?_
     refine vNil ?_
     change VC _ _ _ _
     refine vRet ?_
     change ∃ _, _
     cases h
     exact ⟨[1600], _, rfl, ⟨rfl, trivial⟩, rfl, (.eq rfl), rfl⟩
    ·intro k h
     refine vBlock ?_
     refine vLoopS (α := Int × Int) (fun | (all14, x15) => (⟨[(2, .ptr 2 0), (5, .ptr 5 0), (7, .int base4), (10, .int all14), (39, .int ((1 : Int) * 2 ^ ((g_0.n).toNat))), (40, .int x15)], [(1150, some (39, .pairs v1.1.bars))], [(2, some [.int g_0.n, .ro false (.pairs g_0.bars)]), (5, some [.int v1.1.n, .row 1150 0 v1.1.bars.length])]⟩ : PS)) (I_LocatedPoints_l1 N g_0 v1 base4 k) h (En.of ⟨rfl, rfl, rfl, rfl, rfl, rfl, trivial⟩ ⟨rfl, trivial⟩ ⟨rfl, rfl, trivial⟩) (fun _ => rfl) ?_
     rintro n ⟨all14, x15⟩ h
     rw [I_LocatedPoints_l1] at h
     show VC _ _ _ (⟨[(2, .ptr 2 0), (5, .ptr 5 0), (7, .int base4), (10, .int all14), (39, .int ((1 : Int) * 2 ^ ((g_0.n).toNat))), (40, .int x15)], [(1150, some (39, .pairs v1.1.bars))], [(2, some [.int g_0.n, .ro false (.pairs g_0.bars)]), (5, some [.int v1.1.n, .row 1150 0 v1.1.bars.length])]⟩ : PS)
     refine vSeq ?_
     refine vRegion ?_
     refine oVal tt rfl rfl rfl rfl rfl trivial ?_
     refine vNil ?_
     change VC _ _ _ _
     refine vSeq ?_
     refine vCond rfl (fun hb6 => ?_) (fun hb6 => ?_)
     ·replace h := cnd_t hb6 h
      refine vSkip ?_
      change VC _ _ _ _
      refine vSeq ?_
      refine vBlock ?_
      refine vSeq ?_
      refine vRegion ?_
      iterate 2 refine oVal tt rfl rfl rfl rfl rfl trivial ?_
      refine vNil ?_
      change VC _ _ _ _
      refine vSeq ?_
      refine vRegion ?_
      iterate 6 refine oVal tt rfl rfl rfl rfl rfl trivial ?_
      refine oSplit rfl rfl rfl (fun hb7 => ?_) (fun hb7 => ?_)
      ·replace h := cnd_t hb7 h
       iterate 2 refine oValG tt rfl rfl rfl rfl rfl hb7 rfl rfl rfl trivial ?_
       obtain ⟨v17, hc8, h⟩ := bind_inv h
       refine oCallG (I_isGlobal_w N v1.1 x15 v17 hc8) rfl rfl rfl rfl hb7 rfl rfl rfl rfl rfl rfl rfl ⟨⟨rfl, (.inl ⟨rfl, rfl⟩), trivial⟩, rfl, trivial⟩ ?_
       refine oPick rfl rfl rfl rfl rfl hb7 rfl ?_
       refine vNil ?_
       change VC _ _ _ _
       refine vCond rfl (fun hb9 => ?_) (fun hb9 => ?_)
       ·replace h := cnd_t hb9 h
        refine vRegion ?_
        iterate 4 refine oVal tt rfl rfl rfl rfl rfl trivial ?_
        refine vNil ?_
        change VC _ _ _ _
        refine vRegion ?_
        obtain ⟨hg10, h⟩ := grd_inv h
        refine oVal tt rfl rfl rfl rfl rfl hg10 ?_
        refine oVal tt rfl rfl rfl rfl rfl trivial ?_
        refine vNil ?_
        change ∃ _, _
        exact ⟨((orI all14 x15), (x15 + (1 : Int))), (En.of ⟨rfl, rfl, rfl, rfl, rfl, rfl, trivial⟩ ⟨rfl, trivial⟩ ⟨rfl, rfl, trivial⟩), h⟩
       ·replace h := cnd_f hb9 h
        refine vSkip ?_
        change VC _ _ _ _
        refine vRegion ?_
        obtain ⟨hg11, h⟩ := grd_inv h
        refine oVal tt rfl rfl rfl rfl rfl hg11 ?_
        refine oVal tt rfl rfl rfl rfl rfl trivial ?_
        refine vNil ?_
        change ∃ _, _
        exact ⟨(all14, (x15 + (1 : Int))), (En.of ⟨rfl, rfl, rfl, rfl, rfl, rfl, trivial⟩ ⟨rfl, trivial⟩ ⟨rfl, rfl, trivial⟩), h⟩
      ·replace h := cnd_f hb7 h
       iterate 3 refine oNoT rfl rfl rfl rfl hb7 rfl rfl ?_
       refine oPickF rfl rfl rfl rfl rfl hb7 rfl ?_
       refine vNil ?_
       change VC _ _ _ _
       refine vCondF rfl rfl ?_
       refine vSkip ?_
       change VC _ _ _ _
       refine vRegion ?_
       obtain ⟨hg12, h⟩ := grd_inv h
       refine oVal tt rfl rfl rfl rfl rfl hg12 ?_
       refine oVal tt rfl rfl rfl rfl rfl trivial ?_
       refine vNil ?_
       change ∃ _, _
       exact ⟨(all14, (x15 + (1 : Int))), (En.of ⟨rfl, rfl, rfl, rfl, rfl, rfl, trivial⟩ ⟨rfl, trivial⟩ ⟨rfl, rfl, trivial⟩), h⟩
     ·replace h := cnd_f hb6 h
      refine vExit ?_
      change ∃ _, _
      exact ⟨all14, (En.of ⟨rfl, rfl, trivial⟩ trivial ⟨rfl, trivial⟩), h⟩
   ·intro k h
    refine vBlock ?_
    refine vLoopS (α := Int × Int) (fun | (base19, x20) => (⟨[(2, .ptr 2 0), (5, .ptr 5 0), (7, .int base19), (26, .ro false (.ints anchors_1)), (27, .int (anchors_1.length : Int)), (28, .int x20)], [(1150, some (39, .pairs v1.1.bars))], [(2, some [.int g_0.n, .ro false (.pairs g_0.bars)]), (5, some [.int v1.1.n, .row 1150 0 v1.1.bars.length])]⟩ : PS)) (I_LocatedPoints_l2 N anchors_1 k) h (En.of ⟨rfl, rfl, rfl, rfl, rfl, rfl, trivial⟩ ⟨rfl, trivial⟩ ⟨rfl, rfl, trivial⟩) (fun _ => rfl) ?_
    rintro n ⟨base19, x20⟩ h
    rw [I_LocatedPoints_l2] at h
    show VC _ _ _ (⟨[(2, .ptr 2 0), (5, .ptr 5 0), (7, .int base19), (26, .ro false (.ints anchors_1)), (27, .int (anchors_1.length : Int)), (28, .int x20)], [(1150, some (39, .pairs v1.1.bars))], [(2, some [.int g_0.n, .ro false (.pairs g_0.bars)]), (5, some [.int v1.1.n, .row 1150 0 v1.1.bars.length])]⟩ : PS)
    refine vSeq ?_
    refine vRegion ?_
    refine oVal tt rfl rfl rfl rfl rfl trivial ?_
    refine vNil ?_
    change VC _ _ _ _
    refine vSeq ?_
    refine vCond rfl (fun hb13 => ?_) (fun hb13 => ?_)
    ·replace h := cnd_t hb13 h
     refine vSkip ?_
     change VC _ _ _ _
     refine vSeq ?_
     refine vBlock ?_
     refine vSeq ?_
     refine vRegion ?_
     obtain ⟨hg14, h⟩ := grd_inv h
     refine oVal tt rfl rfl rfl rfl rfl hg14 ?_
     iterate 2 refine oVal tt rfl rfl rfl rfl rfl trivial ?_
     refine vNil ?_
     change VC _ _ _ _
     refine vRegion ?_
     iterate 2 refine oVal tt rfl rfl rfl rfl rfl trivial ?_
     obtain ⟨hg15, h⟩ := grd_inv h
     refine oVal tt rfl rfl rfl rfl rfl hg15 ?_
     iterate 2 refine oVal tt rfl rfl rfl rfl rfl trivial ?_
     refine vNil ?_
     change VC _ _ _ _
     refine vRegion ?_
     obtain ⟨hg16, h⟩ := grd_inv h
     refine oVal tt rfl rfl rfl rfl rfl hg16 ?_
     refine oVal tt rfl rfl rfl rfl rfl trivial ?_
     refine vNil ?_
     change ∃ _, _
     exact ⟨((orI base19 ((1 : Int) * 2 ^ (((anchors_1.getD ((x20).toNat) 0)).toNat))), (x20 + (1 : Int))), (En.of ⟨rfl, rfl, rfl, rfl, rfl, rfl, trivial⟩ ⟨rfl, trivial⟩ ⟨rfl, rfl, trivial⟩), h⟩
    ·replace h := cnd_f hb13 h
     refine vExit ?_
     change ∃ _, _
     exact ⟨base19, (En.of ⟨rfl, rfl, rfl, trivial⟩ ⟨rfl, trivial⟩ ⟨rfl, rfl, trivial⟩), h⟩
end Go.Proofs.YtmoamglpocjhgaaGreat
namespace Go.Proofs.YtmoamglpocjhgaaGreat
open Go.RowKit
def S_MissingBars_l2 (N : Nat) (g_0 : Grf) (a88 : Int) (k : (List (Int × Int)) → Option (List (Int × Int))) : Nat → ((List (Int × Int)) × Int) → Option (List (Int × Int))
 | 0, _ => none
 | n + 1, (l111, b112) =>
  cnd (decide (b112 < g_0.n)) (
   (S_CountBar N g_0 a88 b112).bind fun v114 =>
   cnd (v114 == (0 : Int)) (
    grd (l111.length + 1 ≤ 4294967296) <|
    grd (Rg64 (b112 + (1 : Int))) <|
    S_MissingBars_l2 N g_0 a88 k n ((l111 ++ ([(a88, b112)] : List (Int × Int))), (b112 + (1 : Int)))) (
    grd (Rg64 (b112 + (1 : Int))) <|
    S_MissingBars_l2 N g_0 a88 k n (l111, (b112 + (1 : Int))))) (
   k l111)
def S_MissingBars_l1 (N : Nat) (g_0 : Grf) (k : (List (Int × Int)) → Option (List (Int × Int))) : Nat → ((List (Int × Int)) × Int) → Option (List (Int × Int))
 | 0, _ => none
 | n + 1, (l87, a88) =>
  cnd (decide (a88 < g_0.n)) (
   (S_IsGraph N g_0).bind fun v102 =>
   cnd v102 (
    grd (Rg64 (a88 + (1 : Int))) <|
    S_MissingBars_l2 N g_0 a88 (fun (l108 : List (Int × Int)) =>
       S_MissingBars_l1 N g_0 k n (l108, (a88 + (1 : Int)))) N (l87, (a88 + (1 : Int)))) (
    k l87)) (
   k l87)
def S_MissingBars (N : Nat) (g_0 : Grf) : Option (List (Int × Int)) :=
 S_MissingBars_l1 N g_0 (fun (l57 : List (Int × Int)) =>
    some l57) N (([] : List (Int × Int)), (0 : Int))
set_option maxRecDepth 20000 in
set_option maxHeartbeats 1600000 in
theorem S_MissingBars_w (N : Nat) (g_0 : Grf) (r : List (Int × Int)) (h : S_MissingBars N g_0 = some r) : PCall Tryz.prog 41 [gD g_0] [(39, .pairs r)] (.row 0 0 r.length) := by
 unfold S_MissingBars at h
 refine pcall_intro (TT := TT) tt Tryz.func41 rfl rfl Tryz.ntmps41 (congrArg Array.toList Tryz.results41) rfl rfl fun w0 => ?_
 refine vSeq ?_
 refine vRegion ?_
 refine oBox rfl rfl rfl rfl rfl rfl rfl rfl rfl ?_
 refine oVal tt rfl rfl rfl rfl rfl trivial ?_
 refine vNil ?_
 change VC _ _ _ _
 refine vSeq ?_
 refine vRegion ?_
 refine oEmpty tt (wNone rfl) rfl rfl rfl rfl ?_
 refine oVal tt rfl rfl rfl rfl rfl trivial ?_
 refine vNil ?_
 change VC _ _ _ _
 iterate 2 refine vSeq ?_
 refine vRegion ?_
 refine oVal tt rfl rfl rfl rfl rfl trivial ?_
 refine vNil ?_
 change VC _ _ _ _
 refine vJoin (F := fun k => S_MissingBars_l1 N g_0 k) h (α := List (Int × Int)) (J := fun (l57 : List (Int × Int)) => (⟨[(3, .row 35 0 l57.length)], [(35, some (39, .pairs l57))], []⟩ : PS)) ?_ ?_
 ·rintro l57 h
  show VC _ _ _ (⟨[(3, .row 35 0 l57.length)], [(35, some (39, .pairs l57))], []⟩ : PS)
  refine vSeq ?_
  refine vRegion ?_
  iterate 2 refine oVal tt rfl rfl rfl rfl rfl trivial ?_
  refine vNil ?_
  change VC _ _ _ _
  refine vRet ?_
  change ∃ _, _
  cases h
  exact ⟨[35], _, rfl, ⟨rfl, trivial⟩, rfl, (.eq rfl), rfl⟩
 ·intro k h
  refine vBlock ?_
  refine vNilT 3 35 39 (.pairs []) rfl rfl rfl rfl ?_
  refine vLoopS (α := (List (Int × Int)) × Int) (fun | (l87, a88) => (⟨[(1, .ptr 1 0), (3, .row 35 0 l87.length), (4, .int a88)], [(35, some (39, .pairs l87))], [(1, some [.int g_0.n, .ro false (.pairs g_0.bars)])]⟩ : PS)) (S_MissingBars_l1 N g_0 k) h (En.of ⟨rfl, rfl, rfl, trivial⟩ ⟨rfl, trivial⟩ ⟨rfl, trivial⟩) (fun _ => rfl) ?_
  rintro n ⟨l87, a88⟩ h
  rw [S_MissingBars_l1] at h
  show VC _ _ _ (⟨[(1, .ptr 1 0), (3, .row 35 0 l87.length), (4, .int a88)], [(35, some (39, .pairs l87))], [(1, some [.int g_0.n, .ro false (.pairs g_0.bars)])]⟩ : PS)
  iterate 2 refine vSeq ?_
  refine vRegion ?_
  iterate 5 refine oVal tt rfl rfl rfl rfl rfl trivial ?_
  refine oSplit rfl rfl rfl (fun hb1 => ?_) (fun hb1 => ?_)
  ·replace h := cnd_t hb1 h
   refine oValG tt rfl rfl rfl rfl rfl hb1 rfl rfl rfl trivial ?_
   obtain ⟨v102, hc2, h⟩ := bind_inv h
   refine oCallG (S_IsGraph_w N g_0 v102 hc2) rfl rfl rfl rfl hb1 rfl rfl rfl rfl rfl rfl rfl ⟨⟨rfl, rfl, trivial⟩, trivial⟩ ?_
   refine oPick rfl rfl rfl rfl rfl hb1 rfl ?_
   refine vNil ?_
   change VC _ _ _ _
   refine vCond rfl (fun hb3 => ?_) (fun hb3 => ?_)
   ·replace h := cnd_t hb3 h
    refine vSkip ?_
    change VC _ _ _ _
    refine vSeq ?_
    refine vBlock ?_
    refine vSeq ?_
    refine vRegion ?_
    refine oVal tt rfl rfl rfl rfl rfl trivial ?_
    obtain ⟨hg4, h⟩ := grd_inv h
    refine oVal tt rfl rfl rfl rfl rfl hg4 ?_
    refine oVal tt rfl rfl rfl rfl rfl trivial ?_
    refine vNil ?_
    change VC _ _ _ _
    refine vJoin (F := fun k => S_MissingBars_l2 N g_0 a88 k) h (α := List (Int × Int)) (J := fun (l108 : List (Int × Int)) => (⟨[(1, .ptr 1 0), (3, .row 35 0 l108.length), (4, .int a88)], [(35, some (39, .pairs l108))], [(1, some [.int g_0.n, .ro false (.pairs g_0.bars)])]⟩ : PS)) ?_ ?_
    ·rintro l108 h
     show VC _ _ _ (⟨[(1, .ptr 1 0), (3, .row 35 0 l108.length), (4, .int a88)], [(35, some (39, .pairs l108))], [(1, some [.int g_0.n, .ro false (.pairs g_0.bars)])]⟩ : PS)
     refine vRegion ?_
     refine oVal tt rfl rfl rfl rfl rfl trivial ?_
     refine oVal tt rfl rfl rfl rfl rfl hg4 ?_
     refine oVal tt rfl rfl rfl rfl rfl trivial ?_
     refine vNil ?_
     change ∃ _, _
     exact ⟨(l108, (a88 + (1 : Int))), (En.of ⟨rfl, rfl, rfl, trivial⟩ ⟨rfl, trivial⟩ ⟨rfl, trivial⟩), h⟩
    ·intro k h
     refine vBlock ?_
     refine vLoopS (α := (List (Int × Int)) × Int) (fun | (l111, b112) => (⟨[(1, .ptr 1 0), (3, .row 35 0 l111.length), (4, .int a88), (5, .int b112)], [(35, some (39, .pairs l111))], [(1, some [.int g_0.n, .ro false (.pairs g_0.bars)])]⟩ : PS)) (S_MissingBars_l2 N g_0 a88 k) h (En.of ⟨rfl, rfl, rfl, rfl, trivial⟩ ⟨rfl, trivial⟩ ⟨rfl, trivial⟩) (fun _ => rfl) ?_
     rintro n ⟨l111, b112⟩ h
     rw [S_MissingBars_l2] at h
     show VC _ _ _ (⟨[(1, .ptr 1 0), (3, .row 35 0 l111.length), (4, .int a88), (5, .int b112)], [(35, some (39, .pairs l111))], [(1, some [.int g_0.n, .ro false (.pairs g_0.bars)])]⟩ : PS)
     iterate 2 refine vSeq ?_
     refine vRegion ?_
     iterate 4 refine oVal tt rfl rfl rfl rfl rfl trivial ?_
     refine vNil ?_
     change VC _ _ _ _
     refine vCond rfl (fun hb5 => ?_) (fun hb5 => ?_)
     ·replace h := cnd_t hb5 h
      refine vSkip ?_
      change VC _ _ _ _
      refine vSeq ?_
      refine vBlock ?_
      refine vSeq ?_
      refine vRegion ?_
      iterate 3 refine oVal tt rfl rfl rfl rfl rfl trivial ?_
      obtain ⟨v114, hc6, h⟩ := bind_inv h
      refine oCall (S_CountBar_w N g_0 a88 b112 v114 hc6) rfl rfl rfl rfl rfl rfl rfl rfl ⟨⟨rfl, rfl, trivial⟩, rfl, rfl, trivial⟩ ?_
      refine oVal tt rfl rfl rfl rfl rfl trivial ?_
      refine vNil ?_
      change VC _ _ _ _
      refine vCond rfl (fun hb7 => ?_) (fun hb7 => ?_)
      ·replace h := cnd_t hb7 h
       refine vRegion ?_
       iterate 3 refine oVal tt rfl rfl rfl rfl rfl trivial ?_
       refine oPure (wNone rfl) (pBuild bld_impl_Bar rfl rfl) rfl rfl ?_
       refine oBuild tt rfl rfl rfl rfl rfl rfl rfl rfl rfl rfl rfl ?_
       obtain ⟨hg8, h⟩ := grd_inv h
       refine oAppend tt rfl rfl rfl rfl rfl rfl rfl rfl rfl rfl rfl rfl rfl rfl rfl rfl (Nat.le_of_eq (Nat.zero_add _)) hg8 ?_
       refine oVal tt rfl rfl rfl rfl rfl trivial ?_
       refine vNil ?_
       change VC _ _ _ _
       refine vRegion ?_
       refine oVal tt rfl rfl rfl rfl rfl trivial ?_
       obtain ⟨hg9, h⟩ := grd_inv h
       refine oVal tt rfl rfl rfl rfl rfl hg9 ?_
       refine oVal tt rfl rfl rfl rfl rfl trivial ?_
       refine vNil ?_
       change ∃ _, _
       exact ⟨((l111 ++ ([(a88, b112)] : List (Int × Int))), (b112 + (1 : Int))), (En.of ⟨rfl, rfl, rfl, rfl, trivial⟩ ⟨rfl, trivial⟩ ⟨rfl, trivial⟩), h⟩
      ·replace h := cnd_f hb7 h
       refine vSkip ?_
       change VC _ _ _ _
       refine vRegion ?_
       refine oVal tt rfl rfl rfl rfl rfl trivial ?_
       obtain ⟨hg10, h⟩ := grd_inv h
       refine oVal tt rfl rfl rfl rfl rfl hg10 ?_
       refine oVal tt rfl rfl rfl rfl rfl trivial ?_
       refine vNil ?_
       change ∃ _, _
       exact ⟨(l111, (b112 + (1 : Int))), (En.of ⟨rfl, rfl, rfl, rfl, trivial⟩ ⟨rfl, trivial⟩ ⟨rfl, trivial⟩), h⟩
     ·replace h := cnd_f hb5 h
      refine vExit ?_
      change ∃ _, _
      exact ⟨l111, (En.of ⟨rfl, rfl, rfl, trivial⟩ ⟨rfl, trivial⟩ ⟨rfl, trivial⟩), h⟩
   ·replace h := cnd_f hb3 h
    refine vExit ?_
    change ∃ _, _
    exact ⟨l87, (En.of ⟨rfl, trivial⟩ ⟨rfl, trivial⟩ trivial), h⟩
  ·replace h := cnd_f hb1 h
   iterate 2 refine oNoT rfl rfl rfl rfl hb1 rfl rfl ?_
   refine oPickF rfl rfl rfl rfl rfl hb1 rfl ?_
   refine vNil ?_
   change VC _ _ _ _
   refine vCondF rfl rfl ?_
   refine vExit ?_
   change ∃ _, _
   exact ⟨l87, (En.of ⟨rfl, trivial⟩ ⟨rfl, trivial⟩ trivial), h⟩
def S_NextMeasure_l1 (N : Nat) (g_0 : Grf) (anchors_1 : List Int) (v1 : List (Int × Int)) (k : (Bool × Int × Int) → Option ((Int × Int) × Bool)) : Nat → (Int × Bool × Int × Int × Int) → Option ((Int × Int) × Bool)
 | 0, _ => none
 | n + 1, (most24, found25, i26, c27, c28) =>
  cnd (decide (i26 < (v1.length : Int))) (
   (S_l23Anchors N g_0 anchors_1).bind fun v32 =>
   cnd v32 (
    cnd (decide ((g_0.bars.length : Int) < (24 : Int))) (
     grd (0 ≤ i26 ∧ i26 < (v1.length : Int)) <|
     (S_l2Put N g_0 (v1.getD ((i26).toNat) (0, 0))).bind fun v33 =>
     (S_LocatedPoints N v33 anchors_1).bind fun v34 =>
     cnd (decide ((v34.length : Int) > most24)) (
      grd (Rg64 (i26 + (1 : Int))) <|
      S_NextMeasure_l1 N g_0 anchors_1 v1 k n ((v34.length : Int), true, (i26 + (1 : Int)), (v1.getD ((i26).toNat) (0, 0)).1, (v1.getD ((i26).toNat) (0, 0)).2)) (
      grd (Rg64 (i26 + (1 : Int))) <|
      S_NextMeasure_l1 N g_0 anchors_1 v1 k n (most24, found25, (i26 + (1 : Int)), c27, c28))) (
     k (found25, c27, c28))) (
    k (found25, c27, c28))) (
   k (found25, c27, c28))
def S_NextMeasure (N : Nat) (g_0 : Grf) (anchors_1 : List Int) : Option ((Int × Int) × Bool) :=
 (S_MissingBars N g_0).bind fun v1 =>
 (S_LocatedPoints N g_0 anchors_1).bind fun v2 =>
 S_NextMeasure_l1 N g_0 anchors_1 v1 (fun (x : Bool × Int × Int) =>
   match x with
   | (found17, c18, c19) =>
    some ((c18, c19), found17)) N ((v2.length : Int), false, (0 : Int), (0 : Int), (0 : Int))
set_option maxRecDepth 20000 in
set_option maxHeartbeats 1600000 in
theorem S_NextMeasure_w (N : Nat) (g_0 : Grf) (anchors_1 : List Int) (r : (Int × Int) × Bool) (h : S_NextMeasure N g_0 anchors_1 = some r) : PCall Tryz.prog 16 [gD g_0, .ro false (.ints anchors_1)] [] (.tup [.agg [.int r.1.1, .int r.1.2], .bool r.2]) := by
 unfold S_NextMeasure at h
 refine pcall_intro (TT := TT) tt Tryz.func16 rfl rfl Tryz.ntmps16 (congrArg Array.toList Tryz.results16) rfl rfl fun w0 => ?_
 refine vSeq ?_
 refine vRegion ?_
 refine oBox rfl rfl rfl rfl rfl rfl rfl rfl rfl ?_
 refine oAlloc tt rfl rfl rfl rfl rfl rfl rfl rfl rfl ?_
 refine oVal tt rfl rfl rfl rfl rfl trivial ?_
 refine vNil ?_
 change VC _ _ _ _
 refine vSeq ?_
 refine vRegion ?_
 refine oVal tt rfl rfl rfl rfl rfl trivial ?_
 obtain ⟨v1, hc1, h⟩ := bind_inv h
 refine oCall (S_MissingBars_w N g_0 v1 hc1) rfl rfl rfl rfl rfl rfl rfl rfl ⟨⟨rfl, rfl, trivial⟩, trivial⟩ ?_
 refine oVal tt rfl rfl rfl rfl rfl trivial ?_
 refine vNil ?_
 change VC _ _ _ _
 refine vSeq ?_
 refine vRegion ?_
 refine oPure (wNone rfl) (pBuild bld_impl_Bar rfl rfl) rfl rfl ?_
 refine oAlloc tt rfl rfl rfl rfl rfl rfl rfl rfl rfl ?_
 refine oStore tt rfl rfl rfl rfl rfl rfl rfl rfl rfl rfl rfl ⟨trivial, trivial, trivial⟩ ?_
 refine vNil ?_
 change VC _ _ _ _
 refine vSeq ?_
 refine vRegion ?_
 iterate 2 refine oVal tt rfl rfl rfl rfl rfl trivial ?_
 obtain ⟨v2, hc2, h⟩ := bind_inv h
 refine oCall (S_LocatedPoints_w N g_0 anchors_1 v2 hc2) rfl rfl rfl rfl rfl rfl rfl rfl ⟨⟨rfl, rfl, trivial⟩, rfl, trivial⟩ ?_
 iterate 2 refine oVal tt rfl rfl rfl rfl rfl trivial ?_
 refine vNil ?_
 change VC _ _ _ _
 refine vSeq ?_
 refine vRegion ?_
 refine oVal tt rfl rfl rfl rfl rfl trivial ?_
 refine vNil ?_
 change VC _ _ _ _
 iterate 2 refine vSeq ?_
 refine vRegion ?_
 refine oVal tt rfl rfl rfl rfl rfl trivial ?_
 refine vNil ?_
 change VC _ _ _ _
 refine vJoin (F := fun k => S_NextMeasure_l1 N g_0 anchors_1 v1 k) h (α := Bool × Int × Int) (J := fun | (found17, c18, c19) => (⟨[(4, .ptr 4 0), (7, .ptr 7 0), (9, .bool found17)], [], [(4, some [.int (0 : Int), .int (0 : Int)]), (7, some [.int c18, .int c19])]⟩ : PS)) ?_ ?_
 ·rintro ⟨found17, c18, c19⟩ h
  show VC _ _ _ (⟨[(4, .ptr 4 0), (7, .ptr 7 0), (9, .bool found17)], [], [(4, some [.int (0 : Int), .int (0 : Int)]), (7, some [.int c18, .int c19])]⟩ : PS)
  refine vSeq ?_
  refine vRegion ?_
  iterate 2 refine oVal tt rfl rfl rfl rfl rfl trivial ?_
  refine oStore tt rfl rfl rfl rfl rfl rfl rfl rfl rfl rfl rfl ⟨trivial, trivial, trivial⟩ ?_
  refine oVal tt rfl rfl rfl rfl rfl trivial ?_
  refine vNil ?_
  change VC _ _ _ _
  refine vRet ?_
  change ∃ _, _
  cases h
  exact ⟨[], _, rfl, trivial, rfl, (.eq rfl), rfl⟩
 ·intro k h
  refine vBlock ?_
  refine vLoopS (α := Int × Bool × Int × Int × Int) (fun | (most24, found25, i26, c27, c28) => (⟨[(1, .ro false (.ints anchors_1)), (2, .ptr 2 0), (4, .ptr 4 0), (6, .row 1130 0 v1.length), (7, .ptr 7 0), (8, .int most24), (9, .bool found25), (10, .int i26)], [(1130, some (39, .pairs v1))], [(2, some [.int g_0.n, .ro false (.pairs g_0.bars)]), (4, some [.int (0 : Int), .int (0 : Int)]), (7, some [.int c27, .int c28])]⟩ : PS)) (S_NextMeasure_l1 N g_0 anchors_1 v1 k) h (En.of ⟨rfl, rfl, rfl, rfl, rfl, rfl, rfl, rfl, trivial⟩ ⟨rfl, trivial⟩ ⟨rfl, rfl, rfl, trivial⟩) (fun _ => rfl) ?_
  rintro n ⟨most24, found25, i26, c27, c28⟩ h
  rw [S_NextMeasure_l1] at h
  show VC _ _ _ (⟨[(1, .ro false (.ints anchors_1)), (2, .ptr 2 0), (4, .ptr 4 0), (6, .row 1130 0 v1.length), (7, .ptr 7 0), (8, .int most24), (9, .bool found25), (10, .int i26)], [(1130, some (39, .pairs v1))], [(2, some [.int g_0.n, .ro false (.pairs g_0.bars)]), (4, some [.int (0 : Int), .int (0 : Int)]), (7, some [.int c27, .int c28])]⟩ : PS)
  iterate 2 refine vSeq ?_
  refine vRegion ?_
  iterate 5 refine oVal tt rfl rfl rfl rfl rfl trivial ?_
  refine oSplit rfl rfl rfl (fun hb3 => ?_) (fun hb3 => ?_)
  ·replace h := cnd_t hb3 h
   iterate 2 refine oValG tt rfl rfl rfl rfl rfl hb3 rfl rfl rfl trivial ?_
   obtain ⟨v32, hc4, h⟩ := bind_inv h
   refine oCallG (S_l23Anchors_w N g_0 anchors_1 v32 hc4) rfl rfl rfl rfl hb3 rfl rfl rfl rfl rfl rfl rfl ⟨⟨rfl, rfl, trivial⟩, rfl, trivial⟩ ?_
   refine oPick rfl rfl rfl rfl rfl hb3 rfl ?_
   refine oVal tt rfl rfl rfl rfl rfl trivial ?_
   refine oSplit rfl rfl rfl (fun hb5 => ?_) (fun hb5 => ?_)
   ·replace h := cnd_t hb5 h
    iterate 4 refine oValG tt rfl rfl rfl rfl rfl hb5 rfl rfl rfl trivial ?_
    refine oPick rfl rfl rfl rfl rfl hb5 rfl ?_
    refine vNil ?_
    change VC _ _ _ _
    refine vCond rfl (fun hb6 => ?_) (fun hb6 => ?_)
    ·replace h := cnd_t hb6 h
     refine vSkip ?_
     change VC _ _ _ _
     refine vSeq ?_
     refine vBlock ?_
     refine vSeq ?_
     refine vRegionN 7 [5] [0, 0, 0, 6, 14, 31, 0, 127, 255, 511] (by kernel_rfl) (by kernel_rfl) (by kernel_rfl) (by kernel_rfl) (by kernel_rfl) rfl (by rfl) ?_
     iterate 3 refine nVal tt rfl (wNone rfl) rfl rfl rfl rfl rfl trivial ?_
     obtain ⟨hg7, h⟩ := grd_inv h
     iterate 2 refine nVal tt rfl (wNone rfl) rfl rfl rfl rfl rfl hg7 ?_
     obtain ⟨v33, hc8, h⟩ := bind_inv h
     refine nCallR (S_l2Put_w N g_0 (v1.getD ((i26).toNat) (0, 0)) v33 hc8) rfl (wNone rfl) rfl rfl rfl rfl rfl rfl (by first | rfl | kernel_rfl | (simp [nrL, nm, gdst, nmT, rowB]; done)) rfl (by first | rfl | kernel_rfl | (simp [chkE, nrL, nm, gdst, nmT, rowB, hid, ment, mentA, mentS]; done) | (simp [chkE, nrL, nm, gdst, nmT, rowB, hid, ment, mentA, mentS]; decide)) ⟨⟨rfl, rfl, trivial⟩, ⟨rfl, rfl, trivial⟩, trivial⟩ ?_
     refine nVal tt rfl (wNone rfl) rfl rfl rfl rfl rfl trivial ?_
     refine nNil ?_
     change VO _ _ _ _ _
     obtain ⟨v34, hc9, h⟩ := bind_inv h
     refine oCall (S_LocatedPoints_w N v33 anchors_1 v34 hc9) rfl rfl rfl rfl rfl rfl rfl rfl ⟨⟨rfl, (.inl ⟨rfl, rfl⟩), trivial⟩, rfl, trivial⟩ ?_
     iterate 2 refine oVal tt rfl rfl rfl rfl rfl trivial ?_
     refine vNil ?_
     change VC _ _ _ _
     refine vSeq ?_
     refine vRegion ?_
     iterate 3 refine oVal tt rfl rfl rfl rfl rfl trivial ?_
     refine vNil ?_
     change VC _ _ _ _
     refine vCond rfl (fun hb10 => ?_) (fun hb10 => ?_)
     ·replace h := cnd_t hb10 h
      refine vSeq ?_
      refine vRegion ?_
      iterate 2 refine oVal tt rfl rfl rfl rfl rfl trivial ?_
      refine vNil ?_
      change VC _ _ _ _
      refine vSeq ?_
      refine vRegion ?_
      iterate 2 refine oVal tt rfl rfl rfl rfl rfl trivial ?_
      iterate 2 refine oVal tt rfl rfl rfl rfl rfl hg7 ?_
      refine oStore tt rfl rfl rfl rfl rfl rfl rfl rfl rfl rfl rfl ⟨trivial, trivial, trivial⟩ ?_
      refine vNil ?_
      change VC _ _ _ _
      refine vRegion ?_
      refine oVal tt rfl rfl rfl rfl rfl trivial ?_
      refine vNil ?_
      change VC _ _ _ _
      refine vRegion ?_
      refine oVal tt rfl rfl rfl rfl rfl trivial ?_
      obtain ⟨hg11, h⟩ := grd_inv h
      refine oVal tt rfl rfl rfl rfl rfl hg11 ?_
      refine oVal tt rfl rfl rfl rfl rfl trivial ?_
      refine vNil ?_
      change ∃ _, _
      exact ⟨((v34.length : Int), true, (i26 + (1 : Int)), (v1.getD ((i26).toNat) (0, 0)).1, (v1.getD ((i26).toNat) (0, 0)).2), (En.of ⟨rfl, rfl, rfl, rfl, rfl, rfl, rfl, rfl, trivial⟩ ⟨rfl, trivial⟩ ⟨rfl, rfl, rfl, trivial⟩), h⟩
     ·replace h := cnd_f hb10 h
      refine vSkip ?_
      change VC _ _ _ _
      refine vRegion ?_
      refine oVal tt rfl rfl rfl rfl rfl trivial ?_
      obtain ⟨hg12, h⟩ := grd_inv h
      refine oVal tt rfl rfl rfl rfl rfl hg12 ?_
      refine oVal tt rfl rfl rfl rfl rfl trivial ?_
      refine vNil ?_
      change ∃ _, _
      exact ⟨(most24, found25, (i26 + (1 : Int)), c27, c28), (En.of ⟨rfl, rfl, rfl, rfl, rfl, rfl, rfl, rfl, trivial⟩ ⟨rfl, trivial⟩ ⟨rfl, rfl, rfl, trivial⟩), h⟩
    ·replace h := cnd_f hb6 h
     refine vExit ?_
     change ∃ _, _
     exact ⟨(found25, c27, c28), (En.of ⟨rfl, rfl, rfl, trivial⟩ trivial ⟨rfl, rfl, trivial⟩), h⟩
   ·replace h := cnd_f hb5 h
    iterate 4 refine oNoT rfl rfl rfl rfl hb5 rfl rfl ?_
    refine oPickF rfl rfl rfl rfl rfl hb5 rfl ?_
    refine vNil ?_
    change VC _ _ _ _
    refine vCondF rfl rfl ?_
    refine vExit ?_
    change ∃ _, _
    exact ⟨(found25, c27, c28), (En.of ⟨rfl, rfl, rfl, trivial⟩ trivial ⟨rfl, rfl, trivial⟩), h⟩
  ·replace h := cnd_f hb3 h
   iterate 3 refine oNoT rfl rfl rfl rfl hb3 rfl rfl ?_
   refine oPickF rfl rfl rfl rfl rfl hb3 rfl ?_
   refine oVal tt rfl rfl rfl rfl rfl trivial ?_
   iterate 4 refine oNoT rfl rfl rfl rfl rfl rfl rfl ?_
   refine oPickF rfl rfl rfl rfl rfl rfl rfl ?_
   refine vNil ?_
   change VC _ _ _ _
   refine vCondF rfl rfl ?_
   refine vExit ?_
   change ∃ _, _
   exact ⟨(found25, c27, c28), (En.of ⟨rfl, rfl, rfl, trivial⟩ trivial ⟨rfl, rfl, trivial⟩), h⟩
def I_NextMeasure_l1 (N : Nat) (g_0 : Grf) (anchors_1 : List Int) (v3 : List (Int × Int)) (k : (Bool × Int × Int) → Option ((Int × Int) × Bool)) : Nat → (Bool × Int × Int × Int × Int) → Option ((Int × Int) × Bool)
 | 0, _ => none
 | n + 1, (found21, most22, x23, c24, c25) =>
  cnd (decide (x23 < (v3.length : Int))) (
   grd (0 ≤ x23 ∧ x23 < (v3.length : Int)) <|
   (I_withBars N g_0 ([((v3.getD ((x23).toNat) (0, 0)).1, (v3.getD ((x23).toNat) (0, 0)).2)] : List (Int × Int))).bind fun v28 =>
   (I_LocatedPoints N v28 anchors_1).bind fun v29 =>
   cnd (decide ((v29.length : Int) > most22)) (
    grd (Rg64 (x23 + (1 : Int))) <|
    I_NextMeasure_l1 N g_0 anchors_1 v3 k n (true, (v29.length : Int), (x23 + (1 : Int)), (v3.getD ((x23).toNat) (0, 0)).1, (v3.getD ((x23).toNat) (0, 0)).2)) (
    grd (Rg64 (x23 + (1 : Int))) <|
    I_NextMeasure_l1 N g_0 anchors_1 v3 k n (found21, most22, (x23 + (1 : Int)), c24, c25))) (
   k (found21, c24, c25))
def I_NextMeasure (N : Nat) (g_0 : Grf) (anchors_1 : List Int) : Option ((Int × Int) × Bool) :=
 (I_areAnchors N g_0 anchors_1).bind fun v1 =>
 cnd (!v1) (
  some (((0 : Int), (0 : Int)), false)) (
  cnd ((g_0.bars.length : Int) == (24 : Int)) (
   some (((0 : Int), (0 : Int)), false)) (
   (I_LocatedPoints N g_0 anchors_1).bind fun v2 =>
   (I_MissingBars N g_0).bind fun v3 =>
   I_NextMeasure_l1 N g_0 anchors_1 v3 (fun (x : Bool × Int × Int) =>
     match x with
     | (found15, c16, c17) =>
      some ((c16, c17), found15)) N (false, (v2.length : Int), (0 : Int), (0 : Int), (0 : Int))))
set_option maxRecDepth 20000 in
set_option maxHeartbeats 1600000 in
theorem I_NextMeasure_w (N : Nat) (g_0 : Grf) (anchors_1 : List Int) (r : (Int × Int) × Bool) (h : I_NextMeasure N g_0 anchors_1 = some r) : PCall Tryz.prog 17 [gD g_0, .ro false (.ints anchors_1)] [] (.tup [.agg [.int r.1.1, .int r.1.2], .bool r.2]) := by
 unfold I_NextMeasure at h
 refine pcall_intro (TT := TT) tt Tryz.func17 rfl rfl Tryz.ntmps17 (congrArg Array.toList Tryz.results17) rfl rfl fun w0 => ?_
 refine vSeq ?_
 refine vRegion ?_
 refine oBox rfl rfl rfl rfl rfl rfl rfl rfl rfl ?_
 refine oAlloc tt rfl rfl rfl rfl rfl rfl rfl rfl rfl ?_
 refine oVal tt rfl rfl rfl rfl rfl trivial ?_
 refine vNil ?_
 change VC _ _ _ _
 iterate 2 refine vSeq ?_
 refine vRegion ?_
 iterate 2 refine oVal tt rfl rfl rfl rfl rfl trivial ?_
 obtain ⟨v1, hc1, h⟩ := bind_inv h
 refine oCall (I_areAnchors_w N g_0 anchors_1 v1 hc1) rfl rfl rfl rfl rfl rfl rfl rfl ⟨⟨rfl, rfl, trivial⟩, rfl, trivial⟩ ?_
 iterate 2 refine oVal tt rfl rfl rfl rfl rfl trivial ?_
 refine oSplit rfl rfl rfl (fun hb2 => ?_) (fun hb2 => ?_)
 ·replace h := cnd_t hb2 h
  iterate 4 refine oNoF rfl rfl rfl rfl hb2 rfl rfl ?_
  refine oPick rfl rfl rfl rfl rfl hb2 rfl ?_
  refine vNil ?_
  change VC _ _ _ _
  refine vCondT rfl rfl ?_
  refine vSeq ?_
  refine vRegion ?_
  refine oPure (wNone rfl) (pBuild bld_impl_Bar rfl rfl) rfl rfl ?_
  refine oStore tt rfl rfl rfl rfl rfl rfl rfl rfl rfl rfl rfl ⟨trivial, trivial, trivial⟩ ?_
  refine oVal tt rfl rfl rfl rfl rfl trivial ?_
  refine vNil ?_
  change VC _ _ _ _
  refine vRet ?_
  change ∃ _, _
  cases h
  exact ⟨[], _, rfl, trivial, rfl, (.eq rfl), rfl⟩
 ·replace h := cnd_f hb2 h
  iterate 4 refine oValG tt rfl rfl rfl rfl rfl hb2 rfl rfl rfl trivial ?_
  refine oPickF rfl rfl rfl rfl rfl hb2 rfl ?_
  refine vNil ?_
  change VC _ _ _ _
  refine vCond rfl (fun hb3 => ?_) (fun hb3 => ?_)
  ·replace h := cnd_t hb3 h
   refine vSeq ?_
   refine vRegion ?_
   refine oPure (wNone rfl) (pBuild bld_impl_Bar rfl rfl) rfl rfl ?_
   refine oStore tt rfl rfl rfl rfl rfl rfl rfl rfl rfl rfl rfl ⟨trivial, trivial, trivial⟩ ?_
   refine oVal tt rfl rfl rfl rfl rfl trivial ?_
   refine vNil ?_
   change VC _ _ _ _
   refine vRet ?_
   change ∃ _, _
   cases h
   exact ⟨[], _, rfl, trivial, rfl, (.eq rfl), rfl⟩
  ·replace h := cnd_f hb3 h
   refine vSkip ?_
   change VC _ _ _ _
   refine vSeq ?_
   refine vRegion ?_
   refine oPure (wNone rfl) (pBuild bld_impl_Bar rfl rfl) rfl rfl ?_
   refine oAlloc tt rfl rfl rfl rfl rfl rfl rfl rfl rfl ?_
   refine oStore tt rfl rfl rfl rfl rfl rfl rfl rfl rfl rfl rfl ⟨trivial, trivial, trivial⟩ ?_
   refine oVal tt rfl rfl rfl rfl rfl trivial ?_
   refine vNil ?_
   change VC _ _ _ _
   refine vSeq ?_
   refine vRegion ?_
   iterate 2 refine oVal tt rfl rfl rfl rfl rfl trivial ?_
   obtain ⟨v2, hc4, h⟩ := bind_inv h
   refine oCall (I_LocatedPoints_w N g_0 anchors_1 v2 hc4) rfl rfl rfl rfl rfl rfl rfl rfl ⟨⟨rfl, rfl, trivial⟩, rfl, trivial⟩ ?_
   iterate 2 refine oVal tt rfl rfl rfl rfl rfl trivial ?_
   refine vNil ?_
   change VC _ _ _ _
   iterate 2 refine vSeq ?_
   refine vRegion ?_
   refine oVal tt rfl rfl rfl rfl rfl trivial ?_
   obtain ⟨v3, hc5, h⟩ := bind_inv h
   refine oCall (I_MissingBars_w N g_0 v3 hc5) rfl rfl rfl rfl rfl rfl rfl rfl ⟨⟨rfl, rfl, trivial⟩, trivial⟩ ?_
   iterate 2 refine oVal tt rfl rfl rfl rfl rfl trivial ?_
   refine vNil ?_
   change VC _ _ _ _
   refine vJoin (F := fun k => I_NextMeasure_l1 N g_0 anchors_1 v3 k) h (α := Bool × Int × Int) (J := fun | (found15, c16, c17) => (⟨[(4, .ptr 4 0), (6, .ptr 6 0), (7, .bool found15)], [], [(4, some [.int (0 : Int), .int (0 : Int)]), (6, some [.int c16, .int c17])]⟩ : PS)) ?_ ?_
   ·rintro ⟨found15, c16, c17⟩ h
    show VC _ _ _ (⟨[(4, .ptr 4 0), (6, .ptr 6 0), (7, .bool found15)], [], [(4, some [.int (0 : Int), .int (0 : Int)]), (6, some [.int c16, .int c17])]⟩ : PS)
    refine vSeq ?_
    refine vRegion ?_
    iterate 2 refine oVal tt rfl rfl rfl rfl rfl trivial ?_
    refine oStore tt rfl rfl rfl rfl rfl rfl rfl rfl rfl rfl rfl ⟨trivial, trivial, trivial⟩ ?_
    refine oVal tt rfl rfl rfl rfl rfl trivial ?_
    refine vNil ?_
    change VC _ _ _ _
    refine vRet ?_
    change ∃ _, _
    cases h
    exact ⟨[], _, rfl, trivial, rfl, (.eq rfl), rfl⟩
   ·intro k h
    refine vBlock ?_
    refine vLoopS (α := Bool × Int × Int × Int × Int) (fun | (found21, most22, x23, c24, c25) => (⟨[(1, .ro false (.ints anchors_1)), (2, .ptr 2 0), (4, .ptr 4 0), (6, .ptr 6 0), (7, .bool found21), (8, .int most22), (29, .row 1290 0 v3.length), (30, .int (v3.length : Int)), (31, .int x23)], [(1290, some (39, .pairs v3))], [(2, some [.int g_0.n, .ro false (.pairs g_0.bars)]), (4, some [.int (0 : Int), .int (0 : Int)]), (6, some [.int c24, .int c25])]⟩ : PS)) (I_NextMeasure_l1 N g_0 anchors_1 v3 k) h (En.of ⟨rfl, rfl, rfl, rfl, rfl, rfl, rfl, rfl, rfl, trivial⟩ ⟨rfl, trivial⟩ ⟨rfl, rfl, rfl, trivial⟩) (fun _ => rfl) ?_
    rintro n ⟨found21, most22, x23, c24, c25⟩ h
    rw [I_NextMeasure_l1] at h
    show VC _ _ _ (⟨[(1, .ro false (.ints anchors_1)), (2, .ptr 2 0), (4, .ptr 4 0), (6, .ptr 6 0), (7, .bool found21), (8, .int most22), (29, .row 1290 0 v3.length), (30, .int (v3.length : Int)), (31, .int x23)], [(1290, some (39, .pairs v3))], [(2, some [.int g_0.n, .ro false (.pairs g_0.bars)]), (4, some [.int (0 : Int), .int (0 : Int)]), (6, some [.int c24, .int c25])]⟩ : PS)
    refine vSeq ?_
    refine vRegion ?_
    refine oVal tt rfl rfl rfl rfl rfl trivial ?_
    refine vNil ?_
    change VC _ _ _ _
    refine vSeq ?_
    refine vCond rfl (fun hb6 => ?_) (fun hb6 => ?_)
    ·replace h := cnd_t hb6 h
     refine vSkip ?_
     change VC _ _ _ _
     refine vSeq ?_
     refine vBlock ?_
     refine vSeq ?_
     refine vRegion ?_
     obtain ⟨hg7, h⟩ := grd_inv h
     iterate 2 refine oVal tt rfl rfl rfl rfl rfl hg7 ?_
     refine oAlloc tt rfl rfl rfl rfl rfl rfl rfl rfl rfl ?_
     refine oStore tt rfl rfl rfl rfl rfl rfl rfl rfl rfl rfl rfl ⟨trivial, trivial, trivial⟩ ?_
     refine vNil ?_
     change VC _ _ _ _
     refine vSeq ?_
     refine vRegion ?_
     iterate 2 refine oVal tt rfl rfl rfl rfl rfl trivial ?_
     refine oBuild tt rfl rfl rfl rfl rfl rfl rfl rfl rfl rfl rfl ?_
     obtain ⟨v28, hc8, h⟩ := bind_inv h
     refine oCall (I_withBars_w N g_0 ([((v3.getD ((x23).toNat) (0, 0)).1, (v3.getD ((x23).toNat) (0, 0)).2)] : List (Int × Int)) v28 hc8) rfl rfl rfl rfl rfl rfl rfl rfl ⟨⟨rfl, rfl, trivial⟩, (.inl ⟨rfl, rfl⟩), trivial⟩ ?_
     refine oVal tt rfl rfl rfl rfl rfl trivial ?_
     obtain ⟨v29, hc9, h⟩ := bind_inv h
     refine oCall (I_LocatedPoints_w N v28 anchors_1 v29 hc9) rfl rfl rfl rfl rfl rfl rfl rfl ⟨⟨rfl, (.inl ⟨rfl, rfl⟩), trivial⟩, rfl, trivial⟩ ?_
     iterate 2 refine oVal tt rfl rfl rfl rfl rfl trivial ?_
     refine vNil ?_
     change VC _ _ _ _
     refine vSeq ?_
     refine vRegion ?_
     iterate 3 refine oVal tt rfl rfl rfl rfl rfl trivial ?_
     refine vNil ?_
     change VC _ _ _ _
     refine vCond rfl (fun hb10 => ?_) (fun hb10 => ?_)
     ·replace h := cnd_t hb10 h
      refine vRegion ?_
      iterate 2 refine oVal tt rfl rfl rfl rfl rfl trivial ?_
      refine oStore tt rfl rfl rfl rfl rfl rfl rfl rfl rfl rfl rfl ⟨trivial, trivial, trivial⟩ ?_
      iterate 2 refine oVal tt rfl rfl rfl rfl rfl trivial ?_
      refine vNil ?_
      change VC _ _ _ _
      refine vRegion ?_
      obtain ⟨hg11, h⟩ := grd_inv h
      refine oVal tt rfl rfl rfl rfl rfl hg11 ?_
      refine oVal tt rfl rfl rfl rfl rfl trivial ?_
      refine vNil ?_
      change ∃ _, _
      exact ⟨(true, (v29.length : Int), (x23 + (1 : Int)), (v3.getD ((x23).toNat) (0, 0)).1, (v3.getD ((x23).toNat) (0, 0)).2), (En.of ⟨rfl, rfl, rfl, rfl, rfl, rfl, rfl, rfl, rfl, trivial⟩ ⟨rfl, trivial⟩ ⟨rfl, rfl, rfl, trivial⟩), h⟩
     ·replace h := cnd_f hb10 h
      refine vSkip ?_
      change VC _ _ _ _
      refine vRegion ?_
      obtain ⟨hg12, h⟩ := grd_inv h
      refine oVal tt rfl rfl rfl rfl rfl hg12 ?_
      refine oVal tt rfl rfl rfl rfl rfl trivial ?_
      refine vNil ?_
      change ∃ _, _
      exact ⟨(found21, most22, (x23 + (1 : Int)), c24, c25), (En.of ⟨rfl, rfl, rfl, rfl, rfl, rfl, rfl, rfl, rfl, trivial⟩ ⟨rfl, trivial⟩ ⟨rfl, rfl, rfl, trivial⟩), h⟩
    ·replace h := cnd_f hb6 h
     refine vExit ?_
     change ∃ _, _
     exact ⟨(found21, c24, c25), (En.of ⟨rfl, rfl, rfl, trivial⟩ trivial ⟨rfl, rfl, trivial⟩), h⟩
end Go.Proofs.YtmoamglpocjhgaaGreat
namespace Go.Proofs.YtmoamglpocjhgaaGreat
variable {N : Nat}
def rowM (bars : List (Int × Int)) (a : Nat) : Nat → List (Int × Int)
 | 0 => []
 | k + 1 => rowM bars a k ++ cnd (cntB bars (a : Int) ((a + 1 + k : Nat) : Int) == 0) [((a : Int), ((a + 1 + k : Nat) : Int))] []
def missM (bars : List (Int × Int)) (n : Nat) : Nat → List (Int × Int)
 | 0 => []
 | a + 1 => missM bars n a ++ rowM bars a (n - (a + 1))
theorem rowM_len (bars : List (Int × Int)) (a : Nat) : ∀ k, (rowM bars a k).length ≤ k
 | 0 => by simp [rowM]
 | k + 1 => by
  have := rowM_len bars a k
  rw [rowM, List.length_append]
  cases (cntB bars (a : Int) ((a + 1 + k : Nat) : Int) == 0) <;> simp [cnd] <;> omega
theorem missM_len (bars : List (Int × Int)) (n : Nat) : ∀ a, (missM bars n a).length ≤ a * n
 | 0 => by simp [missM]
 | a + 1 => by
  have h1 := missM_len bars n a
  have h2 := rowM_len bars a (n - (a + 1))
  rw [missM, List.length_append, Nat.add_mul, Nat.one_mul]; omega
theorem missI2_s (hN : 4000000 ≤ N) {g : Grf} (hb : g.bars.length ≤ 3000000) {n : Nat} (hn : g.n = (n : Int)) (hn8 : n ≤ 1000) {a : Nat} (kk : List (Int × Int) → Option (List (Int × Int))) {L : List (Int × Int)} (hL : L.length ≤ 1000000) :
  ∀ (fuel k : Nat), k ≤ n - (a + 1) → n - (a + 1) < fuel + k → I_MissingBars_l2 N g (a : Int) kk fuel (L ++ rowM g.bars a k, ((a + 1 + k : Nat) : Int)) = kk (L ++ rowM g.bars a (n - (a + 1))) := by
 intro fuel
 induction fuel with
 | zero => intro k h1 h2; omega
 | succ fuel ih =>
  intro k h1 h2
  rw [I_MissingBars_l2]
  by_cases hk : k < n - (a + 1)
  ·have hl := rowM_len g.bars a k
   have hih := ih (k + 1) (by omega) (by omega)
   rw [cnd_dt (by omega), countI_s hN hb, Option.bind_some, ← hih, rowM]
   cases (cntB g.bars (a : Int) ((a + 1 + k : Nat) : Int) == 0) with
   | true => rw [cnd_true, cnd_true, grd_pos (by rw [List.length_append]; omega), grd_R (by omega) (by omega), List.append_assoc, succ_cast]; rfl
   | false => rw [cnd_false, cnd_false, grd_R (by omega) (by omega), List.append_nil, succ_cast]; rfl
  ·rw [cnd_df (by omega), show k = n - (a + 1) from by omega]
theorem missS2_s (hN : 4000000 ≤ N) {g : Grf} (hb : g.bars.length ≤ 3000000) {n : Nat} (hn : g.n = (n : Int)) (hn8 : n ≤ 1000) {a : Nat} (kk : List (Int × Int) → Option (List (Int × Int))) {L : List (Int × Int)} (hL : L.length ≤ 1000000) :
  ∀ (fuel k : Nat), k ≤ n - (a + 1) → n - (a + 1) < fuel + k → S_MissingBars_l2 N g (a : Int) kk fuel (L ++ rowM g.bars a k, ((a + 1 + k : Nat) : Int)) = kk (L ++ rowM g.bars a (n - (a + 1))) := by
 intro fuel
 induction fuel with
 | zero => intro k h1 h2; omega
 | succ fuel ih =>
  intro k h1 h2
  rw [S_MissingBars_l2]
  by_cases hk : k < n - (a + 1)
  ·have hl := rowM_len g.bars a k
   have hih := ih (k + 1) (by omega) (by omega)
   rw [cnd_dt (by omega), countS_s hN hb, Option.bind_some, ← hih, rowM]
   cases (cntB g.bars (a : Int) ((a + 1 + k : Nat) : Int) == 0) with
   | true => rw [cnd_true, cnd_true, grd_pos (by rw [List.length_append]; omega), grd_R (by omega) (by omega), List.append_assoc, succ_cast]; rfl
   | false => rw [cnd_false, cnd_false, grd_R (by omega) (by omega), List.append_nil, succ_cast]; rfl
  ·rw [cnd_df (by omega), show k = n - (a + 1) from by omega]
theorem missing_x (hN : 4000000 ≤ N) {g : Grf} (hb : g.bars.length ≤ 3000000) (hg : isGraph g = true) : S_MissingBars N g = some (missM g.bars g.n.toNat g.n.toNat) ∧ I_MissingBars N g = some (missM g.bars g.n.toNat g.n.toNat) := by
 have hp := isGraph_parts hg
 obtain ⟨n, hn⟩ : ∃ n : Nat, g.n.toNat = n := ⟨_, rfl⟩
 have hn2 : g.n = (n : Int) := by omega
 have hml : ∀ a, a ≤ n → (missM g.bars n a).length ≤ 100 := fun a ha => Nat.le_trans (missM_len _ _ _) (by have := Nat.mul_le_mul ha (Nat.le_refl n); have h3 := Nat.mul_le_mul (show n ≤ 8 by omega) (show n ≤ 8 by omega); omega)
 rw [hn]
 constructor
 ·unfold S_MissingBars
  refine Eq.trans ?_ (fold (N := N) (len := n) (σ := List (Int × Int)) (st := fun a => missM g.bars n a) (F := fun m s => S_MissingBars_l1 N g (fun l57 => some l57) m (s.1, s.2)) (fin := some (missM g.bars n n)) (by omega) (fun m a ha => ?_) fun m => ?_)
  ·rfl
  ·show S_MissingBars_l1 N g _ (m + 1) (missM g.bars n a, (a : Int)) = S_MissingBars_l1 N g _ m (missM g.bars n (a + 1), ((a + 1 : Nat) : Int))
   have hl := hml a (by omega)
   have h2 := missS2_s hN hb hn2 (by omega) (a := a) (fun (l108 : List (Int × Int)) => S_MissingBars_l1 N g (fun l57 => some l57) m (l108, ((a : Int) + (1 : Int)))) (L := missM g.bars n a) (by omega) N 0 (by omega) (by omega)
   rw [S_MissingBars_l1, cnd_dt (by omega), isGraphS_s N hN, Option.bind_some, hg, cnd_true, grd_R (by omega) (by omega)]
   simp only [rowM, List.append_nil, Nat.add_zero] at h2
   rw [succ_cast]
   rw [succ_cast] at h2
   exact h2
  ·show S_MissingBars_l1 N g _ (m + 1) (missM g.bars n n, (n : Int)) = _
   rw [S_MissingBars_l1, cnd_df (by omega)]
 ·unfold I_MissingBars
  rw [isGraphI_s N hN, Option.bind_some, hg, Bool.not_true, cnd_false]
  refine Eq.trans ?_ (fold (N := N) (len := n) (σ := List (Int × Int)) (st := fun a => missM g.bars n a) (F := fun m s => I_MissingBars_l1 N g (fun l57 => some l57) m (s.1, s.2)) (fin := some (missM g.bars n n)) (by omega) (fun m a ha => ?_) fun m => ?_)
  ·rfl
  ·show I_MissingBars_l1 N g _ (m + 1) (missM g.bars n a, (a : Int)) = I_MissingBars_l1 N g _ m (missM g.bars n (a + 1), ((a + 1 : Nat) : Int))
   have hl := hml a (by omega)
   have h2 := missI2_s hN hb hn2 (by omega) (a := a) (fun (l108 : List (Int × Int)) => I_MissingBars_l1 N g (fun l57 => some l57) m (l108, ((a : Int) + (1 : Int)))) (L := missM g.bars n a) (by omega) N 0 (by omega) (by omega)
   rw [I_MissingBars_l1, cnd_dt (by omega), grd_R (by omega) (by omega)]
   simp only [rowM, List.append_nil, Nat.add_zero] at h2
   rw [succ_cast]
   rw [succ_cast] at h2
   exact h2
  ·show I_MissingBars_l1 N g _ (m + 1) (missM g.bars n n, (n : Int)) = _
   rw [I_MissingBars_l1, cnd_df (by omega)]
theorem pr3 {x : Int × Int} (h : 0 ≤ x.1 ∧ x.1 < x.2 ∧ x.2 < 3) : x = (0, 1) ∨ x = (0, 2) ∨ x = (1, 2) := by
 rcases x with ⟨a, b⟩
 simp only [Prod.mk.injEq] at *
 omega
def ltE (x y : Int × Int) : Prop := x.1 < y.1 ∨ (x.1 = y.1 ∧ x.2 < y.2)
theorem small_x {n : Nat} (hn : 1 ≤ n ∧ n ≤ 3) {L : List (Int × Int)} (hB : ∀ e ∈ L, 0 ≤ e.1 ∧ e.1 < e.2 ∧ e.2 < (n : Int)) (hS : ∀ i, i + 1 < L.length → ltE (L.getD i (0, 0)) (L.getD (i + 1) (0, 0))) :
  decide (((missM L n n).length : Int) > (0 : Int)) = decide ((L.length : Int) < Int.tdiv ((n : Int) * ((n : Int) - (1 : Int))) (2 : Int)) := by
 have hB3 : ∀ e ∈ L, e = (0, 1) ∨ e = (0, 2) ∨ e = (1, 2) := fun e he => pr3 (by have := hB e he; omega)
 match L, hB, hS, hB3 with
 | [], _, _, _ =>
  obtain rfl | rfl | rfl : n = 1 ∨ n = 2 ∨ n = 3 := by omega
  all_goals decide
 | [x], hB, hS, hB3 =>
  have b1 := hB x (by simp)
  rcases hB3 x (by simp) with rfl | rfl | rfl
  all_goals
   obtain rfl | rfl | rfl : n = 1 ∨ n = 2 ∨ n = 3 := by omega
   all_goals first | decide | (exfalso; simp at b1; done) | (exfalso; simp at b1; omega)
 | [x, y], hB, hS, hB3 =>
  have b1 := hB x (by simp)
  have b2 := hB y (by simp)
  have s1 : ltE x y := hS 0 (by simp)
  unfold ltE at s1
  rcases hB3 x (by simp) with rfl | rfl | rfl
  all_goals
   rcases hB3 y (by simp) with rfl | rfl | rfl
   all_goals
    obtain rfl | rfl | rfl : n = 1 ∨ n = 2 ∨ n = 3 := by omega
    all_goals first | decide | (exfalso; simp at b1 b2 s1; done) | (exfalso; simp at b1 b2 s1; omega)
 | [x, y, z], hB, hS, hB3 =>
  have b1 := hB x (by simp)
  have b2 := hB y (by simp)
  have b3 := hB z (by simp)
  have s1 : ltE x y := hS 0 (by simp)
  have s2 : ltE y z := hS 1 (by simp)
  unfold ltE at s1 s2
  have e1 : x = (0, 1) := by rcases hB3 x (by simp) with h | h | h <;> rcases hB3 y (by simp) with h' | h' | h' <;> rcases hB3 z (by simp) with h'' | h'' | h'' <;> subst h <;> subst h' <;> subst h'' <;> first | rfl | (exfalso; simp at s1 s2)
  have e2 : y = (0, 2) := by subst e1; rcases hB3 y (by simp) with h' | h' | h' <;> rcases hB3 z (by simp) with h'' | h'' | h'' <;> subst h' <;> subst h'' <;> first | rfl | (exfalso; simp at s1 s2)
  have e3 : z = (1, 2) := by subst e1; subst e2; rcases hB3 z (by simp) with h'' | h'' | h'' <;> subst h'' <;> first | rfl | (exfalso; simp at s1 s2)
  subst e1; subst e2; subst e3
  obtain rfl : n = 3 := by simp at b3; omega
  decide
 | x :: y :: z :: w :: rest, hB, hS, hB3 =>
  exfalso
  have b1 := hB x (by simp)
  have b2 := hB y (by simp)
  have b3 := hB z (by simp)
  have b4 := hB w (by simp)
  have s1 : ltE x y := hS 0 (by simp)
  have s2 : ltE y z := hS 1 (by simp)
  have s3 : ltE z w := hS 2 (by simp)
  unfold ltE at s1 s2 s3
  omega
theorem why_x (hN : 4000000 ≤ N) {g : Grf} (hb : g.bars.length ≤ 3000000) : ∃ s : ByteArray, S_WhyNotGlobal N g = some s ∧ I_WhyNotGlobal N g = some s := by
 unfold S_WhyNotGlobal I_WhyNotGlobal
 rw [l17Simple_s N hN hb, isGraphI_s N hN, hasDoubles_s N hN hb, Option.bind_some, Option.bind_some, Option.bind_some]
 unfold isSimple
 cases hg : isGraph g with
 | false => exact ⟨_, rfl, rfl⟩
 | true =>
  have hp := isGraph_parts hg
  rw [Bool.true_and, Bool.not_true, cnd_false]
  cases hd : hasDbl g.bars with
  | true => exact ⟨_, rfl, rfl⟩
  | false =>
   rw [Bool.not_false, Bool.not_true, cnd_false, cnd_false]
   obtain ⟨b1, r1, r2⟩ := rigid_x hN (g := g)
   obtain ⟨b2, k1, k2⟩ := kconn_x hN hb (g := g) (k := 3)
   obtain ⟨b3, q1, q2⟩ := redundant_x hN hb (g := g)
   by_cases h3 : g.n ≤ 3
   ·obtain ⟨m1, m2⟩ := missing_x hN hb hg
    have hsm := small_x (n := g.n.toNat) (by omega) (L := g.bars) (fun e he => by have := isGraph_bar hg he; omega) (fun i hi => by
     have h5 := hp.2.2 (i + 1) hi
     have h6 : doubleAt g.bars (i + 1) = false := by
      cases h : doubleAt g.bars (i + 1) with
      | false => rfl
      | true => rw [hasDbl_true (i + 1) hi h] at hd; cases hd
     simp only [barAt, barLeB, Bool.and_eq_true, Bool.or_eq_true, decide_eq_true_eq, Nat.add_sub_cancel, beq_iff_eq] at h5
     simp only [doubleAt, Nat.add_sub_cancel, Bool.and_eq_false_iff, decide_eq_false_iff_not, beq_eq_false_iff_ne] at h6
     have h7 : g.bars.getD i (0, 0) ≠ g.bars.getD (i + 1) (0, 0) := by
      rcases h6 with h6 | h6
      ·omega
      ·exact h6
     unfold ltE
     rcases h5.2 with h8 | h8 | ⟨h8, h9⟩
     ·omega
     ·exact .inl h8
     ·refine .inr ⟨h8, ?_⟩
      by_cases h10 : (g.bars.getD i (0, 0)).2 = (g.bars.getD (i + 1) (0, 0)).2
      ·exact absurd (Prod.ext h8 h10) h7
      ·omega)
    have hnn : ((g.n.toNat : Nat) : Int) = g.n := by omega
    rw [hnn] at hsm
    rw [cnd_dt h3, cnd_dt h3, m2, Option.bind_some, hsm, cnd_df (show ¬ g.n > 3 by omega)]
    have hr : Rg64 (g.n - 1) ∧ Rg64 (g.n * (g.n - 1)) ∧ ((2 : Int) ≠ 0 ∧ Rg64 (Int.tdiv (g.n * (g.n - 1)) 2)) := by
     obtain h | h | h : g.n = 1 ∨ g.n = 2 ∨ g.n = 3 := by omega
     all_goals rw [h]; decide
    rw [grd_pos hr.1, grd_pos hr.2.1, grd_pos hr.2.2]
    cases decide ((g.bars.length : Int) < Int.tdiv (g.n * (g.n - 1)) 2) <;> exact ⟨_, rfl, rfl⟩
   ·rw [cnd_df h3, cnd_df h3, cnd_dt (show g.n > 3 by omega), r1, r2, k1, k2, q1, q2]
    cases b1 <;> cases b2 <;> cases b3 <;> exact ⟨_, rfl, rfl⟩
theorem global_x (hN : 4000000 ≤ N) {g : Grf} (hb : g.bars.length ≤ 3000000) : ∃ b : Bool, S_IsGloballyRigid N g = some b ∧ I_IsGloballyRigid N g = some b := by
 unfold S_IsGloballyRigid I_IsGloballyRigid
 obtain ⟨s, h1, h2⟩ := why_x hN hb
 rw [h1, h2]
 exact ⟨_, rfl, rfl⟩
end Go.Proofs.YtmoamglpocjhgaaGreat
namespace Go.Proofs.YtmoamglpocjhgaaGreat
theorem ofInt_nat {a : Nat} (ha : a < 4611686018427387904) : (BitVec.ofInt 64 (a : Int)).toNat = a := by
 rw [BitVec.toNat_ofInt]
 omega
theorem andI_nat {a b : Nat} (ha : a < 4611686018427387904) (hb : b < 4611686018427387904) : andI (a : Int) (b : Int) = ((a &&& b : Nat) : Int) := by
 unfold andI
 rw [BitVec.toNat_and, ofInt_nat ha, ofInt_nat hb]
 have h : a &&& b ≤ a := Nat.and_le_left
 exact w64_id (by omega) (by omega)
theorem orI_nat {a b : Nat} (ha : a < 4611686018427387904) (hb : b < 4611686018427387904) : orI (a : Int) (b : Int) = ((a ||| b : Nat) : Int) := by
 unfold orI
 rw [BitVec.toNat_or, ofInt_nat ha, ofInt_nat hb]
 have h : a ||| b < 2 ^ 62 := Nat.or_lt_two_pow (by omega) (by omega)
 exact w64_id (by omega) (by omega)
theorem bitB_nat {m j : Nat} (hm : m < 4611686018427387904) (hj : j < 64) : bitB (m : Int) j = m.testBit j := by
 unfold bitB
 have h1 : shrI (m : Int) (j : Int) = ((m / 2 ^ j : Nat) : Int) := by
  unfold shrI
  rw [show min ((j : Int)).toNat 64 = j from by omega]
  rw [Int.fdiv_eq_ediv_of_nonneg _ (by exact Int.le_of_lt (Int.pow_pos (by omega)))]
  rw [Int.natCast_ediv]; simp
 have h2 : m / 2 ^ j ≤ m := Nat.div_le_self _ _
 rw [h1, show (1 : Int) = ((1 : Nat) : Int) from rfl, andI_nat (by omega) (by omega)]
 rw [Nat.testBit, Nat.shiftRight_eq_div_pow, Nat.and_comm]
 generalize m / 2 ^ j = q
 rw [Nat.one_and_eq_mod_two]
 rcases Nat.mod_two_eq_zero_or_one q with h | h <;> rw [h] <;> rfl
theorem setU_comp {n m : Nat} (hn : n ≤ 8) (hm : m < 2 ^ n) {j : Nat} (hj : j < n) : bitB ((2 ^ n - 1 - m : Nat) : Int) j = !bitB (m : Int) j := by
 have h8 : 2 ^ n ≤ 2 ^ 8 := Nat.pow_le_pow_right (by omega) hn
 have h88 : (2 : Nat) ^ 8 = 256 := by decide
 rw [bitB_nat (by omega) (by omega), bitB_nat (by omega) (by omega)]
 rw [show 2 ^ n - 1 - m = 2 ^ n - (m + 1) from by omega, Nat.testBit_two_pow_sub_succ hm]
 simp [hj]
theorem setU_mem {m k j : Nat} (hj : j < k) : (j : Int) ∈ setU (m : Int) k ↔ bitB (m : Int) j = true := by
 unfold setU
 constructor
 ·intro h
  obtain ⟨i, h1, h2⟩ := List.mem_map.1 h
  have : i = j := by omega
  subst this
  exact (List.mem_filter.1 h1).2
 ·intro h
  exact List.mem_map.2 ⟨j, List.mem_filter.2 ⟨List.mem_range.2 hj, h⟩, rfl⟩
theorem base_all {n m b : Nat} (hn : n ≤ 8) (hm : m < 2 ^ n) (hb : b < 2 ^ n) {A : List Int} (hA : ∀ x ∈ A, 0 ≤ x ∧ x < (n : Int)) (hbit : ∀ j, j < n → (b.testBit j = true ↔ (j : Int) ∈ A)) :
  (andI (m : Int) (b : Int) == (b : Int)) = A.all fun x => (setU (m : Int) n).contains x := by
 have h8 : 2 ^ n ≤ 2 ^ 8 := Nat.pow_le_pow_right (by omega) hn
 have h88 : (2 : Nat) ^ 8 = 256 := by decide
 rw [andI_nat (by omega) (by omega), Bool.eq_iff_iff, beq_iff_eq, List.all_eq_true]
 constructor
 ·intro h x hx
  have hx2 := hA x hx
  obtain ⟨j, rfl⟩ : ∃ j : Nat, x = (j : Int) := ⟨x.toNat, by omega⟩
  have hj : j < n := by omega
  rw [List.contains_iff_mem, setU_mem hj, bitB_nat (by omega) (by omega)]
  have h1 : (m &&& b) = b := by omega
  have h2 := (hbit j hj).2 hx
  rw [← h1, Nat.testBit_and, Bool.and_eq_true] at h2
  exact h2.1
 ·intro h
  have h1 : (m &&& b) = b := by
   apply Nat.eq_of_testBit_eq
   intro j
   rw [Nat.testBit_and]
   cases hbj : b.testBit j with
   | false => simp
   | true =>
    by_cases hj : j < n
    ·have h3 := h (j : Int) ((hbit j hj).1 hbj)
     rw [List.contains_iff_mem, setU_mem hj, bitB_nat (by omega) (by omega)] at h3
     rw [h3]; rfl
    ·have : b.testBit j = false := Nat.testBit_lt_two_pow (Nat.lt_of_lt_of_le hb (Nat.pow_le_pow_right (by omega) (by omega)))
     rw [this] at hbj; cases hbj
  rw [h1]
end Go.Proofs.YtmoamglpocjhgaaGreat
namespace Go.Proofs.YtmoamglpocjhgaaGreat
variable (N : Nat)
def onGrid (p : Int × Int) : Bool := inB p.1 0 4 && inB p.2 0 4
end Go.Proofs.YtmoamglpocjhgaaGreat
namespace Go.Proofs.YtmoamglpocjhgaaGreat
variable (N : Nat)
end Go.Proofs.YtmoamglpocjhgaaGreat
namespace Go.Proofs.YtmoamglpocjhgaaGreat
open Go.RowKit Go.Deep
section
variable {C : Cx} {ops : Array Oper} {Q : Exit → PS → Prop} {s : PS} {fuel : Nat} {listed : Array Bool}
end
section
variable {C : Cx} {tm : List (Nat × D)} {rw' : List (Nat × Option (TypeId × Sq))} {bx : List (Nat × Option (List D))} {s' : PS}
end
end Go.Proofs.YtmoamglpocjhgaaGreat
namespace Go.Proofs.YtmoamglpocjhgaaGreat
open Go.RowKit Go.Deep
end Go.Proofs.YtmoamglpocjhgaaGreat
namespace Go.Proofs.YtmoamglpocjhgaaGreat
variable {N : Nat}
section
variable {l : Lnk} {F : List Int}
end
end Go.Proofs.YtmoamglpocjhgaaGreat
namespace Go.Proofs.YtmoamglpocjhgaaGreat
open Go.RowKit
end Go.Proofs.YtmoamglpocjhgaaGreat
namespace Go.Proofs.YtmoamglpocjhgaaGreat
variable {N : Nat}
def stepB (p q : Int × Int) : Bool := onGrid p && (onGrid q && (inB (p.1 - q.1) (-1) 1 && inB (p.2 - q.2) (-1) 1))
def insR : List Int → Int → Bool → List Int
 | [], x, p => cnd (!p) [x] []
 | e :: l, x, p => cnd (decide (e > x)) (cnd (!(p || (e == x))) (x :: e :: insR l x true) (e :: insR l x (p || (e == x)))) (e :: insR l x (p || (e == x)))
theorem insR_true : ∀ (l : List Int) (x : Int), insR l x true = l
 | [], x => rfl
 | e :: l, x => by
  rw [insR, Bool.true_or, Bool.not_true, cnd_false, insR_true, cnd_same]
theorem insR_perm : ∀ {l : List Int} {x : Int}, x ∉ l → (insR l x false).Perm (x :: l)
 | [], x, _ => List.Perm.refl _
 | e :: l, x, h => by
  have hne : (e == x) = false := by rw [beq_eq_false_iff_ne]; exact fun h' => h (by simp [h'])
  have hx : x ∉ l := fun h' => h (by simp [h'])
  rw [insR, hne, Bool.or_false, Bool.not_false, cnd_true]
  by_cases he : e > x
  ·rw [cnd_dt he, insR_true]
  ·rw [cnd_df he]
   exact ((insR_perm hx).cons e).trans (List.Perm.swap x e l)
theorem insR_srt : ∀ {l : List Int} {x : Int}, x ∉ l → l.Pairwise (· ≤ ·) → (insR l x false).Pairwise (· ≤ ·)
 | [], x, _, _ => List.pairwise_singleton _ _
 | e :: l, x, h, hs => by
  have hne : (e == x) = false := by rw [beq_eq_false_iff_ne]; exact fun h' => h (by simp [h'])
  have hx : x ∉ l := fun h' => h (by simp [h'])
  have hs2 := List.pairwise_cons.1 hs
  rw [insR, hne, Bool.or_false, Bool.not_false, cnd_true]
  by_cases he : e > x
  ·rw [cnd_dt he, insR_true]
   refine List.pairwise_cons.2 ⟨fun y hy => ?_, hs⟩
   rcases List.mem_cons.1 hy with rfl | hy
   ·omega
   ·have := hs2.1 y hy; omega
  ·rw [cnd_df he]
   refine List.pairwise_cons.2 ⟨fun y hy => ?_, insR_srt hx hs2.2⟩
   rcases List.mem_cons.1 ((insR_perm hx).mem_iff.1 hy) with rfl | hy
   ·omega
   ·exact hs2.1 y hy
theorem l5With_s (hN : 4000000 ≤ N) {l : List Int} (hl : l.length ≤ 1000) (x : Int) : S_l5With N l x = some (insR l x false) := by
 have key : ∀ (fuel i : Nat) (out : List Int) (p : Bool), i ≤ l.length → l.length < fuel + i → out.length ≤ i + 1 → (p = false → out.length ≤ i) → S_l5With_l1 N l x (fun (x_1 : (List Int) × Bool) =>
   match x_1 with
   | (l12, placed13) =>
    cnd (!placed13) (
     grd (l12.length + 1 ≤ 4294967296) <|
     some (l12 ++ ([x] : List Int))) (
     some l12)) fuel (out, p, (i : Int)) = some (out ++ insR (l.drop i) x p) := by
  intro fuel
  induction fuel with
  | zero => intro i out p h1 h2; omega
  | succ fuel ih =>
   intro i out p h1 h2 h3 h4
   rw [S_l5With_l1]
   by_cases hi : i < l.length
   ·have e : ((i : Int)).toNat = i := by omega
    have hd : l.drop i = l.getD i 0 :: l.drop (i + 1) := by
     rw [List.drop_eq_getElem_cons hi, List.getD_eq_getElem?_getD, List.getElem?_eq_getElem hi]; rfl
    rw [cnd_dt (by omega), grd_pos (by omega), jn_def, e, hd, insR]
    have step : ∀ q : Bool, (q = false → out.length ≤ i) → cnd (decide (l.getD i 0 > x)) (
       cnd (!q) (
        grd (out.length + 1 ≤ 4294967296) <|
        grd ((out ++ ([x] : List Int)).length + 1 ≤ 4294967296) <|
        grd (Rg64 ((i : Int) + (1 : Int))) <|
        S_l5With_l1 N l x (fun (x_1 : (List Int) × Bool) =>
   match x_1 with
   | (l12, placed13) =>
    cnd (!placed13) (
     grd (l12.length + 1 ≤ 4294967296) <|
     some (l12 ++ ([x] : List Int))) (
     some l12)) fuel (((out ++ ([x] : List Int)) ++ ([l.getD i 0] : List Int)), true, ((i : Int) + (1 : Int)))) (
        grd (out.length + 1 ≤ 4294967296) <|
        grd (Rg64 ((i : Int) + (1 : Int))) <|
        S_l5With_l1 N l x (fun (x_1 : (List Int) × Bool) =>
   match x_1 with
   | (l12, placed13) =>
    cnd (!placed13) (
     grd (l12.length + 1 ≤ 4294967296) <|
     some (l12 ++ ([x] : List Int))) (
     some l12)) fuel ((out ++ ([l.getD i 0] : List Int)), q, ((i : Int) + (1 : Int))))) (
       grd (out.length + 1 ≤ 4294967296) <|
       grd (Rg64 ((i : Int) + (1 : Int))) <|
       S_l5With_l1 N l x (fun (x_1 : (List Int) × Bool) =>
   match x_1 with
   | (l12, placed13) =>
    cnd (!placed13) (
     grd (l12.length + 1 ≤ 4294967296) <|
     some (l12 ++ ([x] : List Int))) (
     some l12)) fuel ((out ++ ([l.getD i 0] : List Int)), q, ((i : Int) + (1 : Int)))) = some (out ++ cnd (decide (l.getD i 0 > x)) (cnd (!q) (x :: l.getD i 0 :: insR (l.drop (i + 1)) x true) (l.getD i 0 :: insR (l.drop (i + 1)) x q)) (l.getD i 0 :: insR (l.drop (i + 1)) x q)) := by
     intro q hq
     by_cases hg : l.getD i 0 > x
     ·cases q with
      | false =>
       have ho := hq rfl
       have nx := ih (i + 1) ((out ++ [x]) ++ [l.getD i 0]) true (by omega) (by omega) (by simp; omega) (fun h => by cases h)
       rw [cnd_dt hg, Bool.not_false, cnd_true, grd_pos (by omega), grd_pos (by simp; omega), grd_R (by omega) (by omega), succ_cast, nx, cnd_dt hg, cnd_true, List.append_assoc, List.append_assoc]
       rfl
      | true =>
       have nx := ih (i + 1) (out ++ [l.getD i 0]) true (by omega) (by omega) (by simp; omega) (fun h => by cases h)
       rw [cnd_dt hg, Bool.not_true, cnd_false, grd_pos (by omega), grd_R (by omega) (by omega), succ_cast, nx, cnd_dt hg, cnd_false, List.append_assoc]
       rfl
     ·have nx := ih (i + 1) (out ++ [l.getD i 0]) q (by omega) (by omega) (by simp; omega) (fun h => by have := hq h; simp; omega)
      rw [cnd_df hg, grd_pos (by omega), grd_R (by omega) (by omega), succ_cast, nx, cnd_df hg, List.append_assoc]
      rfl
    cases hb : (l.getD i 0 == x) with
    | true =>
     rw [cnd_true, Bool.or_true]
     exact step true fun h => by cases h
    | false =>
     rw [cnd_false, Bool.or_false]
     exact step p h4
   ·obtain rfl : i = l.length := by omega
    rw [cnd_df (by omega), List.drop_length, insR]
    cases p with
    | false =>
     show cnd (!false) _ _ = _
     rw [Bool.not_false, cnd_true, grd_pos (by omega), cnd_true]
    | true =>
     show cnd (!true) _ _ = _
     rw [Bool.not_true, cnd_false, cnd_false, List.append_nil]
 exact key N 0 [] false (by omega) (by omega) (by simp) (by simp)
end Go.Proofs.YtmoamglpocjhgaaGreat
