/- Runs of single operations: maps, appends onto empty slices. No data of ours. -/
import Derived.WalkKit
import Derived.ProofKit
import Derived.Below
import Derived.Laws.Cells
import Derived.Deep.Slices
import Derived.Maps.AppendAt
import Derived.Laws.OwnMore
import Derived.Orders
import Derived.Laws.MakeOwn
import Derived.MapKept
namespace Go.Proofs.Ytkpmijmlbpdknaa
open Go.RowKit
set_option linter.unusedSimpArgs false
set_option linter.unusedVariables false
/-- the entries of a map, in the order in which they came -/
def mapIs (es : Array MapEntry) (l : List (Int × Int)) : Prop := es.toList.map (fun e => (e.key, e.val)) = l.map fun p => (Value.int .i64 p.1, Value.int .i64 p.2)
/-- where a key stands in a map, and what lies there -/
def mfind : List (Int × Int) → Int → Option (Nat × Int)
  | [], _ => none
  | (a, b) :: l, k => if a = k then some (0, b) else (mfind l k).map fun p => (p.1 + 1, p.2)
def mget (l : List (Int × Int)) (k : Int) : Int := match mfind l k with | some p => p.2 | none => 0
def mhas (l : List (Int × Int)) (k : Int) : Bool := (mfind l k).isSome
def mset (l : List (Int × Int)) (k v : Int) : List (Int × Int) := match mfind l k with | some p => l.set p.1 (k, v) | none => l ++ [(k, v)]
theorem mapIs_cons {e : MapEntry} {es : List MapEntry} {l : List (Int × Int)} (h : (e :: es).map (fun e => (e.key, e.val)) = l.map fun p => (Value.int .i64 p.1, Value.int .i64 p.2)) : ∃ a b l', l = (a, b) :: l' ∧ e.key = .int .i64 a ∧ e.val = .int .i64 b ∧ es.map (fun e => (e.key, e.val)) = l'.map fun p => (Value.int .i64 p.1, Value.int .i64 p.2) := by
  cases l with
  | nil => simp at h
  | cons p l =>
    simp only [List.map_cons, List.cons.injEq, Prod.mk.injEq] at h
    exact ⟨p.1, p.2, l, rfl, h.1.1, h.1.2, h.2⟩
theorem mfind_run (k : Int) : ∀ (es : List MapEntry) (l : List (Int × Int)) (i : Nat), es.map (fun e => (e.key, e.val)) = l.map (fun p => (Value.int .i64 p.1, Value.int .i64 p.2)) →
    Instr.findNow (.int .i64) (.int .i64 k) es i = some ((mfind l k).map fun p => (i + p.1, .int .i64 p.2))
  | [], l, i, h => by
    cases l with
    | nil => rfl
    | cons p l => simp at h
  | e :: es, l, i, h => by
    obtain ⟨a, b, l', rfl, h1, h2, h3⟩ := mapIs_cons h
    simp only [Instr.findNow, h1, Instr.sameNow, if_true, mfind]
    by_cases hk : a = k
    · subst hk; simp [h2]
    · have : (k == a) = false := by simpa using fun e => hk e.symm
      rw [this, if_neg hk]
      simp only [mfind_run k es l' (i + 1) h3]
      cases mfind l' k with
      | none => rfl
      | some p => simp; omega

section
variable {P : Program} {w : World}
theorem run_append_empty (t ty e : TypeId) (i : TypeInfo) (ht : P.underlying t = some (.slice e)) (hi : P.info? e = some i) (ao bo : Option Addr) (n c : Nat) (hn : 0 < n) (hb : n * i.bytes ≤ 140737488355328) (hm : n ≤ 9223372036854775807) :
    (Builtin.append_ #[t, t] ty #[.slice ao 0 0, .slice bo n c]).run P w = (Builtin.append_ #[t, t] ty #[.slice none 0 0, .slice bo n c]).run P w := by
  cases ao with
  | none => rfl
  | some a =>
    have h1 : ¬ n ≤ 0 := by omega
    have h0 : n ≠ 0 := by omega
    have h4 : ¬ ((9223372036854775807 : Int) < (n : Int)) := by omega
    have e1 : Builtin.nextslicecap n 0 = n := by simp [Builtin.nextslicecap, hn]
    have h3 : ¬ 281474976710656 < n * i.bytes := by omega
    have h5 : (281474976710656 < (n : Int) * (i.bytes : Int)) = False := by
      simp only [eq_iff_iff, iff_false]
      have : (n : Int) * (i.bytes : Int) = ((n * i.bytes : Nat) : Int) := by simp
      omega
    simp [Builtin.append_, Go.run_underlying ht, sizeOf, typeInfo, hi, Builtin.lenOf, Builtin.firstCells, loadCells, loadCellsFrom, h1, h0, h3, h4, h5, e1, go_sem]

theorem run_getI {b clock : Nat} {es : Array MapEntry} (hb : w.heap[b]? = some (.map es clock)) : (getObj b).run P w = .ok (.map es clock) w := by simp [getObj, Sem.run, hb]
theorem run_setI {b clock : Nat} {es : Array MapEntry} (o : Obj) (hb : w.heap[b]? = some (.map es clock)) : (setObj b o).run P w = .ok () { w with heap := w.heap.setIfInBounds b o } := by simp [setObj, Sem.run, hb]
def lookV (ok : Bool) (l : List (Int × Int)) (k : Int) : Value := bif ok then .tuple #[.int .i64 (mget l k), .bool (mhas l k)] else .int .i64 (mget l k)
theorem run_findKeyI {kt : TypeId} (hk : P.underlying kt = some (.int .i64)) {es : Array MapEntry} {l : List (Int × Int)} (hl : mapIs es l) (k : Int) : (Instr.findKey kt (.int .i64 k) es.toList).run P w = .ok ((mfind l k).map fun p => (p.1, .int .i64 p.2)) w := by
  have := mfind_run k es.toList l 0 hl
  simp only [Nat.zero_add] at this
  simp [Instr.findKey, Go.run_underlying hk, this, go_sem]
theorem run_checkKeyI {kt : TypeId} (hk : P.underlying kt = some (.int .i64)) (e : Bool) (k : Int) : (Instr.checkKey e 10000 kt (.int .i64 k)).run P w = .ok () w :=
  by rw [show (10000 : Nat) = 9999 + 1 from rfl]; unfold Instr.checkKey; simp [Go.run_underlying hk, go_sem]
theorem run_lookupI {t kt et : TypeId} {i : TypeInfo} (hu : P.underlying t = some (.map kt et)) (hk : P.underlying kt = some (.int .i64)) (hi : P.info? et = some i) (hz : i.zero = some (.int .i64 0)) {b clock : Nat} {es : Array MapEntry} {l : List (Int × Int)}
    (hb : w.heap[b]? = some (.map es clock)) (hl : mapIs es l) (k : Int) (ok : Bool) : (Instr.lookup t (.map (some b)) (.int .i64 k) ok).run P w = .ok (lookV ok l k) w := by
  unfold Instr.lookup lookV mget mhas
  cases hm : mfind l k with
  | none => cases ok <;> simp [Go.run_underlying hu, run_getI hb, run_checkKeyI hk, run_findKeyI hk hl, hm, zeroValue, typeInfo, hi, hz, go_sem]
  | some p => cases ok <;> simp [Go.run_underlying hu, run_getI hb, run_checkKeyI hk, run_findKeyI hk hl, hm, go_sem]
theorem mfind_lt {k : Int} : ∀ {l : List (Int × Int)} {p : Nat × Int}, mfind l k = some p → p.1 < l.length
  | [], p, h => by simp [mfind] at h
  | (a, b) :: l, p, h => by
    simp only [mfind] at h
    split at h
    · cases h; simp
    · obtain ⟨q, hq, rfl⟩ := Option.map_eq_some_iff.1 h
      have := mfind_lt hq
      simp; omega
theorem mfind_key {k : Int} : ∀ {l : List (Int × Int)} {p : Nat × Int}, mfind l k = some p → l[p.1]? = some (k, p.2)
  | [], p, h => by simp [mfind] at h
  | (a, b) :: l, p, h => by
    simp only [mfind] at h
    split at h
    · rename_i he; cases h; subst he; rfl
    · obtain ⟨q, hq, rfl⟩ := Option.map_eq_some_iff.1 h
      have := mfind_key hq
      simpa using this
theorem run_mapSetI {t kt et : TypeId} (hu : P.underlying t = some (.map kt et)) (hk : P.underlying kt = some (.int .i64)) {b clock : Nat} {es : Array MapEntry} {l : List (Int × Int)}
    (hb : w.heap[b]? = some (.map es clock)) (hl : mapIs es l) (k v : Int) : ∃ es' clock', (Instr.mapUpdate t (.map (some b)) (.int .i64 k) (.int .i64 v)).run P w = .ok () { w with heap := w.heap.setIfInBounds b (.map es' clock') } ∧ mapIs es' (mset l k v) := by
  have hlen : es.size = l.length := by have := congrArg List.length hl; simpa using this
  unfold mset
  cases hm : mfind l k with
  | none =>
    refine ⟨es.push { key := .int .i64 k, val := .int .i64 v, born := clock }, clock + 1, ?_, ?_⟩
    · unfold Instr.mapUpdate
      simp [Go.run_underlying hu, run_getI hb, run_setI _ hb, run_checkKeyI hk, run_findKeyI hk hl, hm, go_sem]
    · unfold mapIs at hl ⊢
      simp [hl]
  | some p =>
    have hlt := mfind_lt hm
    have hkey := mfind_key hm
    have hp : p.1 < es.size := by omega
    have hek : es[p.1].key = .int .i64 k := by
      have h1 : (es.toList.map fun e => (e.key, e.val))[p.1]? = some (es[p.1].key, es[p.1].val) := by simp [hp]
      unfold mapIs at hl
      rw [hl] at h1
      simp [hkey] at h1
      exact h1.1.symm
    refine ⟨es.modify p.1 fun e => { e with key := .int .i64 k, val := .int .i64 v }, clock, ?_, ?_⟩
    · unfold Instr.mapUpdate
      have hst : (Instr.keyThatStays (.int .i64 k) (.int .i64 k)).run P w = .ok (.int .i64 k) w := by
        simp [Instr.keyThatStays, Instr.sameBits, go_sem]
      simp [Go.run_underlying hu, run_getI hb, run_setI _ hb, run_checkKeyI hk, run_findKeyI hk hl, hm, hp, hek, hst, go_sem]
    · unfold mapIs at hl ⊢
      apply List.ext_getElem?
      intro j
      have hj := congrArg (fun x => x[j]?) hl
      simp only [List.getElem?_map] at hj
      simp only [List.getElem?_map, Array.getElem?_toList, Array.getElem?_modify, List.getElem?_set]
      by_cases hpj : p.1 = j
      · subst hpj
        simp [hp, hlt]
      · simp only [hpj, if_false]
        simpa using hj
end
end Go.Proofs.Ytkpmijmlbpdknaa
