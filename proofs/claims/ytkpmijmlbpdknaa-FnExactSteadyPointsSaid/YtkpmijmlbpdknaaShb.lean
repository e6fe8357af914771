/- What all printed texts stand on. -/
import Derived.Test.YtkpmijmlbpdknaaVt
import Derived.Test.YtkpmijmlbpdknaaWr
import Derived.Laws.StructEq
namespace Go.Proofs.Ytkpmijmlbpdknaa
open Go.RowKit
set_option linter.unusedSimpArgs false
theorem infoBr : (Try.prog.info? 71).map (fun i => (i.zero, i.size, i.bytes)) = some (some (.agg #[.int .i64 0, .int .i64 0]), 2, 16) := by kernel_rfl
theorem eqP_impl_Bar : EqP Try.prog 71 := by
  refine ⟨fun x y u v w => ?_, fun x y u v w => ?_, by kernel_rfl⟩
  all_goals
    cases hx : x == u
    all_goals
      cases hy : y == v
      all_goals simp [go_sem, hx, hy]
theorem bld {t : TypeId} {places : List (Nat × Nat)} {zs : List Value} (h1 : (Try.prog.info? t).map (·.zero) = some (some (.agg zs.toArray)))
    (h2 : (match Try.prog.underlying t with | some (.struct fs) => fs.toList.mapM (fun f => (Try.prog.info? f.type).map fun i => (f.offset, i.size)) | _ => none) = some places) : BuildOK Try.prog t places zs := by
  obtain ⟨it, hit, hz⟩ := Option.map_eq_some_iff.1 h1
  split at h2
  · rename_i fs hu; exact ⟨it, fs, hit, hu, hz, h2⟩
  · cases h2
theorem bld_impl_Graph : BuildOK Try.prog 32 [(0, 1), (1, 1)] [.int .i64 0, .slice none 0 0] := bld (by kernel_rfl) (by kernel_rfl)
theorem bld_impl_Pinned : BuildOK Try.prog 34 [(0, 2), (2, 1)] [.int .i64 0, .slice none 0 0, .slice none 0 0] := bld (by kernel_rfl) (by kernel_rfl)
theorem bld_impl_Bar : BuildOK Try.prog 71 [(0, 1), (1, 1)] [.int .i64 0, .int .i64 0] := bld (by kernel_rfl) (by kernel_rfl)
theorem bld_impl_Pebbles : BuildOK Try.prog 105 [(0, 1), (1, 1), (2, 1)] [.slice none 0 0, .slice none 0 0, .slice none 0 0] := bld (by kernel_rfl) (by kernel_rfl)
theorem bld_impl_Raise : BuildOK Try.prog 85 [(0, 1), (1, 1)] [.int .i64 0, .slice none 0 0] := bld (by kernel_rfl) (by kernel_rfl)
end Go.Proofs.Ytkpmijmlbpdknaa
