/- Isostatic. -/
import Derived.Test.YtkpmijmlbpdknaaPt
import Derived.Test.YtkpmijmlbpdknaaG38
namespace Go.Proofs.Ytkpmijmlbpdknaa
set_option linter.unusedVariables false
set_option linter.unusedSimpArgs false
variable {N : Nat}
theorem pinnedRigid_x (hN : 4000000 ≤ N) {p : Pin} (hb : p.g.bars.length ≤ 3000000) (hg : p.ground.length ≤ 3000000) : ∃ b : Bool, S_IsPinnedRigid N p = some b ∧ I_IsPinnedRigid N p = some b := by
  obtain ⟨r, h1, h2⟩ := pinnedFreedom_x (N := N) hN hb hg
  exact ⟨r == 0, by unfold S_IsPinnedRigid; rw [h1]; rfl, by unfold I_IsPinnedRigid; rw [h2]; rfl⟩
theorem isostatic_x (hN : 4000000 ≤ N) {p : Pin} (hb : p.g.bars.length ≤ 3000000) (hg : p.ground.length ≤ 3000000) : ∃ b : Bool, S_IsIsostatic N p = some b ∧ I_IsIsostatic N p = some b := by
  obtain ⟨b, h1, h2⟩ := pinnedRigid_x (N := N) hN hb hg
  obtain ⟨r, g1, g2, _⟩ := pinnedRank_x (N := N) hN hb hg
  cases b with
  | false => exact ⟨false, by unfold S_IsIsostatic; rw [h1]; rfl, by unfold I_IsIsostatic; rw [h2]; rfl⟩
  | true =>
    refine ⟨r == (p.g.bars.length : Int), ?_, ?_⟩
    · unfold S_IsIsostatic
      rw [h1, Option.bind_some, cnd_true, g1, Option.bind_some]
      congr 1
      by_cases e : r = (p.g.bars.length : Int)
      · rw [e]
      · have e' : ¬ (p.g.bars.length : Int) = r := fun h => e h.symm
        rw [beq_false_of_ne e, beq_false_of_ne e']
    · unfold I_IsIsostatic
      rw [h2, Option.bind_some, cnd_true, g2, Option.bind_some]
end Go.Proofs.Ytkpmijmlbpdknaa
