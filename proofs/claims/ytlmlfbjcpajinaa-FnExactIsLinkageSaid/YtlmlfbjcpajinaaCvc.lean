/- Counting and comparing structs, as data. -/
import Derived.Test.YtlmlfbjcpajinaaCvb
import Derived.Test.YtlmlfbjcpajinaaConvL
import Derived.Test.YtlmlfbjcpajinaaConvT
namespace Go.Proofs.Ytlmlfbjcpajinaa
open Go.RowKit
set_option linter.unusedVariables false

theorem szLinkage_p (p : Lnk) (left : Int) (h0 : 0 ≤ left) (h1 : left ≤ 1048576) : PCall Try.prog 36 [lD p, .int left] [] (.int (if left < (Lnk.sz p : Int) then -1 else left - Lnk.sz p)) :=
  pcall_of Try.func36 rfl rfl (fun _ _ _ _ => .int _) fun w args ha => by
    obtain ⟨v0, v1, rfl, k0, k1⟩ := args2 ha
    have h2 := k0.linkage
    obtain rfl := k1.int_inv
    refine (szLinkage_c v0 p left w h2 h0 h1).mono fun e w' h => ⟨?_, h.2⟩
    exact h.1
theorem eqLinkage_p (p : Lnk) : PCall Try.prog 40 [lD p, lD p] [] (.bool true) :=
  pcall_of Try.func40 rfl rfl (fun _ _ _ _ => .bool _) fun w args ha => by
    obtain ⟨v0, v1, rfl, k0, k1⟩ := args2 ha
    exact eqLinkage_c v0 v1 p w k0.linkage k1.linkage
end Go.Proofs.Ytlmlfbjcpajinaa
