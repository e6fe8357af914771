/- What was known of linkages, said anew. -/
import Derived.Test.YtlmlfbjcpajinaaVt
import Derived.Test.YtlmlfbjcpajinaaLnk1
import Derived.Test.YtlmlfbjcpajinaaLnk2
namespace Go.Proofs.Ytlmlfbjcpajinaa
open Go.RowKit
set_option linter.unusedVariables false

theorem isLinkI_p (p : Lnk)  : PCall Try.prog 39 [lD p] [] (.bool (isLink p)) :=
  pcall_of Try.func39 rfl rfl (fun _ _ _ _ => .bool _) fun w args ha => by
    obtain ⟨v0, rfl, k0⟩ := args1 ha
    have h0 := k0.linkage
    exact isLinkI_c v0 p w h0
theorem isLinkS_p (p : Lnk)  : PCall Try.prog 37 [lD p] [] (.bool (isLink p)) :=
  pcall_of Try.func37 rfl rfl (fun _ _ _ _ => .bool _) fun w args ha => by
    obtain ⟨v0, rfl, k0⟩ := args1 ha
    have h0 := k0.linkage
    exact isLinkS_c v0 p w h0
end Go.Proofs.Ytlmlfbjcpajinaa
