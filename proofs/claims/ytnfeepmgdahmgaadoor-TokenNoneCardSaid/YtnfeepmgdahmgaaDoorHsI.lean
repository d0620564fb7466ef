/- The chapter's example; a copy. -/
import Derived.Test.YtnfeepmgdahmgaaDoorHsH
import Derived.Test.YtnfeepmgdahmgaaDoorLgB
set_option linter.unusedVariables false
set_option linter.unusedSimpArgs false
namespace Go.Proofs.YtnfeepmgdahmgaaDoor
open Go.RowKit Go.L
attribute [local irreducible] LL LW LO
theorem sha_nil : (sha []).getD 0 0 = 227 ∧ (sha []).getD 31 0 = 85 := by decide +kernel
theorem sha_abc : (sha [97, 98, 99]).getD 0 0 = 186 ∧ (sha [97, 98, 99]).getD 31 0 = 173 := by decide +kernel
end Go.Proofs.YtnfeepmgdahmgaaDoor
