/- Short words. -/
import Derived.Test.YtpcfpkfchoelcaaDoorHsG
import Derived.Test.YtpcfpkfchoelcaaDoorLogX
set_option linter.unusedVariables false
namespace Go.Proofs.YtpcfpkfchoelcaaDoor
open Go.RowKit Go.L
attribute [local irreducible] LL LW LO
theorem at_lt {α : Type} {l : List α} {i : Nat} (h : i < l.length) : ∃ x, l[i]? = some x := ⟨_, List.getElem?_eq_getElem h⟩
end Go.Proofs.YtpcfpkfchoelcaaDoor
