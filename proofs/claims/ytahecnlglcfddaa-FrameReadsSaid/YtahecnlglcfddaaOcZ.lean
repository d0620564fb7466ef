/- Short words. -/
import Derived.Test.YtahecnlglcfddaaLogX
import Derived.Test.YtahecnlglcfddaaChecked
import Derived.Test.YtahecnlglcfddaaLogR
set_option linter.unusedVariables false
namespace Go.Proofs.Ytahecnlglcfddaa
open Go.RowKit Go.L
attribute [local irreducible] LL LW LO LP LA
abbrev i64 (n : Int) : LV := .raw (.int .i64 n)
abbrev bl (b : Bool) : LV := .raw (.bool b)
abbrev pt (g : Nat) : LV := .raw (.pointer (some ⟨g, 0, none⟩))
abbrev u64 (n : Nat) : LV := .raw (.int .u64 n)
theorem snoc8 (l : List UInt8) (x : UInt8) (n : Int) (h : (x.toNat : Int) = n) (k : Cap) : LV.sl 1 (byteEls l ++ [[.raw (.int .u8 n)]]) k = Bytes (l ++ [x]) k := by subst h; simp [byteEls]
theorem at_lt {α : Type} {l : List α} {i : Nat} (h : i < l.length) : ∃ x, l[i]? = some x := ⟨_, List.getElem?_eq_getElem h⟩
end Go.Proofs.Ytahecnlglcfddaa
