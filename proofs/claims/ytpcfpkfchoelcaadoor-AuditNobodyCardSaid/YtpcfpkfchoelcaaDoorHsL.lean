/- The variable of the rounds' numbers, when a call begins. -/
import Derived.Test.YtpcfpkfchoelcaaDoorHsC
import Derived.Test.YtpcfpkfchoelcaaDoorLogN
import Derived.Test.YtpcfpkfchoelcaaDoorRows
import Derived.LaidMore
import Derived.LaidHandle
set_option linter.unusedVariables false
set_option linter.unusedSimpArgs false
namespace Go.Proofs.YtpcfpkfchoelcaaDoor
open Go.RowKit Go.L
attribute [local irreducible] LL LW LO
abbrev laidL {H : Type} : List (String × DataW H) := [("ingot/hash.words", Rows.laid_ingot_hash_words)]
theorem gWords : Tryd.prog.globalNamed "ingot/hash.words" = some 0 := by kernel_rfl
theorem tWords : (Tryd.prog.globals[0]?).map (·.type) = some 70 := by kernel_rfl
set_option maxRecDepth 100000 in
theorem door_met (os : Os) (args : Array Value) : laidMetH Tryd.prog laidL ((World.doorLaid Tryd.prog 2000 os).forCall (fun _ _ => 0) ⟨#[], args, []⟩).memory :=
  laidMetH_of_parts3 (fuel := 8) (laidMet_of_run' 8 (by kernel_rfl) (by kernel_rfl)) (by kernel_rfl) (by kernel_rfl)
set_option maxRecDepth 100000 in
theorem laid_words {H : Type} : (Rows.laid_ingot_hash_words : DataW H) = .agg (Kw.map fun (m : Nat) => .lit (.int .u32 m)) := by kernel_rfl
theorem of_laid {W : World} (h : laidMetH Tryd.prog laidL W) : Rep (PH.all W) (.pointer (some ⟨0, 0, none⟩)) (.pin (Kw.map u32)) := by
  rw [MakeChecks.laidMetH_plain _ _ _ (by kernel_rfl)] at h
  obtain ⟨ps, ⟨g0, t0, cs0, f0, p0, q0, hg0, ht0, hv0, hd0, _, _⟩, _, _⟩ := h
  obtain rfl := Option.some.inj (gWords.symm.trans hg0)
  obtain rfl := Option.some.inj (tWords.symm.trans ht0)
  rw [laid_words] at hd0
  exact known_ints (laid_ints (l := Kw) Tryd.underlying70 Tryd.underlying68 (by kernel_rfl) (by kernel_rfl) hd0) (World.var?_cell hg0 hv0)
end Go.Proofs.YtpcfpkfchoelcaaDoor
