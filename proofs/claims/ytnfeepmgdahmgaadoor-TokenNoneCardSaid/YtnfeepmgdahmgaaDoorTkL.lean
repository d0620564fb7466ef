/- The variables, when a call begins: the rounds' numbers, the powers of ten. -/
import Derived.Test.YtnfeepmgdahmgaaDoorTkA
import Derived.Test.YtnfeepmgdahmgaaDoorLgB
import Derived.Test.YtnfeepmgdahmgaaDoorRows
import Derived.LaidMore
import Derived.LaidHandle
import Derived.Stop.LaidErr
set_option linter.unusedVariables false
set_option linter.unusedSimpArgs false
namespace Go.Proofs.YtnfeepmgdahmgaaDoor
open Go.RowKit Go.L
attribute [local irreducible] LL LW LO
abbrev laidL {H : Type} : List (String × DataW H) := [("math/bits.deBruijn32tab", Rows.laid_math_bits_deBruijn32tab), ("math/bits.deBruijn64tab", Rows.laid_math_bits_deBruijn64tab), ("internal/strconv.uint64pow10", Rows.laid_internal_strconv_uint64pow10), ("ingot/hash.words", Rows.laid_ingot_hash_words)]
theorem gWords : Tryd.prog.globalNamed "ingot/hash.words" = some 2 := by kernel_rfl
theorem tWords : (Tryd.prog.globals[2]?).map (·.type) = some 155 := by kernel_rfl
theorem gPow : Tryd.prog.globalNamed "internal/strconv.uint64pow10" = some 3 := by kernel_rfl
theorem tPow : (Tryd.prog.globals[3]?).map (·.type) = some 194 := by kernel_rfl
set_option maxRecDepth 100000 in
theorem door_met (os : Os) (args : Array Value) : laidMetH Tryd.prog laidL ((World.doorLaid Tryd.prog 2000 os).forCall (fun _ _ => 0) ⟨#[], args, []⟩).memory :=
  laidMetH_of_parts3 (fuel := 8) (laidMet_of_run' 8 (by kernel_rfl) (by kernel_rfl)) (by kernel_rfl) (by kernel_rfl)
set_option maxRecDepth 100000 in
theorem laid_words {H : Type} : (Rows.laid_ingot_hash_words : DataW H) = .agg (Kw.map fun (m : Nat) => .lit (.int .u32 m)) := by kernel_rfl
abbrev Pw : List Nat := (List.range 20).map fun i => 10 ^ i
set_option maxRecDepth 100000 in
theorem laid_pow {H : Type} : (Rows.laid_internal_strconv_uint64pow10 : DataW H) = .agg (Pw.map fun (m : Nat) => .lit (.int .u64 m)) := by kernel_rfl
theorem of_laid {W : World} (h : laidMetH Tryd.prog laidL W) : Rep (PH.all W) (.pointer (some ⟨2, 0, none⟩)) (.pin (Kw.map u32)) ∧ Rep (PH.all W) (.pointer (some ⟨3, 0, none⟩)) (.pin ((List.range 20).map fun i => u64 (10 ^ i))) := by
  rw [MakeChecks.laidMetH_plain _ _ _ (by kernel_rfl)] at h
  constructor
  · obtain ⟨ps, ⟨g0, t0, cs0, f0, p0, q0, hg0, ht0, hv0, hd0, _, _⟩, _, _⟩ := h.tail.tail.tail
    obtain rfl := Option.some.inj (gWords.symm.trans hg0)
    obtain rfl := Option.some.inj (tWords.symm.trans ht0)
    rw [laid_words] at hd0
    exact known_ints (laid_ints (l := Kw) Tryd.underlying155 Tryd.underlying153 (by kernel_rfl) (by kernel_rfl) hd0) (World.var?_cell hg0 hv0)
  · obtain ⟨ps, ⟨g0, t0, cs0, f0, p0, q0, hg0, ht0, hv0, hd0, _, _⟩, _, _⟩ := h.tail.tail
    obtain rfl := Option.some.inj (gPow.symm.trans hg0)
    obtain rfl := Option.some.inj (tPow.symm.trans ht0)
    rw [laid_pow] at hd0
    have := known_ints (laid_ints (l := Pw) Tryd.underlying194 Tryd.underlying152 (by kernel_rfl) (by kernel_rfl) hd0) (World.var?_cell hg0 hv0)
    rwa [List.map_map] at this
end Go.Proofs.YtnfeepmgdahmgaaDoor
