/- Two lists of bytes are equal just if they have the same bytes. -/
import Derived.Test.YtnfeepmgdahmgaaDoorHsM
import Derived.Test.YtnfeepmgdahmgaaDoorLgB
set_option linter.unusedVariables false
set_option linter.unusedSimpArgs false
namespace Go.Proofs.YtnfeepmgdahmgaaDoor
open Go.RowKit Go.L
attribute [local irreducible] LL LW LO
abbrev u8s (l : List UInt8) : List LV := l.map fun b => LV.raw (.int .u8 b.toNat)
theorem u8s_get {l : List UInt8} {rest : List LV} {i : Int} (h0 : 0 ≤ i) (h : i < l.length) : (u8s l ++ rest)[0 + i.toNat * 1]? = some (u8 (l.getD i.toNat 0).toNat) := by
  have hi : i.toNat < l.length := by omega
  rw [Nat.zero_add, Nat.mul_one, List.getElem?_append_left (by simpa using hi)]
  simp [List.getD, hi]
theorem u8s_put {l : List UInt8} {rest : List LV} {i : Int} {v : Nat} (hv : v < 256) (h0 : 0 ≤ i) (h : i < l.length) : putAt (u8s l ++ rest) (0 + i.toNat * 1) [u8 v] = u8s (l.set i.toNat (UInt8.ofNat v)) ++ rest := by
  have hi : i.toNat < l.length := by omega
  rw [Nat.zero_add, Nat.mul_one, putAt_one _ _ _ (by simp; omega), List.set_append_left _ _ (by simpa using hi)]
  have : (UInt8.ofNat v).toNat = v := UInt8.toNat_ofNat_of_lt' hv
  simp only [u8s, List.map_set, this]
theorem set_ne {l : List UInt8} {i : Int} (h0 : 0 ≤ i) (h : i < l.length) : l ≠ l.set i.toNat (UInt8.ofNat (xor8 (l.getD i.toNat 0).toNat 1)) := fun e => by
  have hi : i.toNat < l.length := by omega
  have h1 := congrArg (fun z => z[i.toNat]?) e
  simp only [List.getElem?_set_self hi] at h1
  rw [List.getElem?_eq_getElem hi, Option.some.injEq] at h1
  have h2 := congrArg UInt8.toNat h1
  rw [UInt8.toNat_ofNat_of_lt' (xor8_lt _ _), List.getD_eq_getElem?_getD, List.getElem?_eq_getElem hi, Option.getD_some] at h2
  have h3 := UInt8.toNat_lt l[i.toNat]
  revert h2 h3
  generalize l[i.toNat].toNat = n
  intro h2 h3
  have : ∀ n : Fin 256, n.val ≠ xor8 n.val 1 := by decide +kernel
  exact this ⟨n, h3⟩ h2
end Go.Proofs.YtnfeepmgdahmgaaDoor
