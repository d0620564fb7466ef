/- The digests that everybody knows. -/
import Derived.Test.YtnfeepmgdahmgaaDoorHsM
import Derived.Test.YtnfeepmgdahmgaaDoorLgB
set_option linter.unusedVariables false
set_option linter.unusedSimpArgs false
namespace Go.Proofs.YtnfeepmgdahmgaaDoor
open Go.RowKit Go.L
attribute [local irreducible] LL LW LO
theorem obs_lt (s : S8) (i : Nat) : ∀ x ∈ obs s i, x < 256 := fun x hx => by
  unfold obs at hx
  rcases List.mem_append.1 hx with h | h
  · obtain ⟨j, _, rfl⟩ := List.mem_map.1 h
    unfold ob
    exact Nat.mod_lt _ (by decide)
  · rw [(List.mem_replicate.1 h).2]; decide
theorem sha_lt (b : List UInt8) : ∀ x ∈ sha b, x < 256 := obs_lt _ _
/-- A digest's bytes. -/
def shaB (b : List UInt8) : List UInt8 := (sha b).map UInt8.ofNat
theorem shaB_len (b : List UInt8) : (shaB b).length = 32 := by simp [shaB]
theorem singles_bytes {l : List Nat} {n : Nat} (h : l.length = n) (hb : ∀ x ∈ l, x < 256) : singles (((l.map u8).drop 0).take n) = byteEls (l.map UInt8.ofNat) := by
  rw [List.drop_zero, List.take_of_length_le (by simp; omega)]
  simp only [singles, byteEls, List.map_map]
  refine List.map_congr_left fun x hx => ?_
  show [LV.raw (.int .u8 (x : Int))] = [LV.raw (.int .u8 ((UInt8.ofNat x).toNat : Int))]
  rw [UInt8.toNat_ofNat_of_lt' (hb x hx)]
def txt56 : List UInt8 := [97, 98, 99, 100, 98, 99, 100, 101, 99, 100, 101, 102, 100, 101, 102, 103, 101, 102, 103, 104, 102, 103, 104, 105, 103, 104, 105, 106, 104, 105, 106, 107, 105, 106, 107, 108, 106, 107, 108, 109, 107, 108, 109, 110, 108, 109, 110, 111, 109, 110, 111, 112, 110, 111, 112, 113]
def hexL (s : String) : List UInt8 := s.toUTF8.data.toList
abbrev K56 : List UInt8 := [50, 52, 56, 100, 54, 97, 54, 49, 100, 50, 48, 54, 51, 56, 98, 56, 101, 53, 99, 48, 50, 54, 57, 51, 48, 99, 51, 101, 54, 48, 51, 57, 97, 51, 51, 99, 101, 52, 53, 57, 54, 52, 102, 102, 50, 49, 54, 55, 102, 54, 101, 99, 101, 100, 100, 52, 49, 57, 100, 98, 48, 54, 99, 49]
abbrev Kabc : List UInt8 := [98, 97, 55, 56, 49, 54, 98, 102, 56, 102, 48, 49, 99, 102, 101, 97, 52, 49, 52, 49, 52, 48, 100, 101, 53, 100, 97, 101, 50, 50, 50, 51, 98, 48, 48, 51, 54, 49, 97, 51, 57, 54, 49, 55, 55, 97, 57, 99, 98, 52, 49, 48, 102, 102, 54, 49, 102, 50, 48, 48, 49, 53, 97, 100]
theorem known_56 : hexB (shaB txt56) = K56 := by decide +kernel
theorem known_abc : hexB (shaB [97, 98, 99]) = Kabc := by decide +kernel
end Go.Proofs.YtnfeepmgdahmgaaDoor
