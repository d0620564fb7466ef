/- OctetForm. -/
import Derived.Test.YtahecnlglcfddaaOctetE
set_option linter.unusedVariables false
set_option linter.unusedSimpArgs false
namespace Go.Proofs.Ytahecnlglcfddaa
open Go.RowKit Go.Sep

/-- What was read, put again. -/
theorem putN_dec : ∀ (f : Nat) (l : List Int) (i acc : Nat), Byts l → (dec f l i acc).2.2 = 0 → ∃ r : Nat, (dec f l i acc).1 = acc + r * 128 ^ i ∧ (0 < i → 0 < r) ∧ putN r = l.take ((dec f l i acc).2.1 - i)
  | 0, _, _, _, _, h => by simp [dec] at h
  | f + 1, [], _, _, _, h => by simp [dec] at h
  | f + 1, c :: l, i, acc, hb, h => by
    obtain ⟨hc0, hc1⟩ := hb c (by simp)
    have hb' : Byts l := fun x hx => hb x (by simp [hx])
    have hu := dec_used (f + 1) (c :: l) i acc h
    rw [dec] at h hu ⊢
    split at h
    · simp at h
    rename_i h9
    rw [if_neg h9] at hu ⊢
    split at h
    · rename_i h1
      rw [if_pos h1] at hu ⊢
      split at h
      · simp at h
      · rename_i h2
        rw [if_neg h2]
        refine ⟨c.toNat, by rw [Nat.mod_eq_of_lt h1], fun hi => by omega, ?_⟩
        rw [putN_small h1]
        simp
        omega
    · rename_i h1
      rw [if_neg h1] at hu ⊢
      obtain ⟨r, e1, e2, e3⟩ := putN_dec f l (i + 1) _ hb' h
      have hr := e2 (by omega)
      refine ⟨c.toNat % 128 + r * 128, ?_, fun _ => by omega, ?_⟩
      · rw [e1, Nat.pow_succ, Nat.add_mul, Nat.add_assoc, Nat.mul_assoc, Nat.mul_comm 128]
      · rw [putN_big (by omega), show (c.toNat % 128 + r * 128) / 128 = r by omega, e3]
        obtain ⟨q, hq⟩ : ∃ q, (dec f l (i + 1) (acc + c.toNat % 128 * 128 ^ i)).2.1 = i + 1 + q := ⟨_, (Nat.add_sub_cancel' (by have := dec_used f l (i + 1) _ h; omega)).symm⟩
        rw [hq, show i + 1 + q - i = q + 1 by omega, show i + 1 + q - (i + 1) = q by omega, List.take_succ_cons]
        congr 1
        omega
theorem putN_uintN (l : List Int) (hb : Byts l) (h : (uintN l).2.2 = 0) : putN (uintN l).1 = l.take (uintN l).2.1 ∧ 1 ≤ (uintN l).2.1 ∧ (uintN l).2.1 ≤ 10 := by
  obtain ⟨r, e1, _, e3⟩ := putN_dec 10 l 0 0 hb h
  have hu := dec_used 10 l 0 0 h
  unfold uintN
  rw [e1]
  refine ⟨?_, by omega, by omega⟩
  rw [show 0 + r * 128 ^ 0 = r by omega, e3, Nat.sub_zero]
theorem dec_fits : ∀ (f : Nat) (l : List Int) (i acc : Nat), f + i = 10 → acc < 128 ^ i → (dec f l i acc).1 < 18446744073709551616
  | 0, _, _, _, _, _ => by simp [dec]
  | f + 1, [], _, _, _, _ => by simp [dec]
  | f + 1, c :: l, i, acc, hi, ha => by
    rw [dec]
    split
    · simp
    rename_i h9
    have hz : i < 9 ∨ (i = 9 ∧ c.toNat ≤ 1) := by omega
    have hf := number_fits acc c.toNat i ha hz
    split
    · split
      · simp
      · simp only; omega
    · rename_i h1
      refine dec_fits f l (i + 1) _ (by omega) ?_
      rw [Nat.pow_succ]
      have h1 : c.toNat % 128 * 128 ^ i ≤ 127 * 128 ^ i := Nat.mul_le_mul_right _ (by omega)
      omega
theorem uintN_fits (l : List Int) : (uintN l).1 < 18446744073709551616 := dec_fits 10 l 0 0 rfl (by simp)
end Go.Proofs.Ytahecnlglcfddaa
