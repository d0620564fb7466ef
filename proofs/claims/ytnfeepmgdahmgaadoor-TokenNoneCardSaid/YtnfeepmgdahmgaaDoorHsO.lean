/- A text to the base 16, read. -/
import Derived.Test.YtnfeepmgdahmgaaDoorHsN
set_option linter.unusedVariables false
set_option linter.unusedSimpArgs false
namespace Go.Proofs.YtnfeepmgdahmgaaDoor
open Go.RowKit Go.L
attribute [local irreducible] LL LW LO
def hv (n : Nat) : Nat := if 48 ≤ n ∧ n ≤ 57 then n - 48 else if 97 ≤ n ∧ n ≤ 102 then n - 87 else 16
theorem hv_le (n : Nat) : hv n ≤ 16 := by unfold hv; split <;> (try split) <;> omega
theorem hv_hx : ∀ i : Fin 16, hv (hxL.getD i.val 0).toNat = i.val := by decide +kernel
theorem hx_hv : ∀ n : Fin 256, hv n.val < 16 → (hxL.getD (hv n.val) 0).toNat = n.val := by decide +kernel
def dgI (n : Nat) : Int := if hv n = 16 then -1 else hv n
/-- The pair of digits at a place. -/
def pv (s : List UInt8) (j : Nat) : Nat := 16 * hv (s.getD (2 * j) 0).toNat + hv (s.getD (2 * j + 1) 0).toNat
def pok (s : List UInt8) (j : Nat) : Bool := decide (hv (s.getD (2 * j) 0).toNat < 16) && decide (hv (s.getD (2 * j + 1) 0).toNat < 16)
def outs (s : List UInt8) (n : Nat) : List UInt8 := (List.range n).map fun j => UInt8.ofNat (pv s j)
def unR (s : List UInt8) : Option (List UInt8) := if s.length % 2 = 1 then none else if (List.range (s.length / 2)).all (pok s) then some (outs s (s.length / 2)) else none
def unL (s : List UInt8) : List UInt8 := (unR s).getD []
def unE (s : List UInt8) : Int := if (unR s).isSome then 0 else 20
theorem outs_len (s : List UInt8) (n : Nat) : (outs s n).length = n := by simp [outs]
theorem outs_succ (s : List UInt8) (n : Nat) : outs s n ++ [UInt8.ofNat (pv s n)] = outs s (n + 1) := by simp [outs, List.range_succ]
theorem unR_bad {s : List UInt8} {j : Nat} (hj : j < s.length / 2) (h : pok s j = false) : unR s = none := by
  unfold unR
  split
  · rfl
  · rw [if_neg]
    intro h2
    have := List.all_eq_true.1 h2 j (by simpa using hj)
    rw [h] at this
    cases this
theorem unR_odd {s : List UInt8} (h : s.length % 2 = 1) : unR s = none := by unfold unR; rw [if_pos h]
theorem unR_ok {s : List UInt8} (h : s.length % 2 ≠ 1) (h2 : ∀ j, j < s.length / 2 → pok s j = true) : unR s = some (outs s (s.length / 2)) := by
  unfold unR
  rw [if_neg h, if_pos (List.all_eq_true.2 fun j hj => h2 j (by simpa using hj))]
theorem pair_val : ∀ a b : Fin 16, (IntKind.u8.wrap (bitsOf .or .i64 (IntKind.i64.wrap ((a.val : Int) * 2 ^ (min (4 : Int).toNat IntKind.i64.bits))) (b.val : Int)) = ((16 * a.val + b.val : Nat) : Int)) := by decide +kernel
theorem pv_lt {s : List UInt8} {j : Nat} (h : pok s j = true) : pv s j < 256 := by
  unfold pok at h
  simp at h
  unfold pv
  simp only [List.getD_eq_getElem?_getD]
  omega
theorem hexB_unR {s : List UInt8} {l : List UInt8} (h : unR s = some l) : hexB l = s := by
  unfold unR at h
  split at h
  · cases h
  · rename_i h1
    split at h
    · rename_i h2
      injection h with h
      subst h
      have key : ∀ n, n ≤ s.length / 2 → hexB (outs s n) = s.take (2 * n) := fun n => by
        induction n with
        | zero => intro _; simp [outs, hexB]
        | succ n ih =>
          intro hn
          have hp := List.all_eq_true.1 h2 n (by simp; omega)
          have hlt := pv_lt hp
          rw [← outs_succ, hexB, List.flatMap_append, ← hexB, ih (by omega)]
          unfold pok at hp
          simp only [Bool.and_eq_true, decide_eq_true_eq] at hp
          have e1 := hx_hv ⟨(s.getD (2 * n) 0).toNat, UInt8.toNat_lt _⟩ hp.1
          have e2 := hx_hv ⟨(s.getD (2 * n + 1) 0).toNat, UInt8.toNat_lt _⟩ hp.2
          have hb : (UInt8.ofNat (pv s n)).toNat = pv s n := UInt8.toNat_ofNat_of_lt' hlt
          simp only [List.flatMap_cons, List.flatMap_nil, List.append_nil, hb]
          rw [show pv s n / 16 = hv (s.getD (2 * n) 0).toNat by unfold pv; omega, show pv s n % 16 = hv (s.getD (2 * n + 1) 0).toNat by unfold pv; omega, UInt8.toNat_inj.1 e1, UInt8.toNat_inj.1 e2]
          have g1 : 2 * n < s.length := by omega
          have g2 : 2 * n + 1 < s.length := by omega
          rw [show 2 * (n + 1) = 2 * n + 1 + 1 by omega, List.take_succ_eq_append_getElem g2, List.take_succ_eq_append_getElem g1]
          simp only [List.getD_eq_getElem?_getD, List.getElem?_eq_getElem g1, List.getElem?_eq_getElem g2, Option.getD_some, List.append_assoc, List.cons_append, List.nil_append]
      rw [key _ (Nat.le_refl _), List.take_of_length_le (by omega)]
    · cases h
theorem unR_hexB (b : List UInt8) : unR (hexB b) = some b := by
  have hl := hexB_len b
  have hd : ∀ j, j < b.length → (hexB b).getD (2 * j) 0 = hxL.getD ((b.getD j 0).toNat / 16) 0 ∧ (hexB b).getD (2 * j + 1) 0 = hxL.getD ((b.getD j 0).toNat % 16) 0 := fun j hj => by
    have h1 : hexB b = hexB (b.take (j + 1)) ++ hexB (b.drop (j + 1)) := by rw [hexB, hexB, hexB, ← List.flatMap_append, List.take_append_drop]
    have hl2 := hexB_len (b.take j)
    have hjl : (b.take j).length = j := by simp; omega
    rw [hexB_succ hj, List.append_assoc] at h1
    rw [h1]
    constructor
    · rw [List.getD_eq_getElem?_getD, List.getElem?_append_right (by omega), show 2 * j - (hexB (b.take j)).length = 0 by omega]; rfl
    · rw [List.getD_eq_getElem?_getD, List.getElem?_append_right (by omega), show 2 * j + 1 - (hexB (b.take j)).length = 1 by omega]; rfl
  have hv1 : ∀ j, j < b.length → hv ((hexB b).getD (2 * j) 0).toNat = (b.getD j 0).toNat / 16 ∧ hv ((hexB b).getD (2 * j + 1) 0).toNat = (b.getD j 0).toNat % 16 := fun j hj => by
    have hx := UInt8.toNat_lt (b.getD j 0)
    rw [(hd j hj).1, (hd j hj).2]
    exact ⟨hv_hx ⟨_, by omega⟩, hv_hx ⟨_, by omega⟩⟩
  rw [unR_ok (by omega) (fun j hj => by
    have hj : j < b.length := by omega
    have hx := UInt8.toNat_lt (b.getD j 0)
    unfold pok
    rw [(hv1 j hj).1, (hv1 j hj).2]
    simp only [Bool.and_eq_true, decide_eq_true_eq]
    omega)]
  congr 1
  refine List.ext_getElem? fun j => ?_
  by_cases hj : j < b.length
  · have h1 := hv1 j hj
    rw [outs, List.getElem?_map, List.getElem?_range (by omega), Option.map_some, pv, h1.1, h1.2, show 16 * ((b.getD j 0).toNat / 16) + (b.getD j 0).toNat % 16 = (b.getD j 0).toNat by omega]
    simp [List.getD, hj]
  · rw [List.getElem?_eq_none (by rw [outs_len]; omega), List.getElem?_eq_none (by omega)]
end Go.Proofs.YtnfeepmgdahmgaaDoor
