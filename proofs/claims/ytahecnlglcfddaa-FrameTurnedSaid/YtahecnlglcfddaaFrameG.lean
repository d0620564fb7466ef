/- A byte changed changes the sum; what a frame of which a byte was changed reads as. -/
import Derived.Test.YtahecnlglcfddaaFrameF
set_option linter.unusedVariables false
set_option linter.unusedSimpArgs false
namespace Go.Proofs.Ytahecnlglcfddaa
open Go.RowKit Go.Sep

theorem xor_inj {a b c : Nat} (h : a ^^^ c = b ^^^ c) : a = b := by
  have := congrArg (· ^^^ c) h
  simpa [Nat.xor_assoc] using this
theorem xor_inj' {a b c : Nat} (h : c ^^^ a = c ^^^ b) : a = b := by
  rw [Nat.xor_comm c a, Nat.xor_comm c b] at h
  exact xor_inj h
theorem bit_top (x : Nat) (h : x < 4294967296) : (bit x).testBit 31 = decide (x % 2 = 1) := by
  have h2 : (x / 2).testBit 31 = false := Nat.testBit_lt_two_pow (by omega)
  unfold bit
  split
  · rename_i h1
    rw [Nat.testBit_xor, h2]
    simp [h1]
    decide
  · rename_i h1
    simp [h2, h1]
theorem bit_inj {x y : Nat} (hx : x < 4294967296) (hy : y < 4294967296) (h : bit x = bit y) : x = y := by
  have ht := congrArg (fun q => q.testBit 31) h
  simp only [bit_top x hx, bit_top y hy, decide_eq_decide] at ht
  unfold bit at h
  by_cases h1 : x % 2 = 1
  · rw [if_pos h1, if_pos (ht.1 h1)] at h
    have := xor_inj h
    have := ht.1 h1
    omega
  · rw [if_neg h1, if_neg (fun h2 => h1 (ht.2 h2))] at h
    have : ¬ y % 2 = 1 := fun h2 => h1 (ht.2 h2)
    omega
theorem bitN_inj (j : Nat) {x y : Nat} (hx : x < 4294967296) (hy : y < 4294967296) (h : bitN j x = bitN j y) : x = y := by
  induction j with
  | zero => exact h
  | succ j ih => exact ih (bit_inj (bitN_lt j x hx) (bitN_lt j y hy) h)
theorem from_inj : ∀ (l : List Int) (x y : Nat), x < 4294967296 → y < 4294967296 → Byts l → crcFrom x l = crcFrom y l → x = y
  | [], _, _, _, _, _, h => h
  | c :: l, x, y, hx, hy, hb, h => by
    have hc := hb c (by simp)
    have h1 := from_inj l (crcStep x c) (crcStep y c) (step_lt x c hx hc) (step_lt y c hy hc) (fun z hz => hb z (by simp [hz])) h
    exact xor_inj (bitN_inj 8 (xlt32 hx (by omega)) (xlt32 hy (by omega)) h1)
theorem from_set : ∀ (l : List Int) (x : Nat) (k : Nat) (c : Int), x < 4294967296 → Byts l → (0 ≤ c ∧ c < 256) → (hk : k < l.length) → l[k] ≠ c → crcFrom x (l.set k c) ≠ crcFrom x l
  | [], _, _, _, _, _, _, hk, _ => by simp at hk
  | d :: l, x, 0, c, hx, hb, hc, hk, hne => by
    intro h
    have hd := hb d (by simp)
    have h1 := from_inj l (crcStep x c) (crcStep x d) (step_lt x c hx hc) (step_lt x d hx hd) (fun z hz => hb z (by simp [hz])) h
    have h2 := xor_inj' (bitN_inj 8 (xlt32 hx (by omega)) (xlt32 hx (by omega)) h1)
    simp at hne
    omega
  | d :: l, x, k + 1, c, hx, hb, hc, hk, hne => from_set l (crcStep x d) k c (step_lt x d hx (hb d (by simp))) (fun z hz => hb z (by simp [hz])) hc (by simpa using hk) (by simpa using hne)
theorem crc_set (l : List Int) (k : Nat) (c : Int) (hb : Byts l) (hc : 0 ≤ c ∧ c < 256) (hk : k < l.length) (hne : l[k] ≠ c) : crc (l.set k c) ≠ crc l := fun h =>
  from_set l 4294967295 k c (by omega) hb hc hk hne (xor_inj h)
theorem numB_four (n : Nat) (r : List Int) (h : n < 4294967296) : numB (four n ++ r) = n := by
  simp only [four, List.cons_append, List.nil_append, numB]
  omega
theorem numB_app {b x : List Int} (h : b.length = 4) : numB (b ++ x) = numB b := by
  match b, h with
  | [b0, b1, b2, b3], _ => rfl
theorem numB_set {b : List Int} (h : b.length = 4) (hb : Byts b) {k : Nat} {c : Int} (hk : k < b.length) (hc : 0 ≤ c ∧ c < 256) (hne : b[k] ≠ c) : numB (b.set k c) ≠ numB b := by
  match b, h with
  | [b0, b1, b2, b3], _ =>
    have h0 := hb b0 (by simp)
    have h1 := hb b1 (by simp)
    have h2 := hb b2 (by simp)
    have h3 := hb b3 (by simp)
    match k, hk with
    | 0, _ => simp at hne; simp only [List.set_cons_zero, numB]; omega
    | 1, _ => simp at hne; simp only [List.set_cons_zero, List.set_cons_succ, numB]; omega
    | 2, _ => simp at hne; simp only [List.set_cons_zero, List.set_cons_succ, numB]; omega
    | 3, _ => simp at hne; simp only [List.set_cons_zero, List.set_cons_succ, numB]; omega
theorem unf_bad1 (a b r : List Int) (ha : a.length = 4) (hb : b.length = 4) (h : numB b ≠ crc a) : unf (a ++ (b ++ r)) = ([], 0, 40) := by
  unfold unf
  rw [if_neg (by simp; omega), List.drop_left' ha, List.take_left' ha, numB_app hb, if_neg h]
theorem unf_bad2 (a b m e : List Int) (ha : a.length = 4) (hb : b.length = 4) (he : e.length = 4) (h1 : numB b = crc a) (h2 : numB a = m.length) (h3 : m.length ≤ 65536) (h : numB e ≠ crc m) : unf (a ++ (b ++ (m ++ e))) = ([], 0, 40) := by
  have e1 : numB (a ++ (b ++ (m ++ e))) = m.length := by rw [numB_app ha, h2]
  have e2 : (a ++ (b ++ (m ++ e))).drop 8 = m ++ e := by
    rw [← List.append_assoc]
    exact List.drop_left' (by simp [ha, hb])
  have e3 : (a ++ (b ++ (m ++ e))).drop (8 + m.length) = e := by
    rw [← List.drop_drop, e2, List.drop_left]
  unfold unf
  rw [e1, e2, e3, if_neg (by simp; omega), List.drop_left' ha, List.take_left' ha, numB_app hb, if_pos h1, if_neg (by omega), if_neg (by simp; omega), List.take_left, if_neg h]
theorem unf_turned (l : List Int) (hb : Byts l) (hl : l.length ≤ 65536) (p : Nat) (c : Int) (hc : 0 ≤ c ∧ c < 256) (hp : p < (frame l).length) (hne : (frame l)[p] ≠ c) : unf ((frame l).set p c) = ([], 0, 40) := by
  have hN : (l.length : Int) < 4294967296 := by omega
  have ha := four_b l.length (by omega)
  have hC := crc_lt _ ha
  have hD := crc_lt _ hb
  have hbb := four_b _ hC
  have hee := four_b _ hD
  have eN : numB (four (l.length : Nat)) = l.length := by have := numB_four l.length [] (by omega); simpa using this
  have eC : numB (four (crc (four (l.length : Nat)) : Nat)) = crc (four (l.length : Nat)) := by have := numB_four _ [] hC; simpa using this
  have eD : numB (four (crc l : Nat)) = crc l := by have := numB_four _ [] hD; simpa using this
  have ef : frame l = four (l.length : Nat) ++ (four (crc (four (l.length : Nat)) : Nat) ++ (l ++ four (crc l : Nat))) := by simp [frame]
  have la : (four (l.length : Nat)).length = 4 := rfl
  have lb : (four (crc (four (l.length : Nat)) : Nat)).length = 4 := rfl
  have le : (four (crc l : Nat)).length = 4 := rfl
  simp only [ef] at hp hne ⊢
  generalize four (l.length : Nat) = a at *
  generalize four (crc a : Nat) = b at *
  generalize four (crc l : Nat) = e at *
  simp only [List.length_append, la, lb, le] at hp
  by_cases p1 : p < 4
  · rw [List.set_append_left _ _ (by omega)]
    rw [List.getElem_append_left (by omega)] at hne
    exact unf_bad1 _ _ _ (by simp [la]) lb (fun h => crc_set a p c ha hc (by omega) hne (by rw [← h, eC]))
  rw [List.set_append_right _ _ (by omega), la]
  rw [List.getElem_append_right (by omega)] at hne
  simp only [la] at hne
  by_cases p2 : p < 8
  · rw [List.set_append_left _ _ (by omega)]
    rw [List.getElem_append_left (by omega)] at hne
    exact unf_bad1 _ _ _ la (by simp [lb]) (fun h => numB_set lb hbb (by omega) hc hne (by rw [h, eC]))
  rw [List.set_append_right _ _ (by omega), lb]
  rw [List.getElem_append_right (by omega)] at hne
  simp only [lb] at hne
  by_cases p3 : p < 8 + l.length
  · rw [List.set_append_left _ _ (by omega)]
    rw [List.getElem_append_left (by omega)] at hne
    exact unf_bad2 _ _ _ _ la lb le eC (by simp [eN]) (by simp; omega) (fun h => crc_set l _ c hb hc (by omega) hne (by rw [← h, eD]))
  · rw [List.set_append_right _ _ (by omega)]
    rw [List.getElem_append_right (by omega)] at hne
    exact unf_bad2 _ _ _ _ la lb (by simp [le]) eC eN hl (fun h => numB_set le hee (by omega) hc hne (by rw [h, eD]))
end Go.Proofs.Ytahecnlglcfddaa
