/- Words of this session's own: whole numbers and bits as natural numbers, lists of numbers as cells. Plain theorems. -/
import Derived.Test.YtahecnlglcfddaaSep
set_option linter.unusedVariables false
set_option linter.unusedSimpArgs false
namespace Go.Sep
open Go.RowKit

/-! ### bits of unsigned numbers -/
theorem wrap_nat (k : IntKind) (hk : k.signed = false) (n : Nat) (h : n < 2 ^ k.bits) : k.wrap (n : Int) = n := by
  cases k <;> simp [IntKind.signed] at hk <;> simp [IntKind.wrap, IntKind.bits, IntKind.signed] at h ⊢ <;> omega
theorem bits_xor (k : IntKind) (hk : k.signed = false) (a b : Nat) (ha : a < 2 ^ k.bits) (hb : b < 2 ^ k.bits) : Go.bits .xor k a b = ((a ^^^ b : Nat) : Int) := by
  have e : Go.bits .xor k a b = k.wrap ((BitVec.ofInt k.bits a ^^^ BitVec.ofInt k.bits b).toNat : Int) := rfl
  rw [e, BitVec.toNat_xor, BitVec.ofInt_natCast, BitVec.ofInt_natCast, BitVec.toNat_ofNat, BitVec.toNat_ofNat, Nat.mod_eq_of_lt ha, Nat.mod_eq_of_lt hb]
  exact wrap_nat k hk _ (Nat.xor_lt_two_pow ha hb)
theorem bits_and (k : IntKind) (hk : k.signed = false) (a b : Nat) (ha : a < 2 ^ k.bits) (hb : b < 2 ^ k.bits) : Go.bits .and k a b = ((a &&& b : Nat) : Int) := by
  have e : Go.bits .and k a b = k.wrap ((BitVec.ofInt k.bits a &&& BitVec.ofInt k.bits b).toNat : Int) := rfl
  rw [e, BitVec.toNat_and, BitVec.ofInt_natCast, BitVec.ofInt_natCast, BitVec.toNat_ofNat, BitVec.toNat_ofNat, Nat.mod_eq_of_lt ha, Nat.mod_eq_of_lt hb]
  exact wrap_nat k hk _ (Nat.and_lt_two_pow _ hb)
theorem bits_or (k : IntKind) (hk : k.signed = false) (a b : Nat) (ha : a < 2 ^ k.bits) (hb : b < 2 ^ k.bits) : Go.bits .or k a b = ((a ||| b : Nat) : Int) := by
  have e : Go.bits .or k a b = k.wrap ((BitVec.ofInt k.bits a ||| BitVec.ofInt k.bits b).toNat : Int) := rfl
  rw [e, BitVec.toNat_or, BitVec.ofInt_natCast, BitVec.ofInt_natCast, BitVec.toNat_ofNat, BitVec.toNat_ofNat, Nat.mod_eq_of_lt ha, Nat.mod_eq_of_lt hb]
  exact wrap_nat k hk _ (Nat.or_lt_two_pow ha hb)
theorem xor8 (a b : Nat) (ha : a < 256) (hb : b < 256) : Go.bits .xor .u8 a b = ((a ^^^ b : Nat) : Int) := bits_xor .u8 rfl a b ha hb
theorem and8 (a b : Nat) (ha : a < 256) (hb : b < 256) : Go.bits .and .u8 a b = ((a &&& b : Nat) : Int) := bits_and .u8 rfl a b ha hb
theorem or8 (a b : Nat) (ha : a < 256) (hb : b < 256) : Go.bits .or .u8 a b = ((a ||| b : Nat) : Int) := bits_or .u8 rfl a b ha hb
theorem xor32 (a b : Nat) (ha : a < 4294967296) (hb : b < 4294967296) : Go.bits .xor .u32 a b = ((a ^^^ b : Nat) : Int) := bits_xor .u32 rfl a b ha hb
theorem and32 (a b : Nat) (ha : a < 4294967296) (hb : b < 4294967296) : Go.bits .and .u32 a b = ((a &&& b : Nat) : Int) := bits_and .u32 rfl a b ha hb
theorem or32 (a b : Nat) (ha : a < 4294967296) (hb : b < 4294967296) : Go.bits .or .u32 a b = ((a ||| b : Nat) : Int) := bits_or .u32 rfl a b ha hb
theorem or64 (a b : Nat) (ha : a < 2 ^ 64) (hb : b < 2 ^ 64) : Go.bits .or .u64 a b = ((a ||| b : Nat) : Int) := bits_or .u64 rfl a b ha hb
theorem xlt32 {a b : Nat} (ha : a < 4294967296) (hb : b < 4294967296) : a ^^^ b < 4294967296 := Nat.xor_lt_two_pow (n := 32) ha hb
theorem xlt8 {a b : Nat} (ha : a < 256) (hb : b < 256) : a ^^^ b < 256 := Nat.xor_lt_two_pow (n := 8) ha hb

/-! ### lists of numbers as cells -/
def ints (k : IntKind) (l : List Int) : List Value := l.map fun x => .int k x
theorem ints_length (k : IntKind) (l : List Int) : (ints k l).length = l.length := by simp [ints]
theorem ints_one (k : IntKind) (l : List Int) : ∀ u ∈ ints k l, u.oneCell' = true := by
  intro u hu
  simp only [ints, List.mem_map] at hu
  obtain ⟨b, _, rfl⟩ := hu
  rfl
theorem ints_append (k : IntKind) (l m : List Int) : ints k (l ++ m) = ints k l ++ ints k m := by simp [ints]
theorem ints_get (k : IntKind) (l : List Int) (i : Nat) (h : i < l.length) : (ints k l)[i]? = some (.int k l[i]) := by simp [ints, h]
theorem ints_set (k : IntKind) (l : List Int) (i : Nat) (x : Int) : ints k (l.set i x) = (ints k l).set i (.int k x) := by simp [ints, List.map_set]
theorem ints_take (k : IntKind) (l : List Int) (i : Nat) : ints k (l.take i) = (ints k l).take i := by simp [ints]
theorem ints_drop (k : IntKind) (l : List Int) (i : Nat) : ints k (l.drop i) = (ints k l).drop i := by simp [ints]
def Byts (l : List Int) : Prop := ∀ x ∈ l, 0 ≤ x ∧ x < 256
theorem Byts.nil : Byts [] := fun x hx => by simp at hx
theorem Byts.take {l : List Int} (h : Byts l) (k : Nat) : Byts (l.take k) := fun x hx => h x (List.mem_of_mem_take hx)
theorem Byts.drop {l : List Int} (h : Byts l) (k : Nat) : Byts (l.drop k) := fun x hx => h x (List.mem_of_mem_drop hx)
theorem Byts.append {l m : List Int} (h : Byts l) (k : Byts m) : Byts (l ++ m) := fun x hx => (List.mem_append.1 hx).elim (h x) (k x)
theorem Byts.get {l : List Int} (h : Byts l) (i : Nat) (hi : i < l.length) : ∃ c : Nat, l[i] = c ∧ c < 256 := by
  have := h l[i] (by simp)
  exact ⟨l[i].toNat, by omega, by omega⟩
theorem Byts.cons {c : Int} {l : List Int} (hc : 0 ≤ c ∧ c < 256) (h : Byts l) : Byts (c :: l) := fun x hx => (List.mem_cons.1 hx).elim (fun e => e ▸ hc) (h x)
/-- A string's bytes. -/
def chars (s : ByteArray) : List Int := s.data.toList.map fun b => (b.toNat : Int)
theorem chars_length (s : ByteArray) : (chars s).length = s.size := by
  rw [chars, List.length_map, Array.length_toList]; rfl
theorem chars_byts (s : ByteArray) : Byts (chars s) := by
  intro x hx
  simp only [chars, List.mem_map] at hx
  obtain ⟨b, _, rfl⟩ := hx
  have := b.toNat_lt
  omega
theorem strCells_chars (s : ByteArray) : Lib.strCells s = ints .u8 (chars s) := by simp [Lib.strCells, chars, ints]
theorem take_snoc {α : Type} (l : List α) (k : Nat) (h : k < l.length) : l.take (k + 1) = l.take k ++ [l[k]] := by
  rw [List.take_succ_eq_append_getElem h]

theorem rd_at {w : World} {k : IntKind} {A : Option Addr} {n : Nat} {l : List Int} (h : Rd w 1 A n (ints k l)) {i : Nat} (hi : i < l.length) : ∃ ad, A = some ad ∧ w.cell? (ad.add i) = some (.int k l[i]) := by
  have hn : l.length = n := by have := h.1; simp [ints] at this; exact this
  obtain ⟨ad, e, u, hu, hc⟩ := h.at_ (k := i) (by omega)
  simp [ints, hi] at hu
  exact ⟨ad, e, by rw [hc, ← hu]⟩
theorem rd_len {w : World} {k : IntKind} {A : Option Addr} {n : Nat} {l : List Int} (h : Rd w 1 A n (ints k l)) : l.length = n := by have := h.1; simp [ints] at this; exact this

/-! ### cuts of what is read -/
theorem block_of_add (a : Addr) (n : Nat) : (a.add n).block = a.block := by unfold Addr.add; split <;> rfl
theorem add_of_add (a : Addr) (i j : Nat) : (a.add i).add j = a.add (i + j) := by
  unfold Addr.add
  by_cases hi : i = 0 <;> by_cases hj : j = 0 <;> simp [hi, hj, Nat.add_assoc]
theorem add_zero (a : Addr) : a.add 0 = a := by simp [Addr.add]
theorem Rd.take {w : World} {n m : Nat} {A : Option Addr} {xs : List Value} (h : Rd w 1 A n xs) (hm : m ≤ n) : Rd w 1 A m (xs.take m) := by
  refine ⟨?_, fun hp => ?_⟩
  · have := h.1; rw [List.length_take]; omega
  · obtain ⟨ad, e, hc⟩ := h.2 (by omega)
    refine ⟨ad, e, fun j u hu => hc j u ?_⟩
    rw [List.getElem?_take] at hu
    split at hu
    · exact hu
    · cases hu
theorem Rd.drop {w : World} {n m c : Nat} {A : Option Addr} {xs : List Value} (h : Rd w 1 A n xs) (hm : m ≤ n) (hc : n ≤ c) : Rd w 1 (if c = m then A else A.map (·.add m)) (n - m) (xs.drop m) := by
  refine ⟨?_, fun hp => ?_⟩
  · have := h.1; rw [List.length_drop]; omega
  · obtain ⟨ad, e, hcell⟩ := h.2 (by omega)
    subst e
    rw [if_neg (by omega)]
    refine ⟨ad.add m, rfl, fun j u hu => ?_⟩
    rw [add_of_add]
    exact hcell _ u (by rw [← hu, List.getElem?_drop])
/-- A slice of numbers that came in, as the rows tell it: nil, or an address. -/
def IsRow (k : IntKind) (w : World) (a : Option Addr) (len cap : Nat) (zs : List Int) : Prop :=
  (a = none ∧ len = 0 ∧ cap = 0 ∧ zs = []) ∨
  ∃ x, a = some x ∧ len ≤ cap ∧ cap ≤ maxLen ∧ zs.length = cap ∧ (∀ i, i < zs.length → w.cell? (x.add i) = some (.int k (zs.getD i 0))) ∧ ∀ n ∈ zs, (Lit.int k n).wf = true
theorem IsRow.rd {k : IntKind} {w : World} {a : Option Addr} {len cap : Nat} {zs : List Int} (h : IsRow k w a len cap zs) : Rd w 1 a len (ints k (zs.take len)) ∧ len ≤ cap ∧ (zs.take len).length = len ∧ ∀ n ∈ zs.take len, (Lit.int k n).wf = true := by
  rcases h with ⟨rfl, rfl, rfl, rfl⟩ | ⟨x, rfl, hlc, hcm, hz, hc, hw⟩
  · exact ⟨Rd.nil _ _ _, Nat.le_refl _, rfl, fun n hn => by simp at hn⟩
  · refine ⟨⟨by rw [ints_length, List.length_take]; omega, fun _ => ⟨x, rfl, fun j u hu => ?_⟩⟩, hlc, by rw [List.length_take]; omega, fun n hn => hw n (List.mem_of_mem_take hn)⟩
    have hj : j < (zs.take len).length := by
      have := (List.getElem?_eq_some_iff.1 hu).1
      rwa [ints_length] at this
    rw [ints_get _ _ _ hj] at hu
    injection hu with hu
    have hjz : j < zs.length := by rw [List.length_take] at hj; omega
    rw [hc j hjz, ← hu]
    simp [List.getD_eq_getElem?_getD, List.getElem?_eq_getElem hjz]
theorem wf_u8 {n : Int} (h : (Lit.int .u8 n).wf = true) : 0 ≤ n ∧ n < 256 := by
  simp [Lit.wf, IntKind.wrap, IntKind.bits, IntKind.signed, IntKind.min, IntKind.max] at h
  omega
theorem byts_of_wf {l : List Int} (h : ∀ n ∈ l, (Lit.int .u8 n).wf = true) : Byts l := fun n hn => wf_u8 (h n hn)
end Go.Sep
