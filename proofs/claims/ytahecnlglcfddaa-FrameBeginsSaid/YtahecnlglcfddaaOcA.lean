/- Numbers and texts as bytes: what they are; a reader's calls. -/
import Derived.Test.YtahecnlglcfddaaOcP
set_option linter.unusedVariables false
set_option linter.unusedSimpArgs false
namespace Go.Proofs.Ytahecnlglcfddaa
open Go.RowKit Go.L
attribute [local irreducible] LL LW LO LP LA
/-! ### bits -/
theorem bits64 (op : BinOp) (a b : Nat) : bitsOf op .u64 a b = (((match op with | .and => BitVec.ofNat 64 a &&& BitVec.ofNat 64 b | .or => BitVec.ofNat 64 a ||| BitVec.ofNat 64 b | .xor => BitVec.ofNat 64 a ^^^ BitVec.ofNat 64 b | _ => BitVec.ofNat 64 a &&& ~~~BitVec.ofNat 64 b : BitVec 64).toNat : Nat) : Int) := by
  have e : ∀ n : Nat, (BitVec.ofInt IntKind.u64.bits (n : Int)) = BitVec.ofNat 64 n := fun n => BitVec.ofInt_natCast _ _
  have hw : ∀ n : Nat, IntKind.u64.wrap (n : Int) = ((n % 18446744073709551616 : Nat) : Int) := fun n => by
    show (n : Int) % 18446744073709551616 = _
    omega
  unfold bitsOf
  simp only [e]
  rw [hw]
  congr 1
  apply Nat.mod_eq_of_lt
  exact BitVec.isLt _
theorem or64 {a b i : Nat} (ha : a < 2 ^ i) (hb : b * 2 ^ i + a < 18446744073709551616) : bitsOf .or .u64 (a : Int) ((b * 2 ^ i : Nat) : Int) = ((a + b * 2 ^ i : Nat) : Int) := by
  rw [bits64]
  show (((BitVec.ofNat 64 a ||| BitVec.ofNat 64 (b * 2 ^ i)).toNat : Nat) : Int) = _
  have h2 := Nat.two_pow_add_eq_or_of_lt ha b
  rw [BitVec.toNat_or, BitVec.toNat_ofNat, BitVec.toNat_ofNat, Nat.mod_eq_of_lt (by omega), Nat.mod_eq_of_lt (by omega), Nat.or_comm, Nat.mul_comm b, ← h2]
  congr 1
  omega
theorem and8_127 (a : Nat) : and8 a 127 = a % 128 := by
  unfold and8
  rw [show (127 : Nat) = 2 ^ 7 - 1 by rfl, Nat.and_two_pow_sub_one_eq_mod]
  omega
theorem and8_128 {a : Nat} (h : a < 256) : (and8 a 128 = 0 ↔ a < 128) := by
  revert h
  revert a
  decide +kernel
/-- What is read: the number, how many bytes it has, the error. -/
def uN (l : List UInt8) : Nat → Nat → Nat → Nat × Nat × Nat
  | 0, _, _ => (0, 0, 11)
  | f + 1, i, n =>
    if l.length ≤ i then (0, 0, 10)
    else if i = 9 ∧ 1 < (l.getD i 0).toNat then (0, 0, 11)
    else if (l.getD i 0).toNat < 128 then (if (l.getD i 0).toNat = 0 ∧ 0 < i then (0, 0, 11) else (n + (l.getD i 0).toNat % 128 * 2 ^ (7 * i), i + 1, 0))
    else uN l f (i + 1) (n + (l.getD i 0).toNat % 128 * 2 ^ (7 * i))
def decU (l : List UInt8) : Nat × Nat × Nat := uN l 10 0 0
theorem uN_ok (l : List UInt8) : ∀ f i n, i + f = 10 → n < 2 ^ (7 * i) → ((uN l f i n).2.2 = 0 → (uN l f i n).1 < 18446744073709551616 ∧ 1 ≤ (uN l f i n).2.1 ∧ (uN l f i n).2.1 ≤ l.length ∧ (uN l f i n).2.1 ≤ 10) ∧ ((uN l f i n).2.2 ≠ 0 → (uN l f i n).1 = 0 ∧ (uN l f i n).2.1 = 0 ∧ (uN l f i n).2.2 ≤ 12)
  | 0, i, n, _, _ => by simp [uN]
  | f + 1, i, n, hf, hn => by
    have h128 : (l.getD i 0).toNat % 128 < 128 := Nat.mod_lt _ (by decide)
    have hstep : n + (l.getD i 0).toNat % 128 * 2 ^ (7 * i) < 2 ^ (7 * (i + 1)) := by
      have e : 2 ^ (7 * (i + 1)) = 128 * 2 ^ (7 * i) := by rw [show 7 * (i + 1) = 7 * i + 7 by omega, Nat.pow_add, Nat.mul_comm]
      have : (l.getD i 0).toNat % 128 * 2 ^ (7 * i) + 2 ^ (7 * i) ≤ 128 * 2 ^ (7 * i) := by
        rw [← Nat.succ_mul]; exact Nat.mul_le_mul_right _ h128
      omega
    unfold uN
    split
    · simp
    · split
      · simp
      · rename_i hl h9
        split
        · split
          · simp
          · refine ⟨fun _ => ⟨?_, by simp, by simp; omega, by simp; omega⟩, fun h => by simp at h⟩
            show n + (l.getD i 0).toNat % 128 * 2 ^ (7 * i) < _
            by_cases hi : i = 9
            · subst hi
              have : (l.getD 9 0).toNat ≤ 1 := by omega
              have h1 : (l.getD 9 0).toNat % 128 * 2 ^ (7 * 9) ≤ 1 * 2 ^ (7 * 9) := Nat.mul_le_mul_right _ (by omega)
              have : (2 : Nat) ^ (7 * 9) = 9223372036854775808 := by decide
              omega
            · have : (2 : Nat) ^ (7 * (i + 1)) ≤ 2 ^ 63 := Nat.pow_le_pow_right (by decide) (by omega)
              have : (2 : Nat) ^ 63 = 9223372036854775808 := by decide
              omega
        · exact uN_ok l f (i + 1) _ (by omega) hstep
theorem decU_ok (l : List UInt8) : ((decU l).2.2 = 0 → (decU l).1 < 18446744073709551616 ∧ 1 ≤ (decU l).2.1 ∧ (decU l).2.1 ≤ l.length ∧ (decU l).2.1 ≤ 10) ∧ ((decU l).2.2 ≠ 0 → (decU l).1 = 0 ∧ (decU l).2.1 = 0 ∧ (decU l).2.2 ≤ 12) := uN_ok l 10 0 0 rfl (by decide)
theorem decU_le (l : List UInt8) : (decU l).2.1 ≤ l.length ∧ (decU l).2.1 ≤ 10 := by
  have := decU_ok l
  by_cases h : (decU l).2.2 = 0
  · have := this.1 h; omega
  · have := this.2 h; omega
abbrev tup3 (x : Nat × Nat × Nat) : LV := .tup [u64 x.1, i64 x.2.1, i64 x.2.2]
/-! ### the rounds -/
theorem uN_short {l : List UInt8} {i n : Nat} (hi : i < 10) (h : l.length ≤ i) : uN l (10 - i) i n = (0, 0, 10) := by
  obtain ⟨f, hf⟩ : ∃ f, 10 - i = f + 1 := ⟨9 - i, by omega⟩
  rw [hf]; unfold uN; rw [if_pos h]
theorem uN_nine {l : List UInt8} {i n : Nat} (hi : i < 10) (h : ¬ l.length ≤ i) (h9 : i = 9 ∧ 1 < (l.getD i 0).toNat) : uN l (10 - i) i n = (0, 0, 11) := by
  obtain ⟨f, hf⟩ : ∃ f, 10 - i = f + 1 := ⟨9 - i, by omega⟩
  rw [hf]; unfold uN; rw [if_neg h, if_pos h9]
theorem uN_zero {l : List UInt8} {i n : Nat} (hi : i < 10) (h : ¬ l.length ≤ i) (h9 : ¬ (i = 9 ∧ 1 < (l.getD i 0).toNat)) (h1 : (l.getD i 0).toNat < 128) (h2 : (l.getD i 0).toNat = 0 ∧ 0 < i) : uN l (10 - i) i n = (0, 0, 11) := by
  obtain ⟨f, hf⟩ : ∃ f, 10 - i = f + 1 := ⟨9 - i, by omega⟩
  rw [hf]; unfold uN; rw [if_neg h, if_neg h9, if_pos h1, if_pos h2]
theorem uN_last {l : List UInt8} {i n : Nat} (hi : i < 10) (h : ¬ l.length ≤ i) (h9 : ¬ (i = 9 ∧ 1 < (l.getD i 0).toNat)) (h1 : (l.getD i 0).toNat < 128) (h2 : ¬ ((l.getD i 0).toNat = 0 ∧ 0 < i)) : uN l (10 - i) i n = (n + (l.getD i 0).toNat % 128 * 2 ^ (7 * i), i + 1, 0) := by
  obtain ⟨f, hf⟩ : ∃ f, 10 - i = f + 1 := ⟨9 - i, by omega⟩
  rw [hf]; unfold uN; rw [if_neg h, if_neg h9, if_pos h1, if_neg h2]
theorem uN_next {l : List UInt8} {i n : Nat} (hi : i < 10) (h : ¬ l.length ≤ i) (h9 : ¬ (i = 9 ∧ 1 < (l.getD i 0).toNat)) (h1 : ¬ (l.getD i 0).toNat < 128) : uN l (10 - i) i n = uN l (10 - (i + 1)) (i + 1) (n + (l.getD i 0).toNat % 128 * 2 ^ (7 * i)) := by
  obtain ⟨f, hf⟩ : ∃ f, 10 - i = f + 1 := ⟨9 - i, by omega⟩
  rw [hf]; unfold uN; rw [if_neg h, if_neg h9, if_neg h1, show 10 - (i + 1) = f by omega]
  cases f <;> rfl
theorem uN_bound {l : List UInt8} {i n : Nat} (hi : i < 10) (hn : n < 2 ^ (7 * i)) (h9 : ¬ (i = 9 ∧ 1 < (l.getD i 0).toNat)) : n + (l.getD i 0).toNat % 128 * 2 ^ (7 * i) < 18446744073709551616 ∧ n + (l.getD i 0).toNat % 128 * 2 ^ (7 * i) < 2 ^ (7 * (i + 1)) ∧ (l.getD i 0).toNat % 128 * 2 ^ (7 * i) < 18446744073709551616 := by
  have h128 : (l.getD i 0).toNat % 128 < 128 := Nat.mod_lt _ (by decide)
  have hstep : n + (l.getD i 0).toNat % 128 * 2 ^ (7 * i) < 2 ^ (7 * (i + 1)) := by
    have e : 2 ^ (7 * (i + 1)) = 128 * 2 ^ (7 * i) := by rw [show 7 * (i + 1) = 7 * i + 7 by omega, Nat.pow_add, Nat.mul_comm]
    have : (l.getD i 0).toNat % 128 * 2 ^ (7 * i) + 2 ^ (7 * i) ≤ 128 * 2 ^ (7 * i) := by
      rw [← Nat.succ_mul]; exact Nat.mul_le_mul_right _ h128
    omega
  have hb : n + (l.getD i 0).toNat % 128 * 2 ^ (7 * i) < 18446744073709551616 := by
    by_cases hi9 : i = 9
    · subst hi9
      have : (l.getD 9 0).toNat ≤ 1 := by omega
      have h1 : (l.getD 9 0).toNat % 128 * 2 ^ (7 * 9) ≤ 1 * 2 ^ (7 * 9) := Nat.mul_le_mul_right _ (by omega)
      have : (2 : Nat) ^ (7 * 9) = 9223372036854775808 := by decide
      omega
    · have : (2 : Nat) ^ (7 * (i + 1)) ≤ 2 ^ 63 := Nat.pow_le_pow_right (by decide) (by omega)
      have : (2 : Nat) ^ 63 = 9223372036854775808 := by decide
      omega
  exact ⟨hb, hstep, by omega⟩
theorem shl_or {l : List UInt8} {i n : Nat} (hi : i < 10) (hn : n < 2 ^ (7 * i)) (h9 : ¬ (i = 9 ∧ 1 < (l.getD i 0).toNat)) :
    bitsOf .or .u64 (n : Int) (IntKind.u64.wrap ((((l.getD i 0).toNat % 128 : Nat) : Int) * 2 ^ (min (7 * (i : Int)).toNat IntKind.u64.bits))) = ((n + (l.getD i 0).toNat % 128 * 2 ^ (7 * i) : Nat) : Int) := by
  obtain ⟨h1, h2, h3⟩ := uN_bound hi hn h9
  have e : min (7 * (i : Int)).toNat IntKind.u64.bits = 7 * i := by
    show min (7 * (i : Int)).toNat 64 = 7 * i
    omega
  rw [e]
  have e2 : (((l.getD i 0).toNat % 128 : Nat) : Int) * 2 ^ (7 * i) = (((l.getD i 0).toNat % 128 * 2 ^ (7 * i) : Nat) : Int) := by simp
  rw [e2, wrap_u64 (by omega) (by omega)]
  exact or64 hn (by omega)
/-! ### the reader -/
abbrev rd (g : Nat) (b : List UInt8) (at_ : Nat) : Atom := .cells g 73 [bl true, Bytes b .unk, i64 at_]
set_option maxRecDepth 100000 in
theorem rnone_calls (g : Nat) (b : List UInt8) (p : Nat) : LCalls Try.prog 39 [pt g] [rd g b p] (fun r H' => r = bl false ∧ H' = [rd g b p]) := by
  refine LCalls.of Try.func39 rfl Try.ntmps39 Try.results39 rfl (fun Rf => ?_)
  refine LW.seq ?_
  refine LW.region ?_
  refine X.u (LU.assignR Is.rfl') rfl ?_
  refine LL.nil (after_code ?_)
  refine LW.seq ?_
  refine LW.region ?_
  refine X.u (LU.moveR Is.rfl') rfl ?_
  refine X.u (LU.nilEqS Try.underlying42 Is.rfl' Is.rfl') rfl ?_
  refine X.u (LU.moveR Is.rfl') rfl ?_
  refine X.doF rfl rfl (LU.moveR (by exact Is.rfl')) rfl ?_
  refine X.doF rfl rfl (LU.nilCheck (by exact Is.rfl')) rfl ?_
  refine X.doF rfl rfl (LU.fieldO Try.underlying73 rfl Try.sizeOf71 (by decide) (by exact Is.rfl')) rfl ?_
  refine X.doF rfl rfl (LU.fieldO Try.underlying71 rfl Try.sizeOf4 (by decide) (by exact Is.rfl')) rfl ?_
  refine X.doF rfl rfl (LU.loadO 0 rfl ⟨Try.sizeOf4, Try.isAgg4⟩ (by exact Is.rfl') (Part.one rfl)) rfl ?_
  refine X.doF rfl rfl (LU.not (by exact Is.rfl')) rfl ?_
  refine X.u (LU.pickF Is.rfl' (by exact Is.rfl')) rfl ?_
  refine X.u (LU.assignR Is.rfl') rfl ?_
  refine LL.nil (after_code ?_)
  refine LW.ret (after_end ?_)
  refine X.ret (H' := [rd g b p]) (Res.one (by exact IsR rfl)) (by exact HSub.refl _) ?_
  exact ⟨rfl, rfl⟩
set_option maxRecDepth 100000 in
theorem pleft_calls (g : Nat) (b : List UInt8) (p : Nat) (hp : p ≤ b.length) (hb : b.length < 1099511627776) : LCalls Try.prog 41 [pt g] [rd g b p] (fun r H' => r = i64 ((b.length - p : Nat) : Int) ∧ H' = [rd g b p]) := by
  have hc : ((b.length : Int) - (p : Int)) = ((b.length - p : Nat) : Int) := by omega
  refine LCalls.of Try.func41 rfl Try.ntmps41 Try.results41 rfl (fun Rf => ?_)
  refine LW.seq ?_
  refine LW.region ?_
  refine X.u (LU.assignR Is.rfl') rfl ?_
  refine LL.nil (after_code ?_)
  refine LW.seq ?_
  refine X.drawM 11 rfl (by kernel_rfl) rfl ?_
  refine QD.u (LU.moveR Is.rfl') rfl ?_
  refine QD.u (LU.nilCheck Is.rfl') rfl ?_
  refine QD.u (LU.fieldO Try.underlying71 rfl Try.sizeOf22 (by decide) Is.rfl') rfl ?_
  refine QD.u (LU.loadO 0 rfl ⟨Try.sizeOf22, Try.isAgg22⟩ Is.rfl' (Part.one rfl)) rfl ?_
  refine QD.u (LU.lenN Try.underlying22 Is.rfl' (by (simp only [Option.getD_some, Option.getD_none, byteEls_length, intEls_length, List.length_append, List.length_cons, List.length_nil, List.length_map, List.length_drop, List.length_take, Int.toNat_natCast]; rfl))) rfl ?_
  refine QD.u (LU.moveR Is.rfl') rfl ?_
  refine QD.u (LU.nilCheck Is.rfl') rfl ?_
  refine QD.u (LU.fieldO Try.underlying71 rfl Try.sizeOf3 (by decide) Is.rfl') rfl ?_
  refine QD.u (LU.loadO 0 rfl ⟨Try.sizeOf3, Try.isAgg3⟩ Is.rfl' (Part.one rfl)) rfl ?_
  refine QD.u (LU.subN Is.rfl' Is.rfl' (wrap_i64 (by omega) (by omega))) rfl ?_
  refine QD.u (LU.assignR Is.rfl') rfl ?_
  refine QD.nil ?_
  refine LL.nil (after_code ?_)
  refine LW.ret (after_end ?_)
  refine X.ret (H' := [rd g b p]) (Res.one (by exact IsR rfl)) (by exact HSub.refl _) ?_
  exact ⟨by rw [hc], rfl⟩
set_option maxRecDepth 100000 in
theorem left_calls (g : Nat) (b : List UInt8) (p : Nat) (hp : p ≤ b.length) (hb : b.length < 1099511627776) : LCalls Try.prog 27 [pt g] [rd g b p] (fun r H' => r = i64 ((b.length - p : Nat) : Int) ∧ H' = [rd g b p]) := by
  refine LCalls.of Try.func27 rfl Try.ntmps27 Try.results27 rfl (fun Rf => ?_)
  refine LW.seq ?_
  refine LW.region ?_
  refine X.u (LU.assignR Is.rfl') rfl ?_
  refine LL.nil (after_code ?_)
  refine LW.seq ?_
  refine LW.seq ?_
  refine LW.region ?_
  refine X.u (LU.moveR Is.rfl') rfl ?_
  refine X.u (LU.call1 0 rfl (rnone_calls g b p) Try.func39 rfl rfl (Opds.cons Is.rfl' Opds.nil)) rfl ?_
  refine LL.nil (after_code ?_)
  refine X.condF rfl ?_ ?_
  · rfl
  refine LW.skip (after_code ?_)
  refine LW.seq ?_
  refine LW.region ?_
  refine X.u (LU.moveR Is.rfl') rfl ?_
  refine X.u (LU.nilCheck Is.rfl') rfl ?_
  refine X.u (LU.fieldO Try.underlying73 rfl Try.sizeOf71 (by decide) Is.rfl') rfl ?_
  refine X.u (LU.call1 0 rfl (pleft_calls g b p hp hb) Try.func41 rfl rfl (Opds.cons Is.rfl' Opds.nil)) rfl ?_
  refine X.u (LU.assignR Is.rfl') rfl ?_
  refine LL.nil (after_code ?_)
  refine LW.ret (after_end ?_)
  refine X.ret (H' := [rd g b p]) (Res.one (by exact IsR rfl)) (by exact HSub.refl _) ?_
  exact ⟨rfl, rfl⟩
set_option maxRecDepth 100000 in
theorem over_calls (b : List UInt8) (k : Cap) (hb : b.length < 1099511627776) : LCalls Try.prog 25 [Bytes b k] [] (fun r H' => ∃ g, r = pt g ∧ H' = [rd g b 0]) := by
  refine LCalls.of Try.func25 rfl Try.ntmps25 Try.results25 rfl (fun Rf => ?_)
  refine LW.seq ?_
  refine LW.region ?_
  refine X.u (LU.assignR Is.rfl') rfl ?_
  refine LL.nil (after_code ?_)
  refine LW.seq ?_
  refine LW.region ?_
  refine X.u (LU.lits Try.underlying22 Try.sizeOf5 Try.zeroValue5 (ones rfl) rfl (by decide) (by decide) Elems.nil (by intro e he; cases he) rfl) rfl ?_
  refine X.u (LU.moveS Is.rfl') rfl ?_
  refine X.u (LU.weak (LU.append Try.underlying22 (El.of (P := Try.prog) (z := (.int .u8 0)) (size := 1) (bytes := 1) rfl rfl rfl) Is.rfl' Is.rfl' (SrcL.slice Try.underlying22 (by decide) (by exact byteEls_size _)) (by simp only [Option.getD_some, Option.getD_none, byteEls_length, intEls_length, List.length_append, List.length_cons, List.length_nil, List.length_map, List.length_drop, List.length_take, Int.toNat_natCast]; omega) (by simp only [Option.getD_some, Option.getD_none, byteEls_length, intEls_length, List.length_append, List.length_cons, List.length_nil, List.length_map, List.length_drop, List.length_take, Int.toNat_natCast]; omega)) (asS (fs := byteEls b) rfl (by simp [byteEls]))) rfl ?_
  refine X.u (LU.build (places := #[(0, 1), (1, 1), (2, 1)]) Try.underlying71 Try.zeroValue71 (ones rfl) (by intro w; simp [Try.sizeOf22, Try.sizeOf3, Try.sizeOf4]) (Parts.cons Is.rfl' (by exact Cells.raw rfl) (Parts.cons Is.rfl' (by exact Cells.sl) (Parts.cons Is.rfl' (by exact Cells.raw rfl) Parts.nil))) rfl) rfl ?_
  refine X.u (LU.build (places := #[(0, 3)]) Try.underlying73 Try.zeroValue73 (ones rfl) (by intro w; simp [Try.sizeOf71]) (Parts.cons Is.rfl' (by exact Cells.agg) Parts.nil) rfl) rfl ?_
  refine X.act (X.box rfl Is.rfl' (by exact Cells.agg) (fun b8 => ?_))
  refine X.u (LU.assignR Is.rfl') rfl ?_
  refine LL.nil (after_code ?_)
  refine LW.ret (after_end ?_)
  refine X.ret (H' := [rd b8 b 0]) (Res.one (by exact IsR rfl)) (by exact HSub.refl _) ?_
  exact ⟨b8, rfl, rfl⟩
set_option maxRecDepth 100000 in
theorem number_calls (g : Nat) (b : List UInt8) (p : Nat) (hp : p ≤ b.length) (hb : b.length < 1099511627776) : LCalls Try.prog 40 [pt g] [rd g b p] (fun r H' => r = tup3 (decU (b.drop p)) ∧ H' = [rd g b p]) := by
  obtain ⟨l, hl⟩ : ∃ l, l = b.drop p := ⟨_, rfl⟩
  have hll : l.length = b.length - p := by rw [hl]; simp
  rw [← hl]
  refine LCalls.of Try.func40 rfl Try.ntmps40 Try.results40 rfl (fun Rf => ?_)
  refine LW.seq ?_
  refine LW.region ?_
  refine X.u (LU.assignR Is.rfl') rfl ?_
  refine X.u (LU.assignR Is.rfl') rfl ?_
  refine X.u (LU.assignR Is.rfl') rfl ?_
  refine LL.nil (after_code ?_)
  refine LW.seq ?_
  refine LW.region ?_
  refine X.u (LU.assignR Is.rfl') rfl ?_
  refine LL.nil (after_code ?_)
  refine LW.seq ?_
  refine LW.seq ?_
  refine LW.region ?_
  refine X.u (LU.moveR Is.rfl') rfl ?_
  refine LL.nil (after_code ?_)
  refine LW.block ?_
  refine X.loopK (α := Nat × Nat) (fun ⟨i, n⟩ => [(8, i64 i), (5, u64 n)]) [0] (fun ⟨i, n⟩ => rd g b p :: Rf) (fun ⟨i, n⟩ => i ≤ 10 ∧ n < 2 ^ (7 * i) ∧ uN l (10 - i) i n = decU l) (fun ⟨i, n⟩ => 10 - i) ((0, 0)) (EnvLe.cons (by rfl) (EnvLe.cons (by rfl) (EnvLe.nil))) (by exact HSub.refl _) ?_ ?_
  · exact ⟨by omega, by decide, rfl⟩
  · rintro ⟨i, n⟩ hI
    obtain ⟨hi, hn, hu⟩ := hI
    refine LW.seq ?_
    refine LW.region ?_
    refine X.u (LU.lss Is.rfl' Is.rfl') rfl ?_
    refine LL.nil (after_code ?_)
    refine LW.seq ?_
    refine X.cond rfl (fun h3 => ?_) (fun h3 => ?_)
    · try have h3 := of_decide_eq_true h3
      refine LW.skip (after_code ?_)
      refine LW.seq ?_
      refine LW.block ?_
      refine LW.seq ?_
      refine LW.region ?_
      refine X.u (LU.moveR Is.rfl') rfl ?_
      refine X.u (LU.assignR Is.rfl') rfl ?_
      refine LL.nil (after_code ?_)
      refine LW.seq ?_
      refine LW.seq ?_
      refine X.drawM 14 rfl (by kernel_rfl) rfl ?_
      refine QD.u (LU.moveR Is.rfl') rfl ?_
      refine QD.u (LU.nilCheck Is.rfl') rfl ?_
      refine QD.u (LU.fieldO Try.underlying73 rfl Try.sizeOf71 (by decide) Is.rfl') rfl ?_
      refine QD.u (LU.fieldO Try.underlying71 rfl Try.sizeOf3 (by decide) Is.rfl') rfl ?_
      refine QD.u (LU.loadO 0 rfl ⟨Try.sizeOf3, Try.isAgg3⟩ Is.rfl' (Part.one rfl)) rfl ?_
      refine QD.u (LU.moveR Is.rfl') rfl ?_
      refine QD.u (LU.addN Is.rfl' Is.rfl' (wrap_i64 (by omega) (by omega))) rfl ?_
      refine QD.u (LU.moveR Is.rfl') rfl ?_
      refine QD.u (LU.nilCheck Is.rfl') rfl ?_
      refine QD.u (LU.fieldO Try.underlying73 rfl Try.sizeOf71 (by decide) Is.rfl') rfl ?_
      refine QD.u (LU.fieldO Try.underlying71 rfl Try.sizeOf22 (by decide) Is.rfl') rfl ?_
      refine QD.u (LU.loadO 0 rfl ⟨Try.sizeOf22, Try.isAgg22⟩ Is.rfl' (Part.one rfl)) rfl ?_
      refine QD.u (LU.lenN Try.underlying22 Is.rfl' (by (simp only [Option.getD_some, Option.getD_none, byteEls_length, intEls_length, List.length_append, List.length_cons, List.length_nil, List.length_map, List.length_drop, List.length_take, Int.toNat_natCast]; rfl))) rfl ?_
      refine QD.u (LU.geq Is.rfl' Is.rfl') rfl ?_
      refine QD.nil ?_
      refine LL.nil (after_code ?_)
      refine X.cond rfl (fun h5 => ?_) (fun h5 => ?_)
      · try have h5 := of_decide_eq_true h5
        refine LW.seq ?_
        refine LW.region ?_
        refine X.u (LU.assignR Is.rfl') rfl ?_
        refine X.u (LU.assignR Is.rfl') rfl ?_
        refine X.u (LU.assignR Is.rfl') rfl ?_
        refine LL.nil (after_code ?_)
        refine LW.ret (ret_code (ret_blk (ret_code (ret_rnd (ret_blk (ret_code (after_end ?_)))))))
        refine X.ret (H' := [rd g b p]) (Res.three (by exact IsR rfl) (by exact IsR rfl) (by exact IsR rfl)) (by exact HSub.refl _) ?_
        exact ⟨by rw [← hu, uN_short (by omega) (by omega)]; rfl, rfl⟩
      · try have h5 := of_decide_eq_false h5
        have hil : i < l.length := by omega
        have hbd : b.getD (p + i) 0 = l.getD i 0 := by rw [hl]; simp [List.getD_eq_getElem?_getD, List.getElem?_drop]
        have hc256 : (l.getD i 0).toNat < 256 := (l.getD i 0).toNat_lt
        refine LW.skip (after_code ?_)
        refine LW.seq ?_
        refine X.drawM 15 rfl (by kernel_rfl) rfl ?_
        refine QD.u (LU.moveR Is.rfl') rfl ?_
        refine QD.u (LU.nilCheck Is.rfl') rfl ?_
        refine QD.u (LU.fieldO Try.underlying73 rfl Try.sizeOf71 (by decide) Is.rfl') rfl ?_
        refine QD.u (LU.fieldO Try.underlying71 rfl Try.sizeOf22 (by decide) Is.rfl') rfl ?_
        refine QD.u (LU.loadO 0 rfl ⟨Try.sizeOf22, Try.isAgg22⟩ Is.rfl' (Part.one rfl)) rfl ?_
        refine QD.u (LU.moveR Is.rfl') rfl ?_
        refine QD.u (LU.nilCheck Is.rfl') rfl ?_
        refine QD.u (LU.fieldO Try.underlying73 rfl Try.sizeOf71 (by decide) Is.rfl') rfl ?_
        refine QD.u (LU.fieldO Try.underlying71 rfl Try.sizeOf3 (by decide) Is.rfl') rfl ?_
        refine QD.u (LU.loadO 0 rfl ⟨Try.sizeOf3, Try.isAgg3⟩ Is.rfl' (Part.one rfl)) rfl ?_
        refine QD.u (LU.moveR Is.rfl') rfl ?_
        refine QD.u (LU.addN Is.rfl' Is.rfl' (wrap_i64 (by omega) (by omega))) rfl ?_
        refine QD.u (LU.at Try.underlying22 ⟨Try.sizeOf5, Try.isAgg5⟩ Is.rfl' Is.rfl' (by omega) (byteEls_D (p + i) (by omega) (by omega)) (by simp)) rfl ?_
        refine QD.u (LU.weak (LU.load ⟨Try.sizeOf5, Try.isAgg5⟩ Is.rfl' (by (simp; done)) (Part.one rfl)) (Is.of (y := u8 (l.getD i 0).toNat) (by rw [hbd]))) rfl ?_
        refine QD.u (LU.assignR Is.rfl') rfl ?_
        refine QD.nil ?_
        refine LL.nil (after_code ?_)
        refine LW.seq ?_
        refine LW.seq ?_
        refine LW.region ?_
        refine X.u (LU.moveR Is.rfl') rfl ?_
        refine X.u (LU.eql Is.rfl' Is.rfl') rfl ?_
        refine X.u (LU.moveR Is.rfl') rfl ?_
        refine X.gT rfl rfl (fun hg => LU.moveR (by exact Is.rfl')) rfl ?_
        refine X.gT rfl rfl (fun hg => LU.gtr (by exact Is.whenE hg) (by exact Is.rfl')) rfl ?_
        refine X.u (LU.pickAnd Is.rfl' (fun hq => (by exact Is.whenE hq)) Is.rfl') rfl ?_
        refine LL.nil (after_code ?_)
        refine X.cond rfl (fun h8 => ?_) (fun h8 => ?_)
        · try have h8 := of_decide_eq_true h8
          refine LW.seq ?_
          refine LW.region ?_
          refine X.u (LU.assignR Is.rfl') rfl ?_
          refine X.u (LU.assignR Is.rfl') rfl ?_
          refine X.u (LU.assignR Is.rfl') rfl ?_
          refine LL.nil (after_code ?_)
          refine LW.ret (ret_code (ret_blk (ret_code (ret_rnd (ret_blk (ret_code (after_end ?_)))))))
          refine X.ret (H' := [rd g b p]) (Res.three (by exact IsR rfl) (by exact IsR rfl) (by exact IsR rfl)) (by exact HSub.refl _) ?_
          exact ⟨by rw [← hu, uN_nine (by omega) (by omega) (by simp only [Bool.and_eq_true, decide_eq_true_eq, Bool.and_eq_false_imp, decide_eq_false_iff_not] at h8; omega)]; rfl, rfl⟩
        · have h9 : ¬ (i = 9 ∧ 1 < (l.getD i 0).toNat) := by simp only [Bool.and_eq_true, decide_eq_true_eq, Bool.and_eq_false_imp, decide_eq_false_iff_not] at h8; omega
          refine LW.skip (after_code ?_)
          refine LW.seq ?_
          refine LW.region ?_
          refine X.u (LU.moveR Is.rfl') rfl ?_
          refine X.u (LU.moveR Is.rfl') rfl ?_
          refine X.u (LU.weak (LU.and8 Is.rfl' Is.rfl') (Is.of (y := u8 ((l.getD i 0).toNat % 128)) (congrArg u8 (and8_127 _)))) rfl ?_
          refine X.u (LU.convN Try.underlying5 Try.underlying23 Is.rfl' (wrap_u64 (by omega) (by omega))) rfl ?_
          refine X.u (LU.moveR Is.rfl') rfl ?_
          refine X.u (LU.mulN Is.rfl' Is.rfl' (wrap_i64 (by omega) (by omega))) rfl ?_
          refine X.u (LU.convN Try.underlying3 Try.underlying38 Is.rfl' (wrap_u64 (by omega) (by omega))) rfl ?_
          refine X.u (LU.shl Is.rfl' Is.rfl' (by omega)) rfl ?_
          refine X.u (LU.weak (LU.or Is.rfl' Is.rfl') (Is.of (y := u64 (n + (l.getD i 0).toNat % 128 * 2 ^ (7 * i))) (congrArg (fun z => LV.raw (.int .u64 z)) (shl_or (by omega) hn h9)))) rfl ?_
          refine X.u (LU.assignR Is.rfl') rfl ?_
          refine LL.nil (after_code ?_)
          refine LW.seq ?_
          refine LW.region ?_
          refine X.u (LU.moveR Is.rfl') rfl ?_
          refine X.u (LU.and8 Is.rfl' Is.rfl') rfl ?_
          refine X.u (LU.eql Is.rfl' Is.rfl') rfl ?_
          refine LL.nil (after_code ?_)
          refine X.cond rfl (fun h11 => ?_) (fun h11 => ?_)
          · have h1 : (l.getD i 0).toNat < 128 := (and8_128 hc256).1 (Int.ofNat.inj (show Int.ofNat (and8 (l.getD i 0).toNat 128) = Int.ofNat 0 from of_decide_eq_true h11))
            refine LW.seq ?_
            refine LW.seq ?_
            refine LW.region ?_
            refine X.u (LU.moveR Is.rfl') rfl ?_
            refine X.u (LU.eql Is.rfl' Is.rfl') rfl ?_
            refine X.u (LU.moveR Is.rfl') rfl ?_
            refine X.gT rfl rfl (fun hg => LU.moveR (by exact Is.rfl')) rfl ?_
            refine X.gT rfl rfl (fun hg => LU.gtr (by exact Is.whenE hg) (by exact Is.rfl')) rfl ?_
            refine X.u (LU.pickAnd Is.rfl' (fun hq => (by exact Is.whenE hq)) Is.rfl') rfl ?_
            refine LL.nil (after_code ?_)
            refine X.cond rfl (fun h12 => ?_) (fun h12 => ?_)
            · try have h12 := of_decide_eq_true h12
              refine LW.seq ?_
              refine LW.region ?_
              refine X.u (LU.assignR Is.rfl') rfl ?_
              refine X.u (LU.assignR Is.rfl') rfl ?_
              refine X.u (LU.assignR Is.rfl') rfl ?_
              refine LL.nil (after_code ?_)
              refine LW.ret (ret_code (ret_blk (ret_code (ret_rnd (ret_blk (ret_code (after_end ?_)))))))
              refine X.ret (H' := [rd g b p]) (Res.three (by exact IsR rfl) (by exact IsR rfl) (by exact IsR rfl)) (by exact HSub.refl _) ?_
              exact ⟨by rw [← hu, uN_zero (by omega) (by omega) h9 h1 (by simp only [Bool.and_eq_true, decide_eq_true_eq, Bool.and_eq_false_imp, decide_eq_false_iff_not] at h12; omega)]; rfl, rfl⟩
            · try have h12 := of_decide_eq_false h12
              refine LW.skip (after_code ?_)
              refine LW.seq ?_
              refine LW.region ?_
              refine X.u (LU.moveR Is.rfl') rfl ?_
              refine X.u (LU.moveR Is.rfl') rfl ?_
              refine X.u (LU.addN Is.rfl' Is.rfl' (wrap_i64 (by omega) (by omega))) rfl ?_
              refine X.u (LU.assignR Is.rfl') rfl ?_
              refine X.u (LU.assignR Is.rfl') rfl ?_
              refine X.u (LU.assignR Is.rfl') rfl ?_
              refine LL.nil (after_code ?_)
              refine LW.ret (ret_blk (ret_code (ret_rnd (ret_blk (ret_code (after_end ?_))))))
              refine X.ret (H' := [rd g b p]) (Res.three (by exact IsR rfl) (by exact IsR rfl) (by exact IsR rfl)) (by exact HSub.refl _) ?_
              exact ⟨by rw [← hu, uN_last (by omega) (by omega) h9 h1 (by simp only [Bool.and_eq_true, decide_eq_true_eq, Bool.and_eq_false_imp, decide_eq_false_iff_not] at h12; omega)]; rfl, rfl⟩
          · have h1 : ¬ (l.getD i 0).toNat < 128 := fun h => of_decide_eq_false h11 (congrArg Int.ofNat ((and8_128 hc256).2 h))
            refine LW.skip (after_blk (after_code ?_))
            refine LW.region ?_
            refine X.u (LU.addN Is.rfl' Is.rfl' (wrap_i64 (by omega) (by omega))) rfl ?_
            refine X.u (LU.moveR Is.rfl') rfl ?_
            refine LL.nil (after_rnd ?_)
            refine X.next ((i + 1, n + (l.getD i 0).toNat % 128 * 2 ^ (7 * i))) rfl (EnvLe.cons (by rfl) (EnvLe.cons (by rfl) (EnvLe.nil))) (Keeps.cons (by exact Eq.trans (b := .raw _) rfl rfl) (Keeps.nil)) (by exact HSub.refl _) ?_ ?_
            · exact ⟨by omega, (uN_bound (by omega) hn h9).2.1, by rw [← uN_next (by omega) (by omega) h9 h1]; exact hu⟩
            · (simp; omega)
    · try have h3 := of_decide_eq_false h3
      obtain rfl : i = 10 := by omega
      refine LW.exit (exit_code (exit_rnd (exit_blk (after_code ?_))))
      refine LW.seq ?_
      refine LW.region ?_
      refine X.u (LU.assignR Is.rfl') rfl ?_
      refine X.u (LU.assignR Is.rfl') rfl ?_
      refine X.u (LU.assignR Is.rfl') rfl ?_
      refine LL.nil (after_code ?_)
      refine LW.ret (after_end ?_)
      refine X.ret (H' := [rd g b p]) (Res.three (by exact IsR rfl) (by exact IsR rfl) (by exact IsR rfl)) (by exact HSub.refl _) ?_
      exact ⟨by rw [← hu]; rfl, rfl⟩
set_option maxRecDepth 100000 in
theorem uint_calls (g : Nat) (b : List UInt8) (p : Nat) (hp : p ≤ b.length) (hb : b.length < 1099511627776) : LCalls Try.prog 26 [pt g] [rd g b p] (fun r H' => r = .tup [u64 (decU (b.drop p)).1, i64 (decU (b.drop p)).2.2] ∧ H' = [rd g b (p + (decU (b.drop p)).2.1)]) := by
  have hle := decU_le (b.drop p)
  rw [List.length_drop] at hle
  refine LCalls.of Try.func26 rfl Try.ntmps26 Try.results26 rfl (fun Rf => ?_)
  refine LW.seq ?_
  refine LW.region ?_
  refine X.u (LU.assignR Is.rfl') rfl ?_
  refine X.u (LU.assignR Is.rfl') rfl ?_
  refine LL.nil (after_code ?_)
  refine LW.seq ?_
  refine LW.seq ?_
  refine LW.region ?_
  refine X.u (LU.moveR Is.rfl') rfl ?_
  refine X.u (LU.call1 0 rfl (rnone_calls g b p) Try.func39 rfl rfl (Opds.cons Is.rfl' Opds.nil)) rfl ?_
  refine LL.nil (after_code ?_)
  refine X.condF rfl ?_ ?_
  · rfl
  refine LW.skip (after_code ?_)
  refine LW.seq ?_
  refine LW.region ?_
  refine X.u (LU.moveR Is.rfl') rfl ?_
  refine X.u (LU.call1 0 rfl (number_calls g b p hp hb) Try.func40 rfl rfl (Opds.cons Is.rfl' Opds.nil)) rfl ?_
  refine X.u (LU.moveT Is.rfl') rfl ?_
  refine X.u (LU.extract Is.rfl' rfl) rfl ?_
  refine X.u (LU.extract Is.rfl' rfl) rfl ?_
  refine X.u (LU.extract Is.rfl' rfl) rfl ?_
  refine X.u (LU.assignR Is.rfl') rfl ?_
  refine X.u (LU.assignR Is.rfl') rfl ?_
  refine X.u (LU.assignR Is.rfl') rfl ?_
  refine LL.nil (after_code ?_)
  refine LW.seq ?_
  refine LW.region ?_
  refine X.u (LU.moveR Is.rfl') rfl ?_
  refine X.u (LU.nilCheck Is.rfl') rfl ?_
  refine X.u (LU.fieldO Try.underlying73 rfl Try.sizeOf71 (by decide) Is.rfl') rfl ?_
  refine X.u (LU.fieldO Try.underlying71 rfl Try.sizeOf3 (by decide) Is.rfl') rfl ?_
  refine X.u (LU.loadO 0 rfl ⟨Try.sizeOf3, Try.isAgg3⟩ Is.rfl' (Part.one rfl)) rfl ?_
  refine X.u (LU.moveR Is.rfl') rfl ?_
  refine X.u (LU.addN Is.rfl' Is.rfl' (wrap_i64 (by omega) (by omega))) rfl ?_
  refine X.u (LU.nilCheck Is.rfl') rfl ?_
  refine X.u (LU.fieldO Try.underlying73 rfl Try.sizeOf71 (by decide) Is.rfl') rfl ?_
  refine X.u (LU.fieldO Try.underlying71 rfl Try.sizeOf3 (by decide) Is.rfl') rfl ?_
  refine X.act (X.store 0 rfl Try.sizeOf3 Is.rfl' Is.rfl' (by exact Cells.raw rfl) (by (simp; done)) (by (simp; done)) ?_)
  refine LL.nil (after_code ?_)
  refine LW.seq ?_
  refine LW.region ?_
  refine X.u (LU.moveR Is.rfl') rfl ?_
  refine X.u (LU.moveR Is.rfl') rfl ?_
  refine X.u (LU.assignR Is.rfl') rfl ?_
  refine X.u (LU.assignR Is.rfl') rfl ?_
  refine LL.nil (after_code ?_)
  refine LW.ret (after_end ?_)
  refine X.ret (H' := [rd g b (p + (decU (b.drop p)).2.1)]) (Res.two (by exact IsR rfl) (by exact IsR rfl)) (by exact HSub.refl _) ?_
  exact ⟨rfl, rfl⟩
def txtU (l : List UInt8) (most : Int) : List UInt8 × Nat × Nat :=
  if (decU l).2.2 ≠ 0 then ([], 0, (decU l).2.2)
  else if max most 0 < ((decU l).1 : Int) then ([], 0, 3)
  else if l.length - (decU l).2.1 < (decU l).1 then ([], 0, 10)
  else ((l.drop (decU l).2.1).take (decU l).1, (decU l).2.1 + (decU l).1, 0)
theorem txtU_le (l : List UInt8) (most : Int) : (txtU l most).2.1 ≤ l.length := by
  have := decU_le l
  unfold txtU
  split
  · simp
  · split
    · simp
    · split
      · simp
      · show (decU l).2.1 + (decU l).1 ≤ _
        omega
set_option maxRecDepth 100000 in
theorem text_calls (g : Nat) (b : List UInt8) (p : Nat) (most : Int) (hp : p ≤ b.length) (hb : b.length < 1099511627776) (hm1 : -9223372036854775808 ≤ most) (hm2 : most < 9223372036854775808) : LCalls Try.prog 28 [pt g, i64 most] [rd g b p] (fun r H' => r = .tup [Str (txtU (b.drop p) most).1, i64 (txtU (b.drop p) most).2.2] ∧ H' = [rd g b (p + (txtU (b.drop p) most).2.1)]) := by
  obtain ⟨l, hl⟩ : ∃ l, l = b.drop p := ⟨_, rfl⟩
  have hll : l.length = b.length - p := by rw [hl]; simp
  have hle := decU_le l
  have hok := decU_ok l
  have hnum := number_calls g b p hp hb
  rw [← hl] at hnum ⊢
  obtain ⟨⟨n, k, e⟩, hd⟩ : ∃ d, d = decU l := ⟨_, rfl⟩
  have hT : txtU l most = if e ≠ 0 then ([], 0, e) else if max most 0 < (n : Int) then ([], 0, 3) else if l.length - k < n then ([], 0, 10) else ((l.drop k).take n, k + n, 0) := by unfold txtU; rw [← hd]
  rw [← hd] at hle hok hnum
  simp only at hle hok
  rw [hT]
  have hnum2 : LCalls Try.prog 40 [pt g] [rd g b p] (fun r H' => r = .tup [u64 n, i64 k, i64 e] ∧ H' = [rd g b p]) := hnum
  refine LCalls.of Try.func28 rfl Try.ntmps28 Try.results28 rfl (fun Rf => ?_)
  refine LW.seq ?_
  refine LW.region ?_
  refine X.u (LU.assignR Is.rfl') rfl ?_
  refine X.u (LU.assignR Is.rfl') rfl ?_
  refine LL.nil (after_code ?_)
  refine LW.seq ?_
  refine LW.seq ?_
  refine LW.region ?_
  refine X.u (LU.moveR Is.rfl') rfl ?_
  refine X.u (LU.call1 0 rfl (rnone_calls g b p) Try.func39 rfl rfl (Opds.cons Is.rfl' Opds.nil)) rfl ?_
  refine LL.nil (after_code ?_)
  refine X.condF rfl ?_ ?_
  · rfl
  refine LW.skip (after_code ?_)
  refine LW.seq ?_
  refine LW.region ?_
  refine X.u (LU.moveR Is.rfl') rfl ?_
  refine X.u (LU.call1 0 rfl (hnum2) Try.func40 rfl rfl (Opds.cons Is.rfl' Opds.nil)) rfl ?_
  refine X.u (LU.moveT Is.rfl') rfl ?_
  refine X.u (LU.extract Is.rfl' rfl) rfl ?_
  refine X.u (LU.extract Is.rfl' rfl) rfl ?_
  refine X.u (LU.extract Is.rfl' rfl) rfl ?_
  refine X.u (LU.assignR Is.rfl') rfl ?_
  refine X.u (LU.assignR Is.rfl') rfl ?_
  refine X.u (LU.assignR Is.rfl') rfl ?_
  refine LL.nil (after_code ?_)
  refine LW.seq ?_
  refine LW.block ?_
  refine LW.seq ?_
  refine LW.region ?_
  refine X.u (LU.moveR Is.rfl') rfl ?_
  refine X.u (LU.neq Is.rfl' Is.rfl') rfl ?_
  refine X.u (LU.assignR Is.rfl') rfl ?_
  refine LL.nil (after_code ?_)
  refine X.cond rfl (fun h4 => ?_) (fun h4 => ?_)
  · have he : e ≠ 0 := by simp at h4; omega
    refine LW.seq ?_
    refine LW.region ?_
    refine X.u (LU.moveR Is.rfl') rfl ?_
    refine X.u (LU.assignR Is.rfl') rfl ?_
    refine X.u (LU.assignR Is.rfl') rfl ?_
    refine LL.nil (after_code ?_)
    refine LW.ret (ret_blk (ret_code (after_end ?_)))
    refine X.ret (H' := [rd g b p]) (Res.two (by exact IsR rfl) (by exact IsR rfl)) (by exact HSub.refl _) ?_
    exact ⟨by rw [if_pos he]; try rfl, by rw [if_pos he]; try rfl⟩
  · have he : e = 0 := by simp at h4; omega
    obtain ⟨ho1, ho2, ho3, ho4⟩ := hok.1 he
    refine LW.seq ?_
    refine LW.region ?_
    refine X.u (LU.moveR Is.rfl') rfl ?_
    refine X.u (LU.moveR Is.rfl') rfl ?_
    refine X.u (LU.max2 Is.rfl' Is.rfl') rfl ?_
    refine X.u (LU.convN Try.underlying3 Try.underlying23 Is.rfl' (wrap_u64 (by omega) (by omega))) rfl ?_
    refine X.u (LU.gtr Is.rfl' Is.rfl') rfl ?_
    refine X.u (LU.assignR Is.rfl') rfl ?_
    refine LL.nil (after_code ?_)
    refine X.cond rfl (fun h6 => ?_) (fun h6 => ?_)
    · try have h6 := of_decide_eq_true h6
      refine LW.seq ?_
      refine LW.region ?_
      refine X.u (LU.assignR Is.rfl') rfl ?_
      refine X.u (LU.assignR Is.rfl') rfl ?_
      refine LL.nil (after_code ?_)
      refine LW.ret (ret_blk (ret_code (after_end ?_)))
      refine X.ret (H' := [rd g b p]) (Res.two (by exact IsR rfl) (by exact IsR rfl)) (by exact HSub.refl _) ?_
      exact ⟨by rw [if_neg (by omega), if_pos (by omega)]; try rfl, by rw [if_neg (by omega), if_pos (by omega)]; try rfl⟩
    · try have h6 := of_decide_eq_false h6
      refine LW.seq ?_
      refine LW.region ?_
      refine X.u (LU.moveR Is.rfl') rfl ?_
      refine X.u (LU.moveR Is.rfl') rfl ?_
      refine X.u (LU.nilCheck Is.rfl') rfl ?_
      refine X.u (LU.fieldO Try.underlying73 rfl Try.sizeOf71 (by decide) Is.rfl') rfl ?_
      refine X.u (LU.call1 0 rfl (pleft_calls g b p hp hb) Try.func41 rfl rfl (Opds.cons Is.rfl' Opds.nil)) rfl ?_
      refine X.u (LU.moveR Is.rfl') rfl ?_
      refine X.u (LU.subN Is.rfl' Is.rfl' (wrap_i64 (by omega) (by omega))) rfl ?_
      refine X.u (LU.convN Try.underlying3 Try.underlying23 Is.rfl' (wrap_u64 (by omega) (by omega))) rfl ?_
      refine X.u (LU.gtr Is.rfl' Is.rfl') rfl ?_
      refine X.u (LU.assignR Is.rfl') rfl ?_
      refine LL.nil (after_code ?_)
      refine X.cond rfl (fun h8 => ?_) (fun h8 => ?_)
      · try have h8 := of_decide_eq_true h8
        refine LW.seq ?_
        refine LW.region ?_
        refine X.u (LU.assignR Is.rfl') rfl ?_
        refine X.u (LU.assignR Is.rfl') rfl ?_
        refine LL.nil (after_code ?_)
        refine LW.ret (ret_blk (ret_code (after_end ?_)))
        refine X.ret (H' := [rd g b p]) (Res.two (by exact IsR rfl) (by exact IsR rfl)) (by exact HSub.refl _) ?_
        exact ⟨by rw [if_neg (by omega), if_neg (by omega), if_pos (by omega)]; try rfl, by rw [if_neg (by omega), if_neg (by omega), if_pos (by omega)]; try rfl⟩
      · try have h8 := of_decide_eq_false h8
        refine LW.skip (after_blk (after_code ?_))
        refine LW.seq ?_
        refine X.drawM 25 rfl (by kernel_rfl) rfl ?_
        refine QD.u (LU.moveR Is.rfl') rfl ?_
        refine QD.u (LU.nilCheck Is.rfl') rfl ?_
        refine QD.u (LU.fieldO Try.underlying73 rfl Try.sizeOf71 (by decide) Is.rfl') rfl ?_
        refine QD.u (LU.fieldO Try.underlying71 rfl Try.sizeOf22 (by decide) Is.rfl') rfl ?_
        refine QD.u (LU.loadO 0 rfl ⟨Try.sizeOf22, Try.isAgg22⟩ Is.rfl' (Part.one rfl)) rfl ?_
        refine QD.u (LU.moveR Is.rfl') rfl ?_
        refine QD.u (LU.nilCheck Is.rfl') rfl ?_
        refine QD.u (LU.fieldO Try.underlying73 rfl Try.sizeOf71 (by decide) Is.rfl') rfl ?_
        refine QD.u (LU.fieldO Try.underlying71 rfl Try.sizeOf3 (by decide) Is.rfl') rfl ?_
        refine QD.u (LU.loadO 0 rfl ⟨Try.sizeOf3, Try.isAgg3⟩ Is.rfl' (Part.one rfl)) rfl ?_
        refine QD.u (LU.moveR Is.rfl') rfl ?_
        refine QD.u (LU.addN Is.rfl' Is.rfl' (wrap_i64 (by omega) (by omega))) rfl ?_
        refine QD.u (LU.moveR Is.rfl') rfl ?_
        refine QD.u (LU.nilCheck Is.rfl') rfl ?_
        refine QD.u (LU.fieldO Try.underlying73 rfl Try.sizeOf71 (by decide) Is.rfl') rfl ?_
        refine QD.u (LU.fieldO Try.underlying71 rfl Try.sizeOf3 (by decide) Is.rfl') rfl ?_
        refine QD.u (LU.loadO 0 rfl ⟨Try.sizeOf3, Try.isAgg3⟩ Is.rfl' (Part.one rfl)) rfl ?_
        refine QD.u (LU.moveR Is.rfl') rfl ?_
        refine QD.u (LU.addN Is.rfl' Is.rfl' (wrap_i64 (by omega) (by omega))) rfl ?_
        refine QD.u (LU.moveR Is.rfl') rfl ?_
        refine QD.u (LU.convN Try.underlying23 Try.underlying3 Is.rfl' (wrap_i64 (by omega) (by omega))) rfl ?_
        refine QD.u (LU.addN Is.rfl' Is.rfl' (wrap_i64 (by omega) (by omega))) rfl ?_
        refine QD.u (LU.sliceB (i := some ((p : Int) + k)) (j := some ((p : Int) + k + n)) Try.sizeOf5 Try.underlying22 Is.rfl' ⟨_, Is.rfl'⟩ ⟨_, Is.rfl'⟩ (by simp only [Option.getD_some]; omega) (by simp only [Option.getD_some]; omega) (by simp only [Option.getD_some]; omega) (m := (l.drop k).take n) (by rw [hl, List.drop_drop]; congr 1 <;> simp only [Option.getD_some] <;> omega)) rfl ?_
        refine QD.u (LU.tostr Try.underlying22 Try.underlying5 Try.underlying9 Is.rfl') rfl ?_
        refine QD.u (LU.assignR Is.rfl') rfl ?_
        refine QD.nil ?_
        refine LL.nil (after_code ?_)
        refine LW.seq ?_
        refine LW.region ?_
        refine X.u (LU.moveR Is.rfl') rfl ?_
        refine X.u (LU.nilCheck Is.rfl') rfl ?_
        refine X.u (LU.fieldO Try.underlying73 rfl Try.sizeOf71 (by decide) Is.rfl') rfl ?_
        refine X.u (LU.fieldO Try.underlying71 rfl Try.sizeOf3 (by decide) Is.rfl') rfl ?_
        refine X.u (LU.loadO 0 rfl ⟨Try.sizeOf3, Try.isAgg3⟩ Is.rfl' (Part.one rfl)) rfl ?_
        refine X.u (LU.moveR Is.rfl') rfl ?_
        refine X.u (LU.moveR Is.rfl') rfl ?_
        refine X.u (LU.convN Try.underlying23 Try.underlying3 Is.rfl' (wrap_i64 (by omega) (by omega))) rfl ?_
        refine X.u (LU.addN Is.rfl' Is.rfl' (wrap_i64 (by omega) (by omega))) rfl ?_
        refine X.u (LU.addN Is.rfl' Is.rfl' (wrap_i64 (by omega) (by omega))) rfl ?_
        refine X.u (LU.nilCheck Is.rfl') rfl ?_
        refine X.u (LU.fieldO Try.underlying73 rfl Try.sizeOf71 (by decide) Is.rfl') rfl ?_
        refine X.u (LU.fieldO Try.underlying71 rfl Try.sizeOf3 (by decide) Is.rfl') rfl ?_
        refine X.act (X.store 0 rfl Try.sizeOf3 Is.rfl' Is.rfl' (by exact Cells.raw rfl) (by (simp; done)) (by (simp; done)) ?_)
        refine LL.nil (after_code ?_)
        refine LW.seq ?_
        refine LW.region ?_
        refine X.u (LU.moveR Is.rfl') rfl ?_
        refine X.u (LU.assignR Is.rfl') rfl ?_
        refine X.u (LU.assignR Is.rfl') rfl ?_
        refine LL.nil (after_code ?_)
        refine LW.ret (after_end ?_)
        refine X.ret (H' := [rd g b (p + (k + n))]) (Res.two (by exact IsR rfl) (by exact IsR rfl)) (by exact HSub.refl _) ?_
        exact ⟨by rw [if_neg (by omega), if_neg (by omega), if_neg (by omega)]; try rfl, by rw [if_neg (by omega), if_neg (by omega), if_neg (by omega)]⟩
set_option maxRecDepth 100000 in
theorem byte_calls (g : Nat) (b : List UInt8) (p : Nat) (hp : p ≤ b.length) (hb : b.length < 1099511627776) : LCalls Try.prog 34 [pt g] [rd g b p] (fun r H' => r = .tup [u8 (if p < b.length then (b.getD p 0).toNat else 0), i64 (if p < b.length then 0 else 10)] ∧ H' = [rd g b (if p < b.length then p + 1 else p)]) := by
  refine LCalls.of Try.func34 rfl Try.ntmps34 Try.results34 rfl (fun Rf => ?_)
  refine LW.seq ?_
  refine LW.region ?_
  refine X.u (LU.assignR Is.rfl') rfl ?_
  refine X.u (LU.assignR Is.rfl') rfl ?_
  refine LL.nil (after_code ?_)
  refine LW.seq ?_
  refine LW.block ?_
  refine LW.seq ?_
  refine LW.region ?_
  refine X.u (LU.moveR Is.rfl') rfl ?_
  refine X.u (LU.call1 0 rfl (rnone_calls g b p) Try.func39 rfl rfl (Opds.cons Is.rfl' Opds.nil)) rfl ?_
  refine X.u (LU.assignR Is.rfl') rfl ?_
  refine LL.nil (after_code ?_)
  refine X.condF rfl ?_ ?_
  · rfl
  refine LW.seq ?_
  refine LW.region ?_
  refine X.u (LU.moveR Is.rfl') rfl ?_
  refine X.u (LU.nilCheck Is.rfl') rfl ?_
  refine X.u (LU.fieldO Try.underlying73 rfl Try.sizeOf71 (by decide) Is.rfl') rfl ?_
  refine X.u (LU.call1 0 rfl (pleft_calls g b p hp hb) Try.func41 rfl rfl (Opds.cons Is.rfl' Opds.nil)) rfl ?_
  refine X.u (LU.eql Is.rfl' Is.rfl') rfl ?_
  refine X.u (LU.assignR Is.rfl') rfl ?_
  refine LL.nil (after_code ?_)
  refine X.cond rfl (fun h3 => ?_) (fun h3 => ?_)
  · try have h3 := of_decide_eq_true h3
    refine LW.seq ?_
    refine LW.region ?_
    refine X.u (LU.assignR Is.rfl') rfl ?_
    refine X.u (LU.assignR Is.rfl') rfl ?_
    refine LL.nil (after_code ?_)
    refine LW.ret (ret_blk (ret_code (after_end ?_)))
    refine X.ret (H' := [rd g b p]) (Res.two (by exact IsR rfl) (by exact IsR rfl)) (by exact HSub.refl _) ?_
    exact ⟨by rw [if_neg (by omega), if_neg (by omega)]; try rfl, by rw [if_neg (by omega)]⟩
  · try have h3 := of_decide_eq_false h3
    refine LW.skip (after_blk (after_code ?_))
    refine LW.seq ?_
    refine LW.region ?_
    refine X.u (LU.moveR Is.rfl') rfl ?_
    refine X.u (LU.nilCheck Is.rfl') rfl ?_
    refine X.u (LU.fieldO Try.underlying73 rfl Try.sizeOf71 (by decide) Is.rfl') rfl ?_
    refine X.u (LU.fieldO Try.underlying71 rfl Try.sizeOf3 (by decide) Is.rfl') rfl ?_
    refine X.u (LU.loadO 0 rfl ⟨Try.sizeOf3, Try.isAgg3⟩ Is.rfl' (Part.one rfl)) rfl ?_
    refine X.u (LU.addN Is.rfl' Is.rfl' (wrap_i64 (by omega) (by omega))) rfl ?_
    refine X.u (LU.nilCheck Is.rfl') rfl ?_
    refine X.u (LU.fieldO Try.underlying73 rfl Try.sizeOf71 (by decide) Is.rfl') rfl ?_
    refine X.u (LU.fieldO Try.underlying71 rfl Try.sizeOf3 (by decide) Is.rfl') rfl ?_
    refine X.act (X.store 0 rfl Try.sizeOf3 Is.rfl' Is.rfl' (by exact Cells.raw rfl) (by (simp; done)) (by (simp; done)) ?_)
    refine LL.nil (after_code ?_)
    refine LW.seq ?_
    refine X.drawM 15 rfl (by kernel_rfl) rfl ?_
    refine QD.u (LU.moveR Is.rfl') rfl ?_
    refine QD.u (LU.nilCheck Is.rfl') rfl ?_
    refine QD.u (LU.fieldO Try.underlying73 rfl Try.sizeOf71 (by decide) Is.rfl') rfl ?_
    refine QD.u (LU.fieldO Try.underlying71 rfl Try.sizeOf22 (by decide) Is.rfl') rfl ?_
    refine QD.u (LU.loadO 0 rfl ⟨Try.sizeOf22, Try.isAgg22⟩ Is.rfl' (Part.one rfl)) rfl ?_
    refine QD.u (LU.moveR Is.rfl') rfl ?_
    refine QD.u (LU.nilCheck Is.rfl') rfl ?_
    refine QD.u (LU.fieldO Try.underlying73 rfl Try.sizeOf71 (by decide) Is.rfl') rfl ?_
    refine QD.u (LU.fieldO Try.underlying71 rfl Try.sizeOf3 (by decide) Is.rfl') rfl ?_
    refine QD.u (LU.loadO 0 rfl ⟨Try.sizeOf3, Try.isAgg3⟩ Is.rfl' (Part.one rfl)) rfl ?_
    refine QD.u (LU.subN Is.rfl' Is.rfl' (wrap_i64 (by omega) (by omega))) rfl ?_
    refine QD.u (LU.at Try.underlying22 ⟨Try.sizeOf5, Try.isAgg5⟩ Is.rfl' Is.rfl' (by omega) (byteEls_D p (by omega) (by omega)) (by simp)) rfl ?_
    refine QD.u (LU.load ⟨Try.sizeOf5, Try.isAgg5⟩ Is.rfl' (by (simp; done)) (Part.one rfl)) rfl ?_
    refine QD.u (LU.assignR Is.rfl') rfl ?_
    refine QD.u (LU.assignR Is.rfl') rfl ?_
    refine QD.nil ?_
    refine LL.nil (after_code ?_)
    refine LW.ret (after_end ?_)
    refine X.ret (H' := [rd g b (p + 1)]) (Res.two (by exact IsR rfl) (by exact IsR rfl)) (by exact HSub.refl _) ?_
    exact ⟨by rw [if_pos (by omega), if_pos (by omega)]; try rfl, by rw [if_pos (by omega)]⟩
set_option maxRecDepth 100000 in
theorem end_calls (g : Nat) (b : List UInt8) (p : Nat) (hp : p ≤ b.length) (hb : b.length < 1099511627776) : LCalls Try.prog 35 [pt g] [rd g b p] (fun r H' => r = i64 (if p < b.length then 12 else 0) ∧ H' = [rd g b p]) := by
  refine LCalls.of Try.func35 rfl Try.ntmps35 Try.results35 rfl (fun Rf => ?_)
  refine LW.seq ?_
  refine LW.region ?_
  refine X.u (LU.assignR Is.rfl') rfl ?_
  refine LL.nil (after_code ?_)
  refine LW.seq ?_
  refine LW.block ?_
  refine LW.seq ?_
  refine LW.region ?_
  refine X.u (LU.moveR Is.rfl') rfl ?_
  refine X.u (LU.call1 0 rfl (rnone_calls g b p) Try.func39 rfl rfl (Opds.cons Is.rfl' Opds.nil)) rfl ?_
  refine X.u (LU.assignR Is.rfl') rfl ?_
  refine LL.nil (after_code ?_)
  refine X.condF rfl ?_ ?_
  · rfl
  refine LW.seq ?_
  refine LW.region ?_
  refine X.u (LU.moveR Is.rfl') rfl ?_
  refine X.u (LU.nilCheck Is.rfl') rfl ?_
  refine X.u (LU.fieldO Try.underlying73 rfl Try.sizeOf71 (by decide) Is.rfl') rfl ?_
  refine X.u (LU.call1 0 rfl (pleft_calls g b p hp hb) Try.func41 rfl rfl (Opds.cons Is.rfl' Opds.nil)) rfl ?_
  refine X.u (LU.gtr Is.rfl' Is.rfl') rfl ?_
  refine X.u (LU.assignR Is.rfl') rfl ?_
  refine LL.nil (after_code ?_)
  refine X.cond rfl (fun h3 => ?_) (fun h3 => ?_)
  · try have h3 := of_decide_eq_true h3
    refine LW.seq ?_
    refine LW.region ?_
    refine X.u (LU.assignR Is.rfl') rfl ?_
    refine LL.nil (after_code ?_)
    refine LW.ret (ret_blk (ret_code (after_end ?_)))
    refine X.ret (H' := [rd g b p]) (Res.one (by exact IsR rfl)) (by exact HSub.refl _) ?_
    exact ⟨by rw [if_pos (by omega)], rfl⟩
  · try have h3 := of_decide_eq_false h3
    refine LW.skip (after_blk (after_code ?_))
    refine LW.seq ?_
    refine LW.region ?_
    refine X.u (LU.assignR Is.rfl') rfl ?_
    refine LL.nil (after_code ?_)
    refine LW.ret (after_end ?_)
    refine X.ret (H' := [rd g b p]) (Res.one (by exact IsR rfl)) (by exact HSub.refl _) ?_
    exact ⟨by rw [if_neg (by omega)], rfl⟩
end Go.Proofs.Ytahecnlglcfddaa
