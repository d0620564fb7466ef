/- Numbers and texts put as bytes, by the program and by the document. -/
import Derived.Test.YtpcfpkfchoelcaaDoorOcZ
set_option linter.unusedVariables false
set_option linter.unusedSimpArgs false
namespace Go.Proofs.YtpcfpkfchoelcaaDoor
open Go.RowKit Go.L
attribute [local irreducible] LL LW LO
theorem or8_128 {a : Nat} (h : a < 256) : or8 a 128 = a % 128 + 128 := by
  revert h
  revert a
  decide +kernel
/-! ### numbers as bytes -/
def numB (n : Nat) : List UInt8 := if 127 < n then UInt8.ofNat (n % 128 + 128) :: numB (n / 128) else [UInt8.ofNat n]
termination_by n
decreasing_by omega
theorem numB_big {n : Nat} (h : 127 < n) : numB n = UInt8.ofNat (n % 128 + 128) :: numB (n / 128) := by rw [numB, if_pos h]
theorem numB_small {n : Nat} (h : ¬ 127 < n) : numB n = [UInt8.ofNat n] := by rw [numB, if_neg h]
theorem numB_pos (n : Nat) : 1 ≤ (numB n).length := by
  by_cases h : 127 < n
  · rw [numB_big h]; simp
  · rw [numB_small h]; simp
theorem numB_len : ∀ k n, n < 128 ^ (k + 1) → (numB n).length ≤ k + 1
  | 0, n, h => by rw [numB_small (by simp at h; omega)]; simp
  | k + 1, n, h => by
    by_cases hb : 127 < n
    · rw [numB_big hb]
      have h1 : n / 128 < 128 ^ (k + 1) := by
        rw [Nat.div_lt_iff_lt_mul (by decide)]
        rw [Nat.pow_succ] at h
        exact h
      have := numB_len k _ h1
      simp only [List.length_cons]; omega
    · rw [numB_small hb]; simp
theorem numB_10 {n : Nat} (h : n < 18446744073709551616) : (numB n).length ≤ 10 := numB_len 9 n (Nat.lt_trans h (by decide))
def txtB (s : List UInt8) : List UInt8 := numB s.length ++ s
theorem put_take {l : List UInt8} {xs : List LV} : (putAt xs 0 ((byteEls l).flatten.take (min (byteEls l).length l.length))).take (l.length * 1) = (byteEls l).flatten := by
  have h1 : (byteEls l).flatten.length = l.length := by rw [byteEls_flat]; simp
  unfold putAt
  rw [byteEls_length, Nat.min_self, List.take_of_length_le (by omega : (byteEls l).flatten.length ≤ l.length), List.take_zero, List.nil_append, Nat.mul_one, ← h1, List.take_left]
theorem put_len {l : List UInt8} {z : LV} {n : Nat} : (l.length + n) * 1 = (putAt (List.replicate (l.length + n) z) 0 ((byteEls l).flatten.take (min (byteEls l).length l.length))).length := by
  rw [putAt_length]
  · simp
  · have := byteEls_length l
    simp [byteEls_flat]; omega
theorem txt_app {l s : List UInt8} {k : Cap} : LV.sl 1 (byteEls (l ++ numB s.length) ++ byteEls s) k = Bytes (l ++ txtB s) k := by
  rw [← byteEls_append]; unfold txtB; rw [List.append_assoc]
theorem num_big8 {acc : List UInt8} {m : Nat} {k : Cap} : LV.sl 1 (byteEls acc ++ [[u8 (or8 (m % 256) 128)]]) k = Bytes (acc ++ [UInt8.ofNat (m % 128 + 128)]) k :=
  snoc8 acc _ _ (by rw [or8_128 (by omega)]; simp; omega) k
theorem num_small8 {acc : List UInt8} {m : Nat} {k : Cap} : LV.sl 1 (byteEls acc ++ [[u8 (m % 256)]]) k = Bytes (acc ++ [UInt8.ofNat m]) k :=
  snoc8 acc _ _ (by simp) k
set_option maxRecDepth 100000 in
theorem put_calls (l : List UInt8) (k : Cap) (n : Nat) (hl : l.length < 1099511627776) (hn : n < 18446744073709551616) : LCalls Tryd.prog 26 [Bytes l k, u64 n] [] (fun r H' => ∃ b o c, r = Bytes (l ++ numB n) (.tok b o c) ∧ H' = [.tail b o c]) := by
  have hn10 := numB_10 hn
  refine LCalls.of Tryd.func26 rfl Tryd.ntmps26 Tryd.results26 rfl (fun Rf => ?_)
  refine LW.seq ?_
  refine LW.region ?_
  refine X.u (LU.assign (Is.nil 1)) rfl ?_
  refine LL.nil (after_code ?_)
  refine LW.seq ?_
  refine LW.region ?_
  refine X.u (LU.moveS Is.rfl') rfl ?_
  refine X.u (LU.lenN Tryd.underlying57 Is.rfl' (by (simp only [Option.getD_some, Option.getD_none, byteEls_length, intEls_length, List.length_append, List.length_cons, List.length_nil, List.length_map, List.length_drop, List.length_take, Int.toNat_natCast]; rfl))) rfl ?_
  refine X.u (LU.moveS Is.rfl') rfl ?_
  refine X.u (LU.lenN Tryd.underlying57 Is.rfl' (by (simp only [Option.getD_some, Option.getD_none, byteEls_length, intEls_length, List.length_append, List.length_cons, List.length_nil, List.length_map, List.length_drop, List.length_take, Int.toNat_natCast]; rfl))) rfl ?_
  refine X.u (LU.weak (LU.addN Is.rfl' Is.rfl' (wrap_i64 (by omega) (by omega))) (Is.of (y := i64 ((l.length + 10 : Nat) : Int)) (rfl))) rfl ?_
  refine X.act (X.make rfl Tryd.underlying57 (El.of (P := Tryd.prog) (z := (.int .u8 0)) (size := 1) (bytes := 1) rfl rfl rfl) rfl rfl Is.rfl' Is.rfl' (by omega) (by omega) (by omega) (fun b11 => ?_))
  refine X.u (LU.assignR Is.rfl') rfl ?_
  refine LL.nil (after_code ?_)
  refine LW.seq ?_
  refine LW.region ?_
  refine X.u (LU.moveR Is.rfl') rfl ?_
  refine X.u (LU.moveS Is.rfl') rfl ?_
  refine X.act (X.copy 0 rfl rfl Tryd.underlying57 (El.of (P := Tryd.prog) (z := (.int .u8 0)) (size := 1) (bytes := 1) rfl rfl rfl) Is.rfl' Is.rfl' (by (simp; done)) ?_)
  refine LL.nil (after_code ?_)
  refine LW.seq ?_
  refine LW.block ?_
  refine LW.freezeT (t := 5) 0 rfl rfl (es := byteEls l) (size := 1) (n := l.length) (c := l.length + 10) (byteEls_size l) (byteEls_length l) put_len put_take.symm (by omega) ?_
  refine X.loopK (α := Nat × List UInt8 × Nat × Nat × Nat) (fun ⟨m, acc, tb, to, tc⟩ => [(1, u64 m), (5, Bytes acc (.tok tb to tc))]) [4] (fun ⟨m, acc, tb, to, tc⟩ => .tail tb to tc :: Rf) (fun ⟨m, acc, tb, to, tc⟩ => m ≤ n ∧ acc ++ numB m = l ++ numB n) (fun ⟨m, acc, tb, to, tc⟩ => m) ((n, l, b11, l.length * 1, (l.length + 10) * 1)) (EnvLe.cons (by rfl) (EnvLe.cons (by rfl) (EnvLe.nil))) (by repeat (exact HSub.refl _)) ?_ ?_
  · exact ⟨Nat.le_refl _, rfl⟩
  · rintro ⟨m, acc, tb, to, tc⟩ hI
    obtain ⟨hm, hacc⟩ := hI
    have hal := congrArg List.length hacc
    rw [List.length_append, List.length_append] at hal
    have hmp := numB_pos m
    refine LW.seq ?_
    refine LW.seq ?_
    refine LW.region ?_
    refine X.u (LU.moveR Is.rfl') rfl ?_
    refine X.u (LU.gtr Is.rfl' Is.rfl') rfl ?_
    refine LL.nil (after_code ?_)
    refine X.cond rfl (fun h3 => ?_) (fun h3 => ?_)
    · try have h3 := of_decide_eq_true h3
      refine LW.skip (after_code ?_)
      refine LW.block ?_
      refine LW.seq ?_
      refine LW.region ?_
      refine X.u (LU.moveS Is.rfl') rfl ?_
      refine X.u (LU.moveR Is.rfl') rfl ?_
      refine X.u (LU.to8 Tryd.underlying59 Tryd.underlying5 Is.rfl') rfl ?_
      refine X.u (LU.or8 Is.rfl' Is.rfl') rfl ?_
      refine X.u (LU.lits Tryd.underlying57 Tryd.sizeOf5 Tryd.zeroValue5 (ones rfl) rfl (by decide) (by decide) (Elems.cons Is.rfl' (by exact Cells.raw rfl) Elems.nil) (by simp) rfl) rfl ?_
      refine X.act (X.append 0 rfl rfl Tryd.underlying57 (El.of (P := Tryd.prog) (z := (.int .u8 0)) (size := 1) (bytes := 1) rfl rfl rfl) Is.rfl' Is.rfl' (SrcL.slice Tryd.underlying57 (by decide) (by (intro e he; simp [chunks] at he; simp [he]; done))) (by simp only [Option.getD_some, Option.getD_none, byteEls_length, intEls_length, List.length_append, List.length_cons, List.length_nil, List.length_map, List.length_drop, List.length_take, Int.toNat_natCast]; omega) (by simp only [Option.getD_some, Option.getD_none, byteEls_length, intEls_length, List.length_append, List.length_cons, List.length_nil, List.length_map, List.length_drop, List.length_take, Int.toNat_natCast]; omega) (fun b22 o22 c22 => X.weak (t := 22) (Is.of (y := Bytes (acc ++ [UInt8.ofNat (m % 128 + 128)]) (.tok b22 o22 c22)) (num_big8)) ?_))
      refine X.u (LU.assignS Is.rfl') rfl ?_
      refine LL.nil (after_code ?_)
      refine LW.region ?_
      refine X.u (LU.moveR Is.rfl') rfl ?_
      refine X.u (LU.weak (LU.shrN (n := 64) Is.rfl' Is.rfl' (by omega) rfl (by omega)) (Is.of (y := u64 (m / 128)) (rfl))) rfl ?_
      refine X.u (LU.assignR Is.rfl') rfl ?_
      refine LL.nil (after_blk (after_rnd ?_))
      refine X.next ((m / 128, acc ++ [UInt8.ofNat (m % 128 + 128)], b22, o22, c22)) rfl (EnvLe.cons (by rfl) (EnvLe.cons (by rfl) (EnvLe.nil))) (Keeps.cons (by exact Eq.trans (b := .sl _ _ _) rfl rfl) (Keeps.nil)) (by repeat (exact HSub.refl _)) ?_ ?_
      · exact ⟨by omega, by rw [← hacc, numB_big (n := m) (show 127 < m by omega)]; simp⟩
      · (simp; omega)
    · try have h3 := of_decide_eq_false h3
      refine LW.exit (exit_code (exit_rnd (exit_blk (after_code ?_))))
      refine LW.seq ?_
      refine LW.region ?_
      refine X.u (LU.moveS Is.rfl') rfl ?_
      refine X.u (LU.moveR Is.rfl') rfl ?_
      refine X.u (LU.convN Tryd.underlying59 Tryd.underlying5 Is.rfl' (wrap_u8 (by omega) (by omega))) rfl ?_
      refine X.u (LU.lits Tryd.underlying57 Tryd.sizeOf5 Tryd.zeroValue5 (ones rfl) rfl (by decide) (by decide) (Elems.cons Is.rfl' (by exact Cells.raw rfl) Elems.nil) (by simp) rfl) rfl ?_
      refine X.act (X.append 0 rfl rfl Tryd.underlying57 (El.of (P := Tryd.prog) (z := (.int .u8 0)) (size := 1) (bytes := 1) rfl rfl rfl) Is.rfl' Is.rfl' (SrcL.slice Tryd.underlying57 (by decide) (by (intro e he; simp [chunks] at he; simp [he]; done))) (by simp only [Option.getD_some, Option.getD_none, byteEls_length, intEls_length, List.length_append, List.length_cons, List.length_nil, List.length_map, List.length_drop, List.length_take, Int.toNat_natCast]; omega) (by simp only [Option.getD_some, Option.getD_none, byteEls_length, intEls_length, List.length_append, List.length_cons, List.length_nil, List.length_map, List.length_drop, List.length_take, Int.toNat_natCast]; omega) (fun b29 o29 c29 => X.weak (t := 29) (Is.of (y := Bytes (acc ++ [UInt8.ofNat m]) (.tok b29 o29 c29)) (by exact snoc8 acc (UInt8.ofNat m) m (by simp; omega) _)) ?_))
      refine X.u (LU.assignS Is.rfl') rfl ?_
      refine LL.nil (after_code ?_)
      refine LW.ret (after_end ?_)
      refine X.ret (H' := [.tail b29 o29 c29]) (Res.one Is.rfl') (by repeat (exact HSub.refl _)) ?_
      exact ⟨b29, o29, c29, by rw [← hacc, numB_small (n := m) (show ¬ 127 < m by omega)]; rfl, rfl⟩
set_option maxRecDepth 100000 in
theorem ptext_calls (l : List UInt8) (k : Cap) (s : List UInt8) (hl : l.length < 1099511627776) (hs : s.length < 1099511627776) : LCalls Tryd.prog 27 [Bytes l k, Str s] [] (fun r H' => ∃ b o c, r = Bytes (l ++ txtB s) (.tok b o c) ∧ H' = [.tail b o c]) := by
  have hn10 := numB_10 (n := s.length) (by omega)
  refine LCalls.of Tryd.func27 rfl Tryd.ntmps27 Tryd.results27 rfl (fun Rf => ?_)
  refine LW.seq ?_
  refine LW.region ?_
  refine X.u (LU.assign (Is.nil 1)) rfl ?_
  refine LL.nil (after_code ?_)
  refine LW.seq ?_
  refine LW.region ?_
  refine X.u (LU.moveS Is.rfl') rfl ?_
  refine X.u (LU.moveR Is.rfl') rfl ?_
  refine X.u (LU.strlenN Tryd.underlying9 Is.rfl') rfl ?_
  refine X.u (LU.convN Tryd.underlying3 Tryd.underlying59 Is.rfl' (wrap_u64 (by omega) (by omega))) rfl ?_
  refine X.act (X.call (put_calls l k s.length hl (by omega)) Tryd.func26 rfl rfl rfl (HSub.refl _) (Opds.cons Is.rfl' (Opds.cons Is.rfl' Opds.nil)) ?_)
  rintro r H' ⟨tb, to, tc, rfl, rfl⟩
  refine X.u (LU.moveR Is.rfl') rfl ?_
  refine X.act (X.append 0 rfl rfl Tryd.underlying57 (El.of (P := Tryd.prog) (z := (.int .u8 0)) (size := 1) (bytes := 1) rfl rfl rfl) Is.rfl' Is.rfl' (SrcL.string Tryd.underlying9) (by simp only [Option.getD_some, Option.getD_none, byteEls_length, intEls_length, List.length_append, List.length_cons, List.length_nil, List.length_map, List.length_drop, List.length_take, Int.toNat_natCast]; omega) (by simp only [Option.getD_some, Option.getD_none, byteEls_length, intEls_length, List.length_append, List.length_cons, List.length_nil, List.length_map, List.length_drop, List.length_take, Int.toNat_natCast]; omega) (fun b11 o11 c11 => X.weak (t := 11) (Is.of (y := Bytes (l ++ txtB s) (.tok b11 o11 c11)) (txt_app)) ?_))
  refine X.u (LU.assignS Is.rfl') rfl ?_
  refine LL.nil (after_code ?_)
  refine LW.ret (after_end ?_)
  refine X.ret (H' := [.tail b11 o11 c11]) (Res.one Is.rfl') (by repeat (exact HSub.refl _)) ?_
  exact ⟨b11, o11, c11, rfl, rfl⟩
set_option maxRecDepth 100000 in
theorem rput_calls (l : List UInt8) (k : Cap) (n : Nat) (hl : l.length < 1099511627776) (hn : n < 18446744073709551616) : LCalls Tryd.prog 33 [Bytes l k, u64 n] [] (fun r H' => ∃ b o c, r = Bytes (l ++ numB n) (.tok b o c) ∧ H' = [.tail b o c]) := by
  have hn10 := numB_10 hn
  refine LCalls.of Tryd.func33 rfl Tryd.ntmps33 Tryd.results33 rfl (fun Rf => ?_)
  refine LW.seq ?_
  refine LW.region ?_
  refine X.u (LU.assign (Is.nil 1)) rfl ?_
  refine LL.nil (after_code ?_)
  refine LW.seq ?_
  refine LW.region ?_
  refine X.u (LU.lits Tryd.underlying57 Tryd.sizeOf5 Tryd.zeroValue5 (ones rfl) rfl (by decide) (by decide) Elems.nil (by intro e he; cases he) rfl) rfl ?_
  refine X.u (LU.moveS Is.rfl') rfl ?_
  refine X.act (X.appendF rfl Tryd.underlying57 (El.of (P := Tryd.prog) (z := (.int .u8 0)) (size := 1) (bytes := 1) rfl rfl rfl) Is.rfl' Is.rfl' (SrcL.slice Tryd.underlying57 (by decide) (by exact byteEls_size _)) (by simp only [Option.getD_some, Option.getD_none, byteEls_length, intEls_length, List.length_append, List.length_cons, List.length_nil, List.length_map, List.length_drop, List.length_take, Int.toNat_natCast]; omega) (by simp only [Option.getD_some, Option.getD_none, byteEls_length, intEls_length, List.length_append, List.length_cons, List.length_nil, List.length_map, List.length_drop, List.length_take, Int.toNat_natCast]; omega) (fun b8 o8 c8 => ?_))
  refine X.weak (t := 8) (v := Bytes l (.tok b8 o8 c8)) (Is.of (rfl)) ?_
  refine X.u (LU.assignS Is.rfl') rfl ?_
  refine LL.nil (after_code ?_)
  refine LW.seq ?_
  refine LW.block ?_
  refine X.loopK (α := Nat × List UInt8 × Nat × Nat × Nat) (fun ⟨m, acc, tb, to, tc⟩ => [(1, u64 m), (5, Bytes acc (.tok tb to tc))]) [4] (fun ⟨m, acc, tb, to, tc⟩ => .tail tb to tc :: Rf) (fun ⟨m, acc, tb, to, tc⟩ => m ≤ n ∧ acc ++ numB m = l ++ numB n) (fun ⟨m, acc, tb, to, tc⟩ => m) ((n, l, b8, o8, c8)) (EnvLe.cons (by rfl) (EnvLe.cons (by rfl) (EnvLe.nil))) (by repeat (exact HSub.refl _)) ?_ ?_
  · exact ⟨Nat.le_refl _, rfl⟩
  · rintro ⟨m, acc, tb, to, tc⟩ hI
    obtain ⟨hm, hacc⟩ := hI
    have hal := congrArg List.length hacc
    rw [List.length_append, List.length_append] at hal
    have hmp := numB_pos m
    refine LW.seq ?_
    refine LW.seq ?_
    refine LW.region ?_
    refine X.u (LU.moveR Is.rfl') rfl ?_
    refine X.u (LU.geq Is.rfl' Is.rfl') rfl ?_
    refine LL.nil (after_code ?_)
    refine X.cond rfl (fun h2 => ?_) (fun h2 => ?_)
    · try have h2 := of_decide_eq_true h2
      refine LW.skip (after_code ?_)
      refine LW.block ?_
      refine LW.seq ?_
      refine LW.region ?_
      refine X.u (LU.moveS Is.rfl') rfl ?_
      refine X.u (LU.moveR Is.rfl') rfl ?_
      refine X.u (LU.weak (LU.rem Is.rfl' Is.rfl' (by omega)) (Is.of (y := u64 (m % 128)) (rfl))) rfl ?_
      refine X.u (LU.convN Tryd.underlying59 Tryd.underlying5 Is.rfl' (wrap_u8 (by omega) (by omega))) rfl ?_
      refine X.u (LU.weak (LU.add Is.rfl' Is.rfl') (Is.of (y := u8 (m % 128 + 128)) (by rw [show (((m % 128 : Nat) : Int) + 128) = ((m % 128 + 128 : Nat) : Int) from rfl, wrapN8, Nat.mod_eq_of_lt (by omega)]))) rfl ?_
      refine X.u (LU.lits Tryd.underlying57 Tryd.sizeOf5 Tryd.zeroValue5 (ones rfl) rfl (by decide) (by decide) (Elems.cons Is.rfl' (by exact Cells.raw rfl) Elems.nil) (by simp) rfl) rfl ?_
      refine X.act (X.append 0 rfl rfl Tryd.underlying57 (El.of (P := Tryd.prog) (z := (.int .u8 0)) (size := 1) (bytes := 1) rfl rfl rfl) Is.rfl' Is.rfl' (SrcL.slice Tryd.underlying57 (by decide) (by (intro e he; simp [chunks] at he; simp [he]; done))) (by simp only [Option.getD_some, Option.getD_none, byteEls_length, intEls_length, List.length_append, List.length_cons, List.length_nil, List.length_map, List.length_drop, List.length_take, Int.toNat_natCast]; omega) (by simp only [Option.getD_some, Option.getD_none, byteEls_length, intEls_length, List.length_append, List.length_cons, List.length_nil, List.length_map, List.length_drop, List.length_take, Int.toNat_natCast]; omega) (fun b17 o17 c17 => X.weak (t := 17) (Is.of (y := Bytes (acc ++ [UInt8.ofNat (m % 128 + 128)]) (.tok b17 o17 c17)) (snoc8 acc _ _ (by simp; omega) _)) ?_))
      refine X.u (LU.assignS Is.rfl') rfl ?_
      refine LL.nil (after_code ?_)
      refine LW.region ?_
      refine X.u (LU.moveR Is.rfl') rfl ?_
      refine X.u (LU.weak (LU.quo Is.rfl' Is.rfl' (by omega)) (Is.of (y := u64 (m / 128)) (by rw [show (m : Int).tdiv 128 = ((m / 128 : Nat) : Int) from rfl, wrap_u64 (by omega) (by omega)]))) rfl ?_
      refine X.u (LU.assignR Is.rfl') rfl ?_
      refine LL.nil (after_blk (after_rnd ?_))
      refine X.next ((m / 128, acc ++ [UInt8.ofNat (m % 128 + 128)], b17, o17, c17)) rfl (EnvLe.cons (by rfl) (EnvLe.cons (by rfl) (EnvLe.nil))) (Keeps.cons (by exact Eq.trans (b := .sl _ _ _) rfl rfl) (Keeps.nil)) (by repeat (exact HSub.refl _)) ?_ ?_
      · exact ⟨by omega, by rw [← hacc, numB_big (n := m) (show 127 < m by omega)]; simp⟩
      · (simp; omega)
    · try have h2 := of_decide_eq_false h2
      refine LW.exit (exit_code (exit_rnd (exit_blk (after_code ?_))))
      refine LW.seq ?_
      refine LW.region ?_
      refine X.u (LU.moveS Is.rfl') rfl ?_
      refine X.u (LU.moveR Is.rfl') rfl ?_
      refine X.u (LU.convN Tryd.underlying59 Tryd.underlying5 Is.rfl' (wrap_u8 (by omega) (by omega))) rfl ?_
      refine X.u (LU.lits Tryd.underlying57 Tryd.sizeOf5 Tryd.zeroValue5 (ones rfl) rfl (by decide) (by decide) (Elems.cons Is.rfl' (by exact Cells.raw rfl) Elems.nil) (by simp) rfl) rfl ?_
      refine X.act (X.append 0 rfl rfl Tryd.underlying57 (El.of (P := Tryd.prog) (z := (.int .u8 0)) (size := 1) (bytes := 1) rfl rfl rfl) Is.rfl' Is.rfl' (SrcL.slice Tryd.underlying57 (by decide) (by (intro e he; simp [chunks] at he; simp [he]; done))) (by simp only [Option.getD_some, Option.getD_none, byteEls_length, intEls_length, List.length_append, List.length_cons, List.length_nil, List.length_map, List.length_drop, List.length_take, Int.toNat_natCast]; omega) (by simp only [Option.getD_some, Option.getD_none, byteEls_length, intEls_length, List.length_append, List.length_cons, List.length_nil, List.length_map, List.length_drop, List.length_take, Int.toNat_natCast]; omega) (fun b24 o24 c24 => X.weak (t := 24) (Is.of (y := Bytes (acc ++ [UInt8.ofNat m]) (.tok b24 o24 c24)) (by exact snoc8 acc (UInt8.ofNat m) m (by simp; omega) _)) ?_))
      refine X.u (LU.assignS Is.rfl') rfl ?_
      refine LL.nil (after_code ?_)
      refine LW.ret (after_end ?_)
      refine X.ret (H' := [.tail b24 o24 c24]) (Res.one Is.rfl') (by repeat (exact HSub.refl _)) ?_
      exact ⟨b24, o24, c24, by rw [← hacc, numB_small (n := m) (show ¬ 127 < m by omega)]; rfl, rfl⟩
set_option maxRecDepth 100000 in
theorem rptext_calls (l : List UInt8) (k : Cap) (s : List UInt8) (hl : l.length < 1099511627776) (hs : s.length < 1099511627776) : LCalls Tryd.prog 35 [Bytes l k, Str s] [] (fun r H' => ∃ b o c, r = Bytes (l ++ txtB s) (.tok b o c) ∧ H' = [.tail b o c]) := by
  have hn10 := numB_10 (n := s.length) (by omega)
  refine LCalls.of Tryd.func35 rfl Tryd.ntmps35 Tryd.results35 rfl (fun Rf => ?_)
  refine LW.seq ?_
  refine LW.region ?_
  refine X.u (LU.assign (Is.nil 1)) rfl ?_
  refine LL.nil (after_code ?_)
  refine LW.seq ?_
  refine LW.region ?_
  refine X.u (LU.moveS Is.rfl') rfl ?_
  refine X.u (LU.moveR Is.rfl') rfl ?_
  refine X.u (LU.strlenN Tryd.underlying9 Is.rfl') rfl ?_
  refine X.u (LU.convN Tryd.underlying3 Tryd.underlying59 Is.rfl' (wrap_u64 (by omega) (by omega))) rfl ?_
  refine X.act (X.call (rput_calls l k s.length hl (by omega)) Tryd.func33 rfl rfl rfl (HSub.refl _) (Opds.cons Is.rfl' (Opds.cons Is.rfl' Opds.nil)) ?_)
  rintro r H' ⟨tb, to, tc, rfl, rfl⟩
  refine X.u (LU.moveR Is.rfl') rfl ?_
  refine X.u (LU.tobytes Tryd.underlying9 Tryd.underlying57 Tryd.underlying5 Is.rfl') rfl ?_
  refine X.act (X.append 0 rfl rfl Tryd.underlying57 (El.of (P := Tryd.prog) (z := (.int .u8 0)) (size := 1) (bytes := 1) rfl rfl rfl) Is.rfl' Is.rfl' (SrcL.slice Tryd.underlying57 (by decide) (by exact byteEls_size _)) (by simp only [Option.getD_some, Option.getD_none, byteEls_length, intEls_length, List.length_append, List.length_cons, List.length_nil, List.length_map, List.length_drop, List.length_take, Int.toNat_natCast]; omega) (by simp only [Option.getD_some, Option.getD_none, byteEls_length, intEls_length, List.length_append, List.length_cons, List.length_nil, List.length_map, List.length_drop, List.length_take, Int.toNat_natCast]; omega) (fun b12 o12 c12 => X.weak (t := 12) (Is.of (y := Bytes (l ++ txtB s) (.tok b12 o12 c12)) (txt_app)) ?_))
  refine X.u (LU.assignS Is.rfl') rfl ?_
  refine LL.nil (after_code ?_)
  refine LW.ret (after_end ?_)
  refine X.ret (H' := [.tail b12 o12 c12]) (Res.one Is.rfl') (by repeat (exact HSub.refl _)) ?_
  exact ⟨b12, o12, c12, rfl, rfl⟩
end Go.Proofs.YtpcfpkfchoelcaaDoor
