/- Bytes compared; bytes to the base 16. -/
import Derived.Test.YtnfeepmgdahmgaaDoorHsI
import Derived.Test.YtnfeepmgdahmgaaDoorLgB
set_option linter.unusedVariables false
set_option linter.unusedSimpArgs false
namespace Go.Proofs.YtnfeepmgdahmgaaDoor
open Go.RowKit Go.L
attribute [local irreducible] LL LW LO
theorem take_eq {a b : List UInt8} {i : Nat} (ha : i < a.length) (hb : i < b.length) : a.take (i + 1) = b.take (i + 1) ↔ a.take i = b.take i ∧ (a.getD i 0).toNat = (b.getD i 0).toNat := by
  rw [List.take_succ_eq_append_getElem ha, List.take_succ_eq_append_getElem hb]
  constructor
  · intro h
    have := List.append_inj h (by simp; omega)
    refine ⟨this.1, ?_⟩
    simpa [List.getD, ha, hb] using congrArg UInt8.toNat (List.cons.inj this.2).1
  · rintro ⟨h1, h2⟩
    rw [h1]
    have : a[i] = b[i] := by
      have := UInt8.toNat_inj.1 h2
      simpa [List.getD, ha, hb] using this
    rw [this]
set_option maxRecDepth 100000 in
theorem equal_calls (a b : List UInt8) (ka kb : Cap) (ha : a.length < 9223372036854775807) (hb : b.length < 9223372036854775807) : LCalls Tryd.prog 71 [Bytes a ka, Bytes b kb] [] (fun r H' => r = bl (decide (a = b)) ∧ H' = []) := by
  refine LCalls.of Tryd.func71 rfl Tryd.ntmps71 Tryd.results71 rfl (fun Rf => ?_)
  refine LW.seq ?_
  refine LW.region ?_
  refine X.u (LU.assignR Is.rfl') rfl ?_
  refine LL.nil (after_code ?_)
  refine LW.seq ?_
  refine LW.seq ?_
  refine LW.region ?_
  refine X.u (LU.moveS Is.rfl') rfl ?_
  refine X.u (LU.lenN Tryd.underlying22 Is.rfl' (by (simp only [Option.getD_some, Option.getD_none, byteEls_length, intEls_length, List.length_append, List.length_cons, List.length_nil, List.length_map, List.length_drop, List.length_take, Int.toNat_natCast]; rfl))) rfl ?_
  refine X.u (LU.moveS Is.rfl') rfl ?_
  refine X.u (LU.lenN Tryd.underlying22 Is.rfl' (by (simp only [Option.getD_some, Option.getD_none, byteEls_length, intEls_length, List.length_append, List.length_cons, List.length_nil, List.length_map, List.length_drop, List.length_take, Int.toNat_natCast]; rfl))) rfl ?_
  refine X.u (LU.neq Is.rfl' Is.rfl') rfl ?_
  refine LL.nil (after_code ?_)
  refine X.cond rfl (fun h1 => ?_) (fun h1 => ?_)
  · have hne : a.length ≠ b.length := by simp at h1; omega
    refine LW.seq ?_
    refine LW.region ?_
    refine X.u (LU.assignR Is.rfl') rfl ?_
    refine LL.nil (after_code ?_)
    refine LW.ret (ret_code (after_end ?_))
    refine X.ret (H' := []) (Res.one (by exact IsR rfl)) (by repeat (exact HSub.refl _)) ?_
    exact ⟨by rw [decide_eq_false (fun h => hne (by rw [h]))], rfl⟩
  · have hl : a.length = b.length := by simp at h1; omega
    refine LW.skip (after_code ?_)
    refine LW.seq ?_
    refine LW.region ?_
    refine X.u (LU.assignR Is.rfl') rfl ?_
    refine LL.nil (after_code ?_)
    refine LW.seq ?_
    refine LW.seq ?_
    refine LW.region ?_
    refine X.u (LU.moveS Is.rfl') rfl ?_
    refine X.u (LU.lenN Tryd.underlying22 Is.rfl' (by (simp only [Option.getD_some, Option.getD_none, byteEls_length, intEls_length, List.length_append, List.length_cons, List.length_nil, List.length_map, List.length_drop, List.length_take, Int.toNat_natCast]; rfl))) rfl ?_
    refine X.u (LU.moveR Is.rfl') rfl ?_
    refine LL.nil (after_code ?_)
    refine LW.block ?_
    refine X.loopK (α := Nat × Nat) (fun ⟨i, x⟩ => [(14, i64 i), (5, u8 x)]) [0, 1, 4, 13] (fun _ => _) (fun ⟨i, x⟩ => i ≤ a.length ∧ x < 256 ∧ (x = 0 ↔ a.take i = b.take i)) (fun ⟨i, x⟩ => a.length - i) (⟨0, 0⟩) (EnvLe.cons (by rfl) (EnvLe.cons (by rfl) (EnvLe.nil))) (HSub.refl _) ?_ ?_
    · exact ⟨Nat.zero_le _, by decide, by simp⟩
    · rintro ⟨i, x⟩ hI
      refine LW.seq ?_
      refine LW.region ?_
      refine X.u (LU.lss Is.rfl' Is.rfl') rfl ?_
      refine LL.nil (after_code ?_)
      refine LW.seq ?_
      refine X.cond rfl (fun h5 => ?_) (fun h5 => ?_)
      · try have h5 := of_decide_eq_true h5
        refine LW.skip (after_code ?_)
        refine LW.seq ?_
        refine LW.block ?_
        refine LW.seq ?_
        refine LW.region ?_
        refine X.u (LU.moveR Is.rfl') rfl ?_
        refine X.u (LU.assignR Is.rfl') rfl ?_
        refine LL.nil (after_code ?_)
        refine X.drawM 12 rfl (by kernel_rfl) rfl ?_
        refine QD.u (LU.moveR Is.rfl') rfl ?_
        refine QD.u (LU.moveS Is.rfl') rfl ?_
        refine QD.u (LU.moveR Is.rfl') rfl ?_
        refine QD.u (LU.at Tryd.underlying22 ⟨Tryd.sizeOf5, Tryd.isAgg5⟩ Is.rfl' Is.rfl' (by omega) (byteEls_D i (by omega) (by omega)) (by simp)) rfl ?_
        refine QD.u (LU.load ⟨Tryd.sizeOf5, Tryd.isAgg5⟩ Is.rfl' (by (simp; done)) (Part.one rfl)) rfl ?_
        refine QD.u (LU.moveS Is.rfl') rfl ?_
        refine QD.u (LU.moveR Is.rfl') rfl ?_
        refine QD.u (LU.at Tryd.underlying22 ⟨Tryd.sizeOf5, Tryd.isAgg5⟩ Is.rfl' Is.rfl' (by omega) (byteEls_D i (by omega) (by omega)) (by simp)) rfl ?_
        refine QD.u (LU.load ⟨Tryd.sizeOf5, Tryd.isAgg5⟩ Is.rfl' (by (simp; done)) (Part.one rfl)) rfl ?_
        refine QD.u (LU.xor8 Is.rfl' Is.rfl') rfl ?_
        refine QD.u (LU.or8 Is.rfl' Is.rfl') rfl ?_
        refine QD.u (LU.assignR Is.rfl') rfl ?_
        refine QD.nil ?_
        refine LL.nil (after_blk (after_code ?_))
        refine LW.region ?_
        refine X.u (LU.addN Is.rfl' Is.rfl' (wrap_i64 (by omega) (by omega))) rfl ?_
        refine X.u (LU.moveR Is.rfl') rfl ?_
        refine LL.nil (after_rnd ?_)
        refine X.next (⟨i + 1, or8 x (xor8 (a.getD i 0).toNat (b.getD i 0).toNat)⟩) rfl (EnvLe.cons (by rfl) (EnvLe.cons (by rfl) (EnvLe.nil))) (Keeps.cons (by exact Eq.trans (b := .sl _ _ _) rfl rfl) (Keeps.cons (by exact Eq.trans (b := .sl _ _ _) rfl rfl) (Keeps.cons (by exact Eq.trans (b := .raw _) rfl rfl) (Keeps.cons (by exact Eq.trans (b := .raw _) rfl rfl) (Keeps.nil))))) (HSub.refl _) ?_ ?_
        · refine ⟨by omega, or8_lt _ _, ?_⟩
          rw [or8_zero hI.2.1 (xor8_lt _ _), xor8_zero (UInt8.toNat_lt _) (UInt8.toNat_lt _), take_eq (by omega) (by omega), hI.2.2]
        · (simp; omega)
      · try have h5 := of_decide_eq_false h5
        obtain rfl : i = a.length := by omega
        refine LW.exit (exit_code (exit_rnd (exit_blk (after_code ?_))))
        refine LW.seq ?_
        refine LW.region ?_
        refine X.u (LU.moveR Is.rfl') rfl ?_
        refine X.u (LU.weak (LU.eql Is.rfl' Is.rfl') (Is.of (y := bl (decide (a = b))) (by
          congr 2
          have h2 := hI.2.2
          rw [List.take_of_length_le (Nat.le_refl _), List.take_of_length_le (by omega)] at h2
          simp only [decide_eq_decide]
          rw [← h2]
          omega))) rfl ?_
        refine X.u (LU.assignR Is.rfl') rfl ?_
        refine LL.nil (after_code ?_)
        refine LW.ret (after_end ?_)
        refine X.ret (H' := []) (Res.one (by exact IsR rfl)) (by repeat (exact HSub.refl _)) ?_
        exact ⟨rfl, rfl⟩
def hxL : List UInt8 := [48, 49, 50, 51, 52, 53, 54, 55, 56, 57, 97, 98, 99, 100, 101, 102]
def hexB (b : List UInt8) : List UInt8 := b.flatMap fun c => [hxL.getD (c.toNat / 16) 0, hxL.getD (c.toNat % 16) 0]
theorem hexB_len (b : List UInt8) : (hexB b).length = 2 * b.length := by
  induction b with
  | nil => rfl
  | cons x xs ih => simp only [hexB, List.flatMap_cons, List.length_append, List.length_cons, List.length_nil] at *; omega
theorem hexB_succ {b : List UInt8} {i : Nat} (h : i < b.length) : hexB (b.take (i + 1)) = hexB (b.take i) ++ [hxL.getD ((b.getD i 0).toNat / 16) 0, hxL.getD ((b.getD i 0).toNat % 16) 0] := by
  rw [List.take_succ_eq_append_getElem h, hexB, List.flatMap_append]
  simp [hexB, List.getD, h]
theorem hexB_els {b : List UInt8} {i : Nat} (h : i < b.length) : byteEls (hexB (b.take i)) ++ [[u8 (hxL.getD (((b.getD i 0).toNat / 16 : Nat) : Int).toNat 0).toNat], [u8 (hxL.getD (((b.getD i 0).toNat % 16 : Nat) : Int).toNat 0).toNat]] = byteEls (hexB (b.take (i + 1))) := by
  rw [Int.toNat_natCast, Int.toNat_natCast, hexB_succ h]
  simp [byteEls]
theorem hxL_len : hxL.length = 16 := rfl
set_option maxRecDepth 100000 in
theorem hex_calls (b : List UInt8) (k : Cap) (hb : b.length < 1099511627776) : LCalls Tryd.prog 70 [Bytes b k] [] (fun r H' => r = Str (hexB b) ∧ H' = []) := by
  refine LCalls.of Tryd.func70 rfl Tryd.ntmps70 Tryd.results70 rfl (fun Rf => ?_)
  refine LW.seq ?_
  refine LW.region ?_
  refine X.u (LU.assignR Is.rfl') rfl ?_
  refine LL.nil (after_code ?_)
  refine LW.seq ?_
  refine LW.region ?_
  refine X.u (LU.moveS Is.rfl') rfl ?_
  refine X.u (LU.lenN Tryd.underlying22 Is.rfl' (by (simp only [Option.getD_some, Option.getD_none, byteEls_length, intEls_length, List.length_append, List.length_cons, List.length_nil, List.length_map, List.length_drop, List.length_take, Int.toNat_natCast]; rfl))) rfl ?_
  refine X.u (LU.weak (LU.mulN Is.rfl' Is.rfl' (wrap_i64 (by omega) (by omega))) (asI (b := ((2 * b.length : Nat) : Int)) rfl (by omega))) rfl ?_
  refine X.act (X.make0 rfl Tryd.underlying22 (El.of (P := Tryd.prog) (z := (.int .u8 0)) (size := 1) (bytes := 1) rfl rfl rfl) Is.rfl' Is.rfl' (by omega) (by omega) (fun b9 o9 c9 => ?_))
  refine X.u (LU.assignS Is.rfl') rfl ?_
  refine LL.nil (after_code ?_)
  refine LW.seq ?_
  refine LW.seq ?_
  refine LW.region ?_
  refine X.u (LU.moveS Is.rfl') rfl ?_
  refine X.u (LU.lenN Tryd.underlying22 Is.rfl' (by (simp only [Option.getD_some, Option.getD_none, byteEls_length, intEls_length, List.length_append, List.length_cons, List.length_nil, List.length_map, List.length_drop, List.length_take, Int.toNat_natCast]; rfl))) rfl ?_
  refine X.u (LU.moveR Is.rfl') rfl ?_
  refine LL.nil (after_code ?_)
  refine LW.block ?_
  refine X.loopK (α := Nat × Nat × Nat × Nat) (fun ⟨i, tb, to, tc⟩ => [(12, i64 i), (3, Bytes (hexB (b.take i)) (.tok tb to tc))]) [2, 10, 11] (fun ⟨i, tb, to, tc⟩ => [.tail tb to tc] ++ Rf) (fun ⟨i, tb, to, tc⟩ => i ≤ b.length) (fun ⟨i, tb, to, tc⟩ => b.length - i) ((0, b9, o9, c9)) (EnvLe.cons (by rfl) (EnvLe.cons (by rfl) (EnvLe.nil))) (by repeat (exact HSub.refl _)) ?_ ?_
  · exact Nat.zero_le _
  · rintro ⟨i, tb, to, tc⟩ hI
    have hll := hexB_len (b.take i)
    rw [List.length_take] at hll
    have hx := UInt8.toNat_lt (b.getD i 0)
    refine LW.seq ?_
    refine LW.region ?_
    refine X.u (LU.lss Is.rfl' Is.rfl') rfl ?_
    refine LL.nil (after_code ?_)
    refine LW.seq ?_
    refine X.cond rfl (fun h3 => ?_) (fun h3 => ?_)
    · try have h3 := of_decide_eq_true h3
      refine LW.skip (after_code ?_)
      refine LW.seq ?_
      refine LW.block ?_
      refine LW.seq ?_
      refine LW.region ?_
      refine X.u (LU.at Tryd.underlying22 ⟨Tryd.sizeOf5, Tryd.isAgg5⟩ Is.rfl' Is.rfl' (by omega) (byteEls_D i (by omega) (by omega)) (by simp)) rfl ?_
      refine X.u (LU.load ⟨Tryd.sizeOf5, Tryd.isAgg5⟩ Is.rfl' (by (simp; done)) (Part.one rfl)) rfl ?_
      refine X.u (LU.assignR Is.rfl') rfl ?_
      refine LL.nil (after_code ?_)
      refine X.drawM 8 rfl (by kernel_rfl) rfl ?_
      refine QD.u (LU.moveS Is.rfl') rfl ?_
      refine QD.u (LU.moveR Is.rfl') rfl ?_
      refine QD.u (LU.weak (LU.shrN (n := 8) Is.rfl' Is.rfl' (by omega) rfl (by omega)) (asI (b := (((b.getD i 0).toNat / 16 : Nat) : Int)) rfl (by rfl))) rfl ?_
      refine QD.u (LU.stratN (l := hxL) Tryd.underlying9 Is.rfl' Is.rfl' (by omega) (by rw [hxL_len]; omega)) rfl ?_
      refine QD.u (LU.moveR Is.rfl') rfl ?_
      refine QD.u (LU.weak (LU.and8 Is.rfl' Is.rfl') (asI (b := (((b.getD i 0).toNat % 16 : Nat) : Int)) rfl (by rw [and8_15]))) rfl ?_
      refine QD.u (LU.stratN (l := hxL) Tryd.underlying9 Is.rfl' Is.rfl' (by omega) (by rw [hxL_len]; omega)) rfl ?_
      refine QD.u (LU.lits Tryd.underlying22 Tryd.sizeOf5 Tryd.zeroValue5 (ones rfl) rfl (by decide) (by decide) (Elems.cons Is.rfl' (by exact Cells.raw rfl) (Elems.cons Is.rfl' (by exact Cells.raw rfl) Elems.nil)) (by (simp; done)) rfl) rfl ?_
      refine QD.nil ?_
      refine X.act (X.append 0 rfl rfl Tryd.underlying22 (El.of (P := Tryd.prog) (z := (.int .u8 0)) (size := 1) (bytes := 1) rfl rfl rfl) Is.rfl' Is.rfl' (SrcL.slice Tryd.underlying22 (by decide) (by simp)) (by simp only [Option.getD_some, Option.getD_none, byteEls_length, intEls_length, List.length_append, List.length_cons, List.length_nil, List.length_map, List.length_drop, List.length_take, Int.toNat_natCast]; omega) (by simp only [Option.getD_some, Option.getD_none, byteEls_length, intEls_length, List.length_append, List.length_cons, List.length_nil, List.length_map, List.length_drop, List.length_take, Int.toNat_natCast]; omega) (fun b24 o24 c24 => X.weak (t := 24) (Is.of (y := Bytes (hexB (b.take (i + 1))) (.tok b24 o24 c24)) (congrArg (fun z => LV.sl 1 z (.tok b24 o24 c24)) (hexB_els (by omega)))) ?_))
      refine X.u (LU.assignS Is.rfl') rfl ?_
      refine LL.nil (after_blk (after_code ?_))
      refine LW.region ?_
      refine X.u (LU.addN Is.rfl' Is.rfl' (wrap_i64 (by omega) (by omega))) rfl ?_
      refine X.u (LU.moveR Is.rfl') rfl ?_
      refine LL.nil (after_rnd ?_)
      refine X.next ((i + 1, b24, o24, c24)) rfl (EnvLe.cons (by rfl) (EnvLe.cons (by rfl) (EnvLe.nil))) (Keeps.cons (by exact Eq.trans (b := .raw _) rfl rfl) (Keeps.cons (by exact Eq.trans (b := .sl _ _ _) rfl rfl) (Keeps.cons (by exact Eq.trans (b := .raw _) rfl rfl) (Keeps.nil)))) (by repeat (exact HSub.refl _)) ?_ ?_
      · omega
      · (simp; omega)
    · try have h3 := of_decide_eq_false h3
      obtain rfl : i = b.length := by omega
      refine LW.exit (exit_code (exit_rnd (exit_blk (after_code ?_))))
      refine LW.seq ?_
      refine LW.region ?_
      refine X.u (LU.moveS Is.rfl') rfl ?_
      refine X.u (LU.tostr Tryd.underlying22 Tryd.underlying5 Tryd.underlying9 Is.rfl') rfl ?_
      refine X.u (LU.assignR Is.rfl') rfl ?_
      refine LL.nil (after_code ?_)
      refine LW.ret (after_end ?_)
      refine X.ret (H' := []) (Res.one (by exact IsR rfl)) (by repeat (first | exact HSub.refl _ | refine HSub.drop ?_)) ?_
      exact ⟨by rw [List.take_of_length_le (Nat.le_refl _)], rfl⟩
end Go.Proofs.YtnfeepmgdahmgaaDoor
