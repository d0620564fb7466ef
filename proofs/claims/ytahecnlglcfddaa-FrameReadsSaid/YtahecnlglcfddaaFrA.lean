/- Frames: sums, numbers of four bytes, what bytes begin with. -/
import Derived.Test.YtahecnlglcfddaaOcB
set_option linter.unusedVariables false
set_option linter.unusedSimpArgs false
namespace Go.Proofs.Ytahecnlglcfddaa
open Go.RowKit Go.L
attribute [local irreducible] LL LW LO LP LA
/-! ### sums -/
def crcBit (x : Nat) : Nat := if x % 2 = 1 then xor32 (x / 2) 3988292384 else x / 2
def crcK : Nat → Nat → Nat
  | 0, x => x
  | k + 1, x => crcK k (crcBit x)
def crcL : List UInt8 → Nat → Nat
  | [], x => x
  | c :: l, x => crcL l (crcK 8 (xor32 x c.toNat))
def crc (l : List UInt8) : Nat := xor32 (crcL l 4294967295) 4294967295
theorem xor32_lt (a b : Nat) : xor32 a b < 4294967296 := Nat.mod_lt _ (by decide)
theorem crc_lt (l : List UInt8) : crc l < 4294967296 := xor32_lt _ _
theorem crcBit_lt {x : Nat} (h : x < 4294967296) : crcBit x < 4294967296 := by
  unfold crcBit
  split
  · exact xor32_lt _ _
  · omega
theorem not_xor (a : Nat) : not32 a = xor32 a 4294967295 := by unfold not32 xor32; rw [Nat.xor_comm]
theorem crcL_step {l : List UInt8} {i x : Nat} (h : i < l.length) : crcL (l.drop i) x = crcL (l.drop (i + 1)) (crcK 8 (xor32 x (l.getD i 0).toNat)) := by
  rw [List.drop_eq_getElem_cons h, crcL, List.getD_eq_getElem?_getD, List.getElem?_eq_getElem h]; rfl
theorem and_one (y : Nat) : and32 y 1 = y % 2 := by
  unfold and32
  rw [show (1 : Nat) = 2 ^ 1 - 1 from rfl, Nat.and_two_pow_sub_one_eq_mod]
  omega
theorem bit_one {y : Nat} (h : ((and32 y 1 : Nat) : Int) = 1) : crcBit y = xor32 (shr32 y 1) 3988292384 := by
  rw [and_one] at h
  unfold crcBit shr32
  rw [if_pos (by omega)]
theorem bit_nil {y : Nat} (h : ¬ ((and32 y 1 : Nat) : Int) = 1) : crcBit y = shr32 y 1 := by
  rw [and_one] at h
  unfold crcBit shr32
  rw [if_neg (by omega)]
set_option maxRecDepth 100000 in
theorem fsum_calls (l : List UInt8) (c : Cap) (hl : l.length < 1099511627776) : LCalls Try.prog 20 [Bytes l c] [] (fun r H' => r = u32 (crc l) ∧ H' = []) := by
  refine LCalls.of Try.func20 rfl Try.ntmps20 Try.results20 rfl (fun Rf => ?_)
  refine LW.seq ?_
  refine LW.region ?_
  refine X.u (LU.assignR Is.rfl') rfl ?_
  refine LL.nil (after_code ?_)
  refine LW.seq ?_
  refine LW.region ?_
  refine X.u (LU.assignR Is.rfl') rfl ?_
  refine LL.nil (after_code ?_)
  refine LW.seq ?_
  refine LW.seq ?_
  refine LW.region ?_
  refine X.u (LU.moveS Is.rfl') rfl ?_
  refine X.u (LU.lenN Try.underlying22 Is.rfl' (by (simp only [Option.getD_some, Option.getD_none, byteEls_length, intEls_length, List.length_append, List.length_cons, List.length_nil, List.length_map, List.length_drop, List.length_take, Int.toNat_natCast]; rfl))) rfl ?_
  refine X.u (LU.moveR Is.rfl') rfl ?_
  refine LL.nil (after_code ?_)
  refine LW.block ?_
  refine X.loopK (α := Nat × Nat) (fun ⟨i, x⟩ => [(8, i64 i), (3, u32 x)]) [2, 6, 7] (fun _ => _) (fun ⟨i, x⟩ => i ≤ l.length ∧ x < 4294967296 ∧ crcL (l.drop i) x = crcL l 4294967295) (fun ⟨i, x⟩ => l.length - i) ((0, 4294967295)) (EnvLe.cons (by rfl) (EnvLe.cons (by rfl) (EnvLe.nil))) (HSub.refl _) ?_ ?_
  · exact ⟨Nat.zero_le _, by decide, rfl⟩
  · rintro ⟨i, x⟩ hI
    obtain ⟨hi, hx, hc⟩ := hI
    refine LW.seq ?_
    refine LW.region ?_
    refine X.u (LU.lss Is.rfl' Is.rfl') rfl ?_
    refine LL.nil (after_code ?_)
    refine LW.seq ?_
    refine X.cond rfl (fun h3 => ?_) (fun h3 => ?_)
    · try have h3 := of_decide_eq_true h3
      refine LW.skip (after_code ?_)
      refine LW.seq ?_
      refine LW.block ?_
      refine LW.seq ?_
      refine LW.region ?_
      refine X.u (LU.at Try.underlying22 ⟨Try.sizeOf5, Try.isAgg5⟩ Is.rfl' Is.rfl' (by omega) (byteEls_D i (by omega) (by omega)) (by simp)) rfl ?_
      refine X.u (LU.load ⟨Try.sizeOf5, Try.isAgg5⟩ Is.rfl' (by (simp; done)) (Part.one rfl)) rfl ?_
      refine X.u (LU.assignR Is.rfl') rfl ?_
      refine LL.nil (after_code ?_)
      refine LW.seq ?_
      have hb := (l.getD i 0).toNat_lt
      refine LW.region ?_
      refine X.u (LU.moveR Is.rfl') rfl ?_
      refine X.u (LU.moveR Is.rfl') rfl ?_
      refine X.u (LU.convN Try.underlying5 Try.underlying29 Is.rfl' (wrap_u32 (by omega) (by omega))) rfl ?_
      refine X.u (LU.xor32 Is.rfl' Is.rfl') rfl ?_
      refine X.u (LU.assignR Is.rfl') rfl ?_
      refine LL.nil (after_code ?_)
      refine LW.seq ?_
      refine LW.region ?_
      refine X.u (LU.moveR Is.rfl') rfl ?_
      refine LL.nil (after_code ?_)
      refine LW.block ?_
      refine X.loopK (α := Nat × Nat) (fun ⟨k, y⟩ => [(16, i64 k), (3, u32 y)]) [2, 6, 7, 8] (fun ⟨k, y⟩ => Rf) (fun ⟨k, y⟩ => k ≤ 8 ∧ y < 4294967296 ∧ crcK (8 - k) y = crcK 8 (xor32 x (l.getD i 0).toNat)) (fun ⟨k, y⟩ => 8 - k) ((0, xor32 x (l.getD i 0).toNat)) (EnvLe.cons (by rfl) (EnvLe.cons (by rfl) (EnvLe.nil))) (by exact HSub.refl _) ?_ ?_
      · exact ⟨by omega, xor32_lt _ _, rfl⟩
      · rintro ⟨k, y⟩ hI
        obtain ⟨hk, hy, hz⟩ := hI
        refine LW.seq ?_
        refine LW.region ?_
        refine X.u (LU.lss Is.rfl' Is.rfl') rfl ?_
        refine LL.nil (after_code ?_)
        refine LW.seq ?_
        refine X.cond rfl (fun h7 => ?_) (fun h7 => ?_)
        · try have h7 := of_decide_eq_true h7
          refine LW.skip (after_code ?_)
          refine LW.seq ?_
          refine LW.block ?_
          refine LW.seq ?_
          refine LW.region ?_
          refine X.u (LU.moveR Is.rfl') rfl ?_
          refine X.u (LU.and32 Is.rfl' Is.rfl') rfl ?_
          refine X.u (LU.eql Is.rfl' Is.rfl') rfl ?_
          refine LL.nil (after_code ?_)
          refine X.cond rfl (fun h8 => ?_) (fun h8 => ?_)
          · try have h8 := of_decide_eq_true h8
            refine LW.region ?_
            refine X.u (LU.moveR Is.rfl') rfl ?_
            refine X.u (LU.shr32 Is.rfl' Is.rfl' (by omega)) rfl ?_
            refine X.u (LU.weak (LU.xor32 Is.rfl' Is.rfl') (Is.of (y := u32 (crcBit y)) (congrArg u32 (bit_one h8).symm))) rfl ?_
            refine X.u (LU.assignR Is.rfl') rfl ?_
            refine LL.nil (after_blk (after_code ?_))
            refine LW.region ?_
            refine X.u (LU.addN Is.rfl' Is.rfl' (wrap_i64 (by omega) (by omega))) rfl ?_
            refine X.u (LU.moveR Is.rfl') rfl ?_
            refine LL.nil (after_rnd ?_)
            refine X.next ((k + 1, crcBit y)) rfl (EnvLe.cons (by rfl) (EnvLe.cons (by rfl) (EnvLe.nil))) (Keeps.cons (by exact Eq.trans (b := .raw _) rfl rfl) (Keeps.cons (by exact Eq.trans (b := .sl _ _ _) rfl rfl) (Keeps.cons (by exact Eq.trans (b := .raw _) rfl rfl) (Keeps.cons (by exact Eq.trans (b := .raw _) rfl rfl) (Keeps.nil))))) (by exact HSub.refl _) ?_ ?_
            · exact ⟨by omega, crcBit_lt hy, by rw [← hz, show 8 - k = (8 - (k + 1)) + 1 by omega]; rfl⟩
            · (simp; omega)
          · try have h8 := of_decide_eq_false h8
            refine LW.region ?_
            refine X.u (LU.moveR Is.rfl') rfl ?_
            refine X.u (LU.weak (LU.shr32 Is.rfl' Is.rfl' (by omega)) (Is.of (y := u32 (crcBit y)) (congrArg u32 (bit_nil h8).symm))) rfl ?_
            refine X.u (LU.assignR Is.rfl') rfl ?_
            refine LL.nil (after_blk (after_code ?_))
            refine LW.region ?_
            refine X.u (LU.addN Is.rfl' Is.rfl' (wrap_i64 (by omega) (by omega))) rfl ?_
            refine X.u (LU.moveR Is.rfl') rfl ?_
            refine LL.nil (after_rnd ?_)
            refine X.next ((k + 1, crcBit y)) rfl (EnvLe.cons (by rfl) (EnvLe.cons (by rfl) (EnvLe.nil))) (Keeps.cons (by exact Eq.trans (b := .raw _) rfl rfl) (Keeps.cons (by exact Eq.trans (b := .sl _ _ _) rfl rfl) (Keeps.cons (by exact Eq.trans (b := .raw _) rfl rfl) (Keeps.cons (by exact Eq.trans (b := .raw _) rfl rfl) (Keeps.nil))))) (by exact HSub.refl _) ?_ ?_
            · exact ⟨by omega, crcBit_lt hy, by rw [← hz, show 8 - k = (8 - (k + 1)) + 1 by omega]; rfl⟩
            · (simp; omega)
        · try have h7 := of_decide_eq_false h7
          obtain rfl : k = 8 := by omega
          have hk8 : y = crcK 8 (xor32 x (l.getD i 0).toNat) := hz
          refine LW.exit (exit_code (exit_rnd (exit_blk (after_blk (after_code ?_)))))
          refine LW.region ?_
          refine X.u (LU.addN Is.rfl' Is.rfl' (wrap_i64 (by omega) (by omega))) rfl ?_
          refine X.u (LU.moveR Is.rfl') rfl ?_
          refine LL.nil (after_rnd ?_)
          refine X.next ((i + 1, y)) rfl (EnvLe.cons (by rfl) (EnvLe.cons (by rfl) (EnvLe.nil))) (Keeps.cons (by exact Eq.trans (b := .raw _) rfl rfl) (Keeps.cons (by exact Eq.trans (b := .sl _ _ _) rfl rfl) (Keeps.cons (by exact Eq.trans (b := .raw _) rfl rfl) (Keeps.nil)))) (HSub.refl _) ?_ ?_
          · exact ⟨by omega, hy, by rw [show y = crcK 8 (xor32 x (l.getD i 0).toNat) from hk8, ← crcL_step (by omega)]; exact hc⟩
          · (simp; omega)
    · try have h3 := of_decide_eq_false h3
      obtain rfl : i = l.length := by omega
      rw [List.drop_length] at hc
      refine LW.exit (exit_code (exit_rnd (exit_blk (after_code ?_))))
      refine LW.seq ?_
      refine LW.region ?_
      refine X.u (LU.moveR Is.rfl') rfl ?_
      refine X.u (LU.not32 Is.rfl') rfl ?_
      refine X.u (LU.assignR Is.rfl') rfl ?_
      refine LL.nil (after_code ?_)
      refine LW.ret (after_end ?_)
      refine X.ret (H' := []) (Res.one (by exact IsR rfl)) (by exact HSub.refl _) ?_
      exact ⟨by rw [show x = crcL l 4294967295 from hc, not_xor]; rfl, rfl⟩
set_option maxRecDepth 100000 in
theorem rsum_calls (l : List UInt8) (c : Cap) (hl : l.length < 1099511627776) : LCalls Try.prog 21 [Bytes l c] [] (fun r H' => r = u32 (crc l) ∧ H' = []) := by
  refine LCalls.of Try.func21 rfl Try.ntmps21 Try.results21 rfl (fun Rf => ?_)
  refine LW.seq ?_
  refine LW.region ?_
  refine X.u (LU.assignR Is.rfl') rfl ?_
  refine LL.nil (after_code ?_)
  refine LW.seq ?_
  refine LW.region ?_
  refine X.u (LU.assignR Is.rfl') rfl ?_
  refine LL.nil (after_code ?_)
  refine LW.seq ?_
  refine LW.seq ?_
  refine LW.region ?_
  refine X.u (LU.assignR Is.rfl') rfl ?_
  refine LL.nil (after_code ?_)
  refine LW.block ?_
  refine X.loopK (α := Nat × Nat) (fun ⟨i, x⟩ => [(4, i64 i), (3, u32 x)]) [0, 2] (fun _ => _) (fun ⟨i, x⟩ => i ≤ l.length ∧ x < 4294967296 ∧ crcL (l.drop i) x = crcL l 4294967295) (fun ⟨i, x⟩ => l.length - i) ((0, 4294967295)) (EnvLe.cons (by rfl) (EnvLe.cons (by rfl) (EnvLe.nil))) (HSub.refl _) ?_ ?_
  · exact ⟨Nat.zero_le _, by decide, rfl⟩
  · rintro ⟨i, x⟩ hI
    obtain ⟨hi, hx, hc⟩ := hI
    refine LW.seq ?_
    refine LW.seq ?_
    refine LW.region ?_
    refine X.u (LU.moveR Is.rfl') rfl ?_
    refine X.u (LU.moveS Is.rfl') rfl ?_
    refine X.u (LU.lenN Try.underlying22 Is.rfl' (by (simp only [Option.getD_some, Option.getD_none, byteEls_length, intEls_length, List.length_append, List.length_cons, List.length_nil, List.length_map, List.length_drop, List.length_take, Int.toNat_natCast]; rfl))) rfl ?_
    refine X.u (LU.lss Is.rfl' Is.rfl') rfl ?_
    refine LL.nil (after_code ?_)
    refine X.cond rfl (fun h3 => ?_) (fun h3 => ?_)
    · try have h3 := of_decide_eq_true h3
      refine LW.skip (after_code ?_)
      refine LW.seq ?_
      refine LW.block ?_
      refine LW.seq ?_
      have hb := (l.getD i 0).toNat_lt
      refine LW.region ?_
      refine X.u (LU.moveR Is.rfl') rfl ?_
      refine X.u (LU.moveS Is.rfl') rfl ?_
      refine X.u (LU.moveR Is.rfl') rfl ?_
      refine X.u (LU.at Try.underlying22 ⟨Try.sizeOf5, Try.isAgg5⟩ Is.rfl' Is.rfl' (by omega) (byteEls_D i (by omega) (by omega)) (by simp)) rfl ?_
      refine X.u (LU.load ⟨Try.sizeOf5, Try.isAgg5⟩ Is.rfl' (by (simp; done)) (Part.one rfl)) rfl ?_
      refine X.u (LU.convN Try.underlying5 Try.underlying29 Is.rfl' (wrap_u32 (by omega) (by omega))) rfl ?_
      refine X.u (LU.xor32 Is.rfl' Is.rfl') rfl ?_
      refine X.u (LU.assignR Is.rfl') rfl ?_
      refine LL.nil (after_code ?_)
      refine LW.seq ?_
      refine LW.region ?_
      refine X.u (LU.assignR Is.rfl') rfl ?_
      refine LL.nil (after_code ?_)
      refine LW.block ?_
      refine X.loopK (α := Nat × Nat) (fun ⟨k, y⟩ => [(5, i64 k), (3, u32 y)]) [0, 2, 4] (fun ⟨k, y⟩ => Rf) (fun ⟨k, y⟩ => k ≤ 8 ∧ y < 4294967296 ∧ crcK (8 - k) y = crcK 8 (xor32 x (l.getD i 0).toNat)) (fun ⟨k, y⟩ => 8 - k) ((0, xor32 x (l.getD i 0).toNat)) (EnvLe.cons (by rfl) (EnvLe.cons (by rfl) (EnvLe.nil))) (by exact HSub.refl _) ?_ ?_
      · exact ⟨by omega, xor32_lt _ _, rfl⟩
      · rintro ⟨k, y⟩ hI
        obtain ⟨hk, hy, hz⟩ := hI
        refine LW.seq ?_
        refine LW.seq ?_
        refine LW.region ?_
        refine X.u (LU.moveR Is.rfl') rfl ?_
        refine X.u (LU.lss Is.rfl' Is.rfl') rfl ?_
        refine LL.nil (after_code ?_)
        refine X.cond rfl (fun h7 => ?_) (fun h7 => ?_)
        · try have h7 := of_decide_eq_true h7
          refine LW.skip (after_code ?_)
          refine LW.seq ?_
          refine LW.block ?_
          refine LW.seq ?_
          refine LW.region ?_
          refine X.u (LU.moveR Is.rfl') rfl ?_
          refine X.u (LU.weak (LU.rem Is.rfl' Is.rfl' (by omega)) (Is.of (y := u32 (y % 2)) (rfl))) rfl ?_
          refine X.u (LU.assignR Is.rfl') rfl ?_
          refine LL.nil (after_code ?_)
          refine LW.seq ?_
          refine LW.region ?_
          refine X.u (LU.moveR Is.rfl') rfl ?_
          refine X.u (LU.weak (LU.quo Is.rfl' Is.rfl' (by omega)) (Is.of (y := u32 (y / 2)) (congrArg (fun z => LV.raw (.int .u32 z)) (by rw [show (y : Int).tdiv 2 = ((y / 2 : Nat) : Int) from rfl, wrapN32, Nat.mod_eq_of_lt (by omega)])))) rfl ?_
          refine X.u (LU.assignR Is.rfl') rfl ?_
          refine LL.nil (after_code ?_)
          refine LW.seq ?_
          refine LW.region ?_
          refine X.u (LU.moveR Is.rfl') rfl ?_
          refine X.u (LU.eql Is.rfl' Is.rfl') rfl ?_
          refine LL.nil (after_code ?_)
          refine X.cond rfl (fun h11 => ?_) (fun h11 => ?_)
          · try have h11 := of_decide_eq_true h11
            refine LW.region ?_
            refine X.u (LU.moveR Is.rfl') rfl ?_
            refine X.u (LU.weak (LU.xor32 Is.rfl' Is.rfl') (Is.of (y := u32 (crcBit y)) (by unfold crcBit; rw [if_pos (by omega)]))) rfl ?_
            refine X.u (LU.assignR Is.rfl') rfl ?_
            refine LL.nil (after_blk (after_code ?_))
            refine LW.region ?_
            refine X.u (LU.moveR Is.rfl') rfl ?_
            refine X.u (LU.addN Is.rfl' Is.rfl' (wrap_i64 (by omega) (by omega))) rfl ?_
            refine X.u (LU.assignR Is.rfl') rfl ?_
            refine LL.nil (after_rnd ?_)
            refine X.next ((k + 1, crcBit y)) rfl (EnvLe.cons (by rfl) (EnvLe.cons (by rfl) (EnvLe.nil))) (Keeps.cons (by exact Eq.trans (b := .sl _ _ _) rfl rfl) (Keeps.cons (by exact Eq.trans (b := .raw _) rfl rfl) (Keeps.cons (by exact Eq.trans (b := .raw _) rfl rfl) (Keeps.nil)))) (by exact HSub.refl _) ?_ ?_
            · exact ⟨by omega, crcBit_lt hy, by rw [← hz, show 8 - k = (8 - (k + 1)) + 1 by omega]; rfl⟩
            · (simp; omega)
          · try have h11 := of_decide_eq_false h11
            have hcb : crcBit y = y / 2 := by unfold crcBit; rw [if_neg (by omega)]
            rw [← hcb]
            refine LW.skip (after_blk (after_code ?_))
            refine LW.region ?_
            refine X.u (LU.moveR Is.rfl') rfl ?_
            refine X.u (LU.addN Is.rfl' Is.rfl' (wrap_i64 (by omega) (by omega))) rfl ?_
            refine X.u (LU.assignR Is.rfl') rfl ?_
            refine LL.nil (after_rnd ?_)
            refine X.next ((k + 1, crcBit y)) rfl (EnvLe.cons (by rfl) (EnvLe.cons (by rfl) (EnvLe.nil))) (Keeps.cons (by exact Eq.trans (b := .sl _ _ _) rfl rfl) (Keeps.cons (by exact Eq.trans (b := .raw _) rfl rfl) (Keeps.cons (by exact Eq.trans (b := .raw _) rfl rfl) (Keeps.nil)))) (by exact HSub.refl _) ?_ ?_
            · exact ⟨by omega, crcBit_lt hy, by rw [← hz, show 8 - k = (8 - (k + 1)) + 1 by omega]; rfl⟩
            · (simp; omega)
        · try have h7 := of_decide_eq_false h7
          obtain rfl : k = 8 := by omega
          have hk8 : y = crcK 8 (xor32 x (l.getD i 0).toNat) := hz
          refine LW.exit (exit_code (exit_rnd (exit_blk (after_blk (after_code ?_)))))
          refine LW.region ?_
          refine X.u (LU.moveR Is.rfl') rfl ?_
          refine X.u (LU.addN Is.rfl' Is.rfl' (wrap_i64 (by omega) (by omega))) rfl ?_
          refine X.u (LU.assignR Is.rfl') rfl ?_
          refine LL.nil (after_rnd ?_)
          refine X.next ((i + 1, y)) rfl (EnvLe.cons (by rfl) (EnvLe.cons (by rfl) (EnvLe.nil))) (Keeps.cons (by exact Eq.trans (b := .sl _ _ _) rfl rfl) (Keeps.cons (by exact Eq.trans (b := .raw _) rfl rfl) (Keeps.nil))) (HSub.refl _) ?_ ?_
          · exact ⟨by omega, hy, by rw [show y = crcK 8 (xor32 x (l.getD i 0).toNat) from hk8, ← crcL_step (by omega)]; exact hc⟩
          · (simp; omega)
    · try have h3 := of_decide_eq_false h3
      obtain rfl : i = l.length := by omega
      rw [List.drop_length] at hc
      refine LW.exit (exit_code (exit_rnd (exit_blk (after_code ?_))))
      refine LW.seq ?_
      refine LW.region ?_
      refine X.u (LU.moveR Is.rfl') rfl ?_
      refine X.u (LU.xor32 Is.rfl' Is.rfl') rfl ?_
      refine X.u (LU.assignR Is.rfl') rfl ?_
      refine LL.nil (after_code ?_)
      refine LW.ret (after_end ?_)
      refine X.ret (H' := []) (Res.one (by exact IsR rfl)) (by exact HSub.refl _) ?_
      exact ⟨by rw [show x = crcL l 4294967295 from hc]; rfl, rfl⟩
/-! ### numbers of four bytes -/
def num4 (l : List UInt8) : Nat := (l.getD 0 0).toNat * 16777216 + (l.getD 1 0).toNat * 65536 + (l.getD 2 0).toNat * 256 + (l.getD 3 0).toNat
theorem num4_lt (l : List UInt8) : num4 l < 4294967296 := by
  have h0 := (l.getD 0 0).toNat_lt
  have h1 := (l.getD 1 0).toNat_lt
  have h2 := (l.getD 2 0).toNat_lt
  have h3 := (l.getD 3 0).toNat_lt
  unfold num4
  omega
theorem shl_n {a k : Nat} (h : a * 2 ^ k < 4294967296) : shl32 a k = a * 2 ^ k := Nat.mod_eq_of_lt h
theorem or_add {a b k : Nat} (hb : b < 2 ^ k) (h : a * 2 ^ k + b < 4294967296) : or32 (a * 2 ^ k) b = a * 2 ^ k + b := by
  unfold or32
  have := Nat.two_pow_add_eq_or_of_lt hb a
  rw [Nat.mul_comm a, ← this, Nat.mul_comm, Nat.mod_eq_of_lt h]
theorem or_num {a b c d : Nat} (ha : a < 256) (hb : b < 256) (hc : c < 256) (hd : d < 256) : or32 (or32 (or32 (shl32 a 24) (shl32 b 16)) (shl32 c 8)) d = a * 16777216 + b * 65536 + c * 256 + d := by
  rw [shl_n (by omega), shl_n (by omega), shl_n (by omega), or_add (by omega) (by omega)]
  rw [show a * 2 ^ 24 + b * 2 ^ 16 = (a * 256 + b) * 2 ^ 16 by omega, or_add (by omega) (by omega)]
  rw [show (a * 256 + b) * 2 ^ 16 + c * 2 ^ 8 = (a * 65536 + b * 256 + c) * 2 ^ 8 by omega, or_add (by omega) (by omega)]
theorem add_num {a b c d : Nat} (ha : a < 256) (hb : b < 256) (hc : c < 256) (hd : d < 256) : add32 (add32 (add32 (shl32 a 24) (shl32 b 16)) (shl32 c 8)) d = a * 16777216 + b * 65536 + c * 256 + d := by
  rw [shl_n (by omega), shl_n (by omega), shl_n (by omega)]
  unfold add32
  omega
set_option maxRecDepth 100000 in
theorem number4_calls (l : List UInt8) (c : Cap) (hl : l.length < 1099511627776) (h4 : 4 ≤ l.length) : LCalls Try.prog 38 [Bytes l c] [] (fun r H' => r = u32 (num4 l) ∧ H' = []) := by
  have h0 := (l.getD 0 0).toNat_lt
  have h1 := (l.getD 1 0).toNat_lt
  have h2 := (l.getD 2 0).toNat_lt
  have h3 := (l.getD 3 0).toNat_lt
  refine LCalls.of Try.func38 rfl Try.ntmps38 Try.results38 rfl (fun Rf => ?_)
  refine LW.seq ?_
  refine LW.region ?_
  refine X.u (LU.assignR Is.rfl') rfl ?_
  refine LL.nil (after_code ?_)
  refine LW.seq ?_
  refine X.drawM 23 rfl (by kernel_rfl) rfl ?_
  refine QD.u (LU.moveS Is.rfl') rfl ?_
  refine QD.u (LU.at Try.underlying22 ⟨Try.sizeOf5, Try.isAgg5⟩ Is.rfl' Is.rfl' (by omega) (byteEls_D 0 (by omega) (by omega)) (by simp)) rfl ?_
  refine QD.u (LU.load ⟨Try.sizeOf5, Try.isAgg5⟩ Is.rfl' (by (simp; done)) (Part.one rfl)) rfl ?_
  refine QD.u (LU.convN Try.underlying5 Try.underlying29 Is.rfl' (wrap_u32 (by omega) (by omega))) rfl ?_
  refine QD.u (LU.shl32 Is.rfl' Is.rfl' (by omega)) rfl ?_
  refine QD.u (LU.moveS Is.rfl') rfl ?_
  refine QD.u (LU.at Try.underlying22 ⟨Try.sizeOf5, Try.isAgg5⟩ Is.rfl' Is.rfl' (by omega) (byteEls_D 1 (by omega) (by omega)) (by simp)) rfl ?_
  refine QD.u (LU.load ⟨Try.sizeOf5, Try.isAgg5⟩ Is.rfl' (by (simp; done)) (Part.one rfl)) rfl ?_
  refine QD.u (LU.convN Try.underlying5 Try.underlying29 Is.rfl' (wrap_u32 (by omega) (by omega))) rfl ?_
  refine QD.u (LU.shl32 Is.rfl' Is.rfl' (by omega)) rfl ?_
  refine QD.u (LU.or32 Is.rfl' Is.rfl') rfl ?_
  refine QD.u (LU.moveS Is.rfl') rfl ?_
  refine QD.u (LU.at Try.underlying22 ⟨Try.sizeOf5, Try.isAgg5⟩ Is.rfl' Is.rfl' (by omega) (byteEls_D 2 (by omega) (by omega)) (by simp)) rfl ?_
  refine QD.u (LU.load ⟨Try.sizeOf5, Try.isAgg5⟩ Is.rfl' (by (simp; done)) (Part.one rfl)) rfl ?_
  refine QD.u (LU.convN Try.underlying5 Try.underlying29 Is.rfl' (wrap_u32 (by omega) (by omega))) rfl ?_
  refine QD.u (LU.shl32 Is.rfl' Is.rfl' (by omega)) rfl ?_
  refine QD.u (LU.or32 Is.rfl' Is.rfl') rfl ?_
  refine QD.u (LU.moveS Is.rfl') rfl ?_
  refine QD.u (LU.at Try.underlying22 ⟨Try.sizeOf5, Try.isAgg5⟩ Is.rfl' Is.rfl' (by omega) (byteEls_D 3 (by omega) (by omega)) (by simp)) rfl ?_
  refine QD.u (LU.load ⟨Try.sizeOf5, Try.isAgg5⟩ Is.rfl' (by (simp; done)) (Part.one rfl)) rfl ?_
  refine QD.u (LU.convN Try.underlying5 Try.underlying29 Is.rfl' (wrap_u32 (by omega) (by omega))) rfl ?_
  refine QD.u (LU.or32 Is.rfl' Is.rfl') rfl ?_
  refine QD.u (LU.assignR Is.rfl') rfl ?_
  refine QD.nil ?_
  refine LL.nil (after_code ?_)
  refine LW.ret (after_end ?_)
  refine X.ret (H' := []) (Res.one (by exact IsR rfl)) (by exact HSub.refl _) ?_
  exact ⟨by rw [num4, ← or_num h0 h1 h2 h3]; rfl, rfl⟩
set_option maxRecDepth 100000 in
theorem rnumber4_calls (l : List UInt8) (c : Cap) (hl : l.length < 1099511627776) (h4 : 4 ≤ l.length) : LCalls Try.prog 42 [Bytes l c] [] (fun r H' => r = u32 (num4 l) ∧ H' = []) := by
  have h0 := (l.getD 0 0).toNat_lt
  have h1 := (l.getD 1 0).toNat_lt
  have h2 := (l.getD 2 0).toNat_lt
  have h3 := (l.getD 3 0).toNat_lt
  refine LCalls.of Try.func42 rfl Try.ntmps42 Try.results42 rfl (fun Rf => ?_)
  refine LW.seq ?_
  refine LW.region ?_
  refine X.u (LU.assignR Is.rfl') rfl ?_
  refine LL.nil (after_code ?_)
  refine LW.seq ?_
  refine X.drawM 23 rfl (by kernel_rfl) rfl ?_
  refine QD.u (LU.moveS Is.rfl') rfl ?_
  refine QD.u (LU.at Try.underlying22 ⟨Try.sizeOf5, Try.isAgg5⟩ Is.rfl' Is.rfl' (by omega) (byteEls_D 0 (by omega) (by omega)) (by simp)) rfl ?_
  refine QD.u (LU.load ⟨Try.sizeOf5, Try.isAgg5⟩ Is.rfl' (by (simp; done)) (Part.one rfl)) rfl ?_
  refine QD.u (LU.convN Try.underlying5 Try.underlying29 Is.rfl' (wrap_u32 (by omega) (by omega))) rfl ?_
  refine QD.u (LU.shl32 Is.rfl' Is.rfl' (by omega)) rfl ?_
  refine QD.u (LU.moveS Is.rfl') rfl ?_
  refine QD.u (LU.at Try.underlying22 ⟨Try.sizeOf5, Try.isAgg5⟩ Is.rfl' Is.rfl' (by omega) (byteEls_D 1 (by omega) (by omega)) (by simp)) rfl ?_
  refine QD.u (LU.load ⟨Try.sizeOf5, Try.isAgg5⟩ Is.rfl' (by (simp; done)) (Part.one rfl)) rfl ?_
  refine QD.u (LU.convN Try.underlying5 Try.underlying29 Is.rfl' (wrap_u32 (by omega) (by omega))) rfl ?_
  refine QD.u (LU.shl32 Is.rfl' Is.rfl' (by omega)) rfl ?_
  refine QD.u (LU.add32 Is.rfl' Is.rfl') rfl ?_
  refine QD.u (LU.moveS Is.rfl') rfl ?_
  refine QD.u (LU.at Try.underlying22 ⟨Try.sizeOf5, Try.isAgg5⟩ Is.rfl' Is.rfl' (by omega) (byteEls_D 2 (by omega) (by omega)) (by simp)) rfl ?_
  refine QD.u (LU.load ⟨Try.sizeOf5, Try.isAgg5⟩ Is.rfl' (by (simp; done)) (Part.one rfl)) rfl ?_
  refine QD.u (LU.convN Try.underlying5 Try.underlying29 Is.rfl' (wrap_u32 (by omega) (by omega))) rfl ?_
  refine QD.u (LU.shl32 Is.rfl' Is.rfl' (by omega)) rfl ?_
  refine QD.u (LU.add32 Is.rfl' Is.rfl') rfl ?_
  refine QD.u (LU.moveS Is.rfl') rfl ?_
  refine QD.u (LU.at Try.underlying22 ⟨Try.sizeOf5, Try.isAgg5⟩ Is.rfl' Is.rfl' (by omega) (byteEls_D 3 (by omega) (by omega)) (by simp)) rfl ?_
  refine QD.u (LU.load ⟨Try.sizeOf5, Try.isAgg5⟩ Is.rfl' (by (simp; done)) (Part.one rfl)) rfl ?_
  refine QD.u (LU.convN Try.underlying5 Try.underlying29 Is.rfl' (wrap_u32 (by omega) (by omega))) rfl ?_
  refine QD.u (LU.add32 Is.rfl' Is.rfl') rfl ?_
  refine QD.u (LU.assignR Is.rfl') rfl ?_
  refine QD.nil ?_
  refine LL.nil (after_code ?_)
  refine LW.ret (after_end ?_)
  refine X.ret (H' := []) (Res.one (by exact IsR rfl)) (by exact HSub.refl _) ?_
  exact ⟨by rw [num4, ← add_num h0 h1 h2 h3]; rfl, rfl⟩
/-! ### what bytes begin with -/
def unfr (l : List UInt8) : List UInt8 × Nat × Nat :=
  if l.length < 8 then ([], 0, 10)
  else if num4 (l.drop 4) ≠ crc (l.take 4) then ([], 0, 40)
  else if 65536 < num4 l then ([], 0, 3)
  else if l.length < num4 l + 12 then ([], 0, 10)
  else if num4 (l.drop (8 + num4 l)) ≠ crc ((l.drop 8).take (num4 l)) then ([], 0, 40)
  else ((l.drop 8).take (num4 l), num4 l + 12, 0)
theorem unfr_ok (l : List UInt8) (h : (unfr l).2.2 = 0) : (unfr l).2.1 = (unfr l).1.length + 12 ∧ (unfr l).2.1 ≤ l.length ∧ (unfr l).1 = (l.drop 8).take (unfr l).1.length ∧ (unfr l).1.length ≤ 65536 := by
  unfold unfr at h ⊢
  split at h
  · cases h
  · rename_i h1
    rw [if_neg h1]
    split at h
    · cases h
    · rename_i h2
      rw [if_neg h2]
      split at h
      · cases h
      · rename_i h3
        rw [if_neg h3]
        split at h
        · cases h
        · rename_i h4
          rw [if_neg h4]
          split at h
          · cases h
          · rename_i h5
            rw [if_neg h5]
            have : ((l.drop 8).take (num4 l)).length = num4 l := by simp; omega
            refine ⟨by rw [this], ?_, by rw [this], by rw [this]; omega⟩
            show num4 l + 12 ≤ l.length
            omega
set_option maxRecDepth 100000 in
theorem unfr_calls (l : List UInt8) (c : Cap) (hl : l.length < 1099511627776) : LCalls Try.prog 24 [Bytes l c] [] (fun r H' => r = .tup [Bytes (unfr l).1 .unk, i64 (unfr l).2.1, i64 (unfr l).2.2] ∧ H' = []) := by
  have hn := num4_lt l
  have hd4 : (l.drop 4).length = l.length - 4 := by simp
  have c13 : 8 ≤ l.length → LCalls Try.prog 38 [Bytes (l.drop 4) .unk] [] (fun r H' => r = u32 (num4 (l.drop 4)) ∧ H' = []) := fun h => number4_calls (l.drop 4) .unk (by omega) (by omega)
  have c16 : LCalls Try.prog 20 [Bytes (l.take 4) .unk] [] (fun r H' => r = u32 (crc (l.take 4)) ∧ H' = []) := fsum_calls (l.take 4) .unk (by simp; omega)
  have c20 : 8 ≤ l.length → LCalls Try.prog 38 [Bytes l c] [] (fun r H' => r = u32 (num4 l) ∧ H' = []) := fun h => number4_calls l c hl (by omega)
  have c34 : num4 l + 12 ≤ l.length → LCalls Try.prog 38 [Bytes (l.drop (8 + num4 l)) .unk] [] (fun r H' => r = u32 (num4 (l.drop (8 + num4 l))) ∧ H' = []) := fun h => number4_calls (l.drop (8 + num4 l)) .unk (by simp; omega) (by simp; omega)
  have c39 : LCalls Try.prog 20 [Bytes ((l.drop 8).take (num4 l)) .unk] [] (fun r H' => r = u32 (crc ((l.drop 8).take (num4 l))) ∧ H' = []) := fsum_calls ((l.drop 8).take (num4 l)) .unk (by simp; omega)
  have hU : unfr l = if l.length < 8 then ([], 0, 10) else if num4 (l.drop 4) ≠ crc (l.take 4) then ([], 0, 40) else if 65536 < num4 l then ([], 0, 3) else if l.length < num4 l + 12 then ([], 0, 10) else if num4 (l.drop (8 + num4 l)) ≠ crc ((l.drop 8).take (num4 l)) then ([], 0, 40) else ((l.drop 8).take (num4 l), num4 l + 12, 0) := rfl
  obtain ⟨u, hu⟩ : ∃ u, u = unfr l := ⟨_, rfl⟩
  rw [← hu] at hU ⊢
  clear hu
  obtain ⟨a, ha⟩ : ∃ a, a = num4 (l.drop 4) := ⟨_, rfl⟩
  obtain ⟨s, hs⟩ : ∃ s, s = crc (l.take 4) := ⟨_, rfl⟩
  obtain ⟨n, hnn⟩ : ∃ n, n = num4 l := ⟨_, rfl⟩
  rw [← hnn] at hn c20 c34 c39 hU
  obtain ⟨a2, ha2⟩ : ∃ a2, a2 = num4 (l.drop (8 + n)) := ⟨_, rfl⟩
  obtain ⟨s2, hs2⟩ : ∃ s2, s2 = crc ((l.drop 8).take n) := ⟨_, rfl⟩
  rw [← ha] at c13 hU
  rw [← hs] at c16 hU
  rw [← ha2] at c34 hU
  rw [← hs2] at c39 hU
  clear ha hs ha2 hs2 hnn
  refine LCalls.of Try.func24 rfl Try.ntmps24 Try.results24 rfl (fun Rf => ?_)
  refine LW.seq ?_
  refine LW.region ?_
  refine X.u (LU.assign (Is.nil 1)) rfl ?_
  refine X.u (LU.assignR Is.rfl') rfl ?_
  refine X.u (LU.assignR Is.rfl') rfl ?_
  refine LL.nil (after_code ?_)
  refine LW.seq ?_
  refine LW.block ?_
  refine LW.seq ?_
  refine LW.region ?_
  refine X.u (LU.moveS Is.rfl') rfl ?_
  refine X.u (LU.lenN Try.underlying22 Is.rfl' (by (simp only [Option.getD_some, Option.getD_none, byteEls_length, intEls_length, List.length_append, List.length_cons, List.length_nil, List.length_map, List.length_drop, List.length_take, Int.toNat_natCast]; rfl))) rfl ?_
  refine X.u (LU.lss Is.rfl' Is.rfl') rfl ?_
  refine X.u (LU.assignR Is.rfl') rfl ?_
  refine LL.nil (after_code ?_)
  refine X.cond rfl (fun h1 => ?_) (fun h1 => ?_)
  · try have h1 := of_decide_eq_true h1
    refine LW.seq ?_
    refine LW.region ?_
    refine X.u (LU.assign (Is.nil 1)) rfl ?_
    refine X.u (LU.assignR Is.rfl') rfl ?_
    refine X.u (LU.assignR Is.rfl') rfl ?_
    refine LL.nil (after_code ?_)
    refine LW.ret (ret_blk (ret_code (after_end ?_)))
    refine X.ret (H' := []) (Res.three (by exact IsS rfl) (by exact IsR rfl) (by exact IsR rfl)) (by exact HSub.refl _) ?_
    exact ⟨by rw [hU, if_pos (by omega)]; rfl, rfl⟩
  · try have h1 := of_decide_eq_false h1
    refine LW.seq ?_
    refine X.drawM 8 rfl (by kernel_rfl) rfl ?_
    refine QD.u (LU.moveS Is.rfl') rfl ?_
    refine QD.u (LU.sliceB (i := some 4) (j := none) Try.sizeOf5 Try.underlying22 Is.rfl' ⟨_, Is.rfl'⟩ trivial (by simp) (by simp; omega) (by simp) (m := l.drop 4) (by simp only [Option.getD_some, Option.getD_none]; exact List.take_of_length_le (by simp))) rfl ?_
    refine QD.u (LU.call (c13 (by omega)) Try.func38 rfl rfl (Opds.cons Is.rfl' Opds.nil)) rfl ?_
    refine QD.u (LU.moveS Is.rfl') rfl ?_
    refine QD.u (LU.sliceB (i := none) (j := some 4) Try.sizeOf5 Try.underlying22 Is.rfl' trivial ⟨_, Is.rfl'⟩ (by simp) (by simp) (by simp; omega) (m := l.take 4) (by simp)) rfl ?_
    refine QD.u (LU.call (c16) Try.func20 rfl rfl (Opds.cons Is.rfl' Opds.nil)) rfl ?_
    refine QD.u (LU.neq Is.rfl' Is.rfl') rfl ?_
    refine QD.u (LU.assignR Is.rfl') rfl ?_
    refine QD.nil ?_
    refine LL.nil (after_code ?_)
    refine X.cond rfl (fun h3 => ?_) (fun h3 => ?_)
    · have g3 : a ≠ s := by simp at h3; omega
      refine LW.seq ?_
      refine LW.region ?_
      refine X.u (LU.assign (Is.nil 1)) rfl ?_
      refine X.u (LU.assignR Is.rfl') rfl ?_
      refine X.u (LU.assignR Is.rfl') rfl ?_
      refine LL.nil (after_code ?_)
      refine LW.ret (ret_blk (ret_code (after_end ?_)))
      refine X.ret (H' := []) (Res.three (by exact IsS rfl) (by exact IsR rfl) (by exact IsR rfl)) (by exact HSub.refl _) ?_
      exact ⟨by rw [hU, if_neg (by omega), if_pos g3]; rfl, rfl⟩
    · have g3 : ¬ (a ≠ s) := by simp at h3; omega
      refine LW.seq ?_
      refine LW.region ?_
      refine X.u (LU.moveS Is.rfl') rfl ?_
      refine X.u (LU.call (c20 (by omega)) Try.func38 rfl rfl (Opds.cons Is.rfl' Opds.nil)) rfl ?_
      refine X.u (LU.gtr Is.rfl' Is.rfl') rfl ?_
      refine X.u (LU.assignR Is.rfl') rfl ?_
      refine LL.nil (after_code ?_)
      refine X.cond rfl (fun h5 => ?_) (fun h5 => ?_)
      · try have h5 := of_decide_eq_true h5
        refine LW.seq ?_
        refine LW.region ?_
        refine X.u (LU.assign (Is.nil 1)) rfl ?_
        refine X.u (LU.assignR Is.rfl') rfl ?_
        refine X.u (LU.assignR Is.rfl') rfl ?_
        refine LL.nil (after_code ?_)
        refine LW.ret (ret_blk (ret_code (after_end ?_)))
        refine X.ret (H' := []) (Res.three (by exact IsS rfl) (by exact IsR rfl) (by exact IsR rfl)) (by exact HSub.refl _) ?_
        exact ⟨by rw [hU, if_neg (by omega), if_neg g3, if_pos (by omega)]; rfl, rfl⟩
      · try have h5 := of_decide_eq_false h5
        refine LW.skip (after_blk (after_code ?_))
        refine LW.seq ?_
        refine LW.region ?_
        refine X.u (LU.moveS Is.rfl') rfl ?_
        refine X.u (LU.call (c20 (by omega)) Try.func38 rfl rfl (Opds.cons Is.rfl' Opds.nil)) rfl ?_
        refine X.u (LU.convN Try.underlying29 Try.underlying3 Is.rfl' (wrap_i64 (by omega) (by omega))) rfl ?_
        refine X.u (LU.assignR Is.rfl') rfl ?_
        refine LL.nil (after_code ?_)
        refine LW.seq ?_
        refine LW.seq ?_
        refine LW.region ?_
        refine X.u (LU.moveS Is.rfl') rfl ?_
        refine X.u (LU.lenN Try.underlying22 Is.rfl' (by (simp only [Option.getD_some, Option.getD_none, byteEls_length, intEls_length, List.length_append, List.length_cons, List.length_nil, List.length_map, List.length_drop, List.length_take, Int.toNat_natCast]; rfl))) rfl ?_
        refine X.u (LU.subN Is.rfl' Is.rfl' (wrap_i64 (by omega) (by omega))) rfl ?_
        refine X.u (LU.moveR Is.rfl') rfl ?_
        refine X.u (LU.lss Is.rfl' Is.rfl') rfl ?_
        refine LL.nil (after_code ?_)
        refine X.cond rfl (fun h8 => ?_) (fun h8 => ?_)
        · try have h8 := of_decide_eq_true h8
          refine LW.seq ?_
          refine LW.region ?_
          refine X.u (LU.assign (Is.nil 1)) rfl ?_
          refine X.u (LU.assignR Is.rfl') rfl ?_
          refine X.u (LU.assignR Is.rfl') rfl ?_
          refine LL.nil (after_code ?_)
          refine LW.ret (ret_code (after_end ?_))
          refine X.ret (H' := []) (Res.three (by exact IsS rfl) (by exact IsR rfl) (by exact IsR rfl)) (by exact HSub.refl _) ?_
          exact ⟨by rw [hU, if_neg (by omega), if_neg g3, if_neg (by omega), if_pos (by omega)]; rfl, rfl⟩
        · try have h8 := of_decide_eq_false h8
          refine LW.skip (after_code ?_)
          refine LW.seq ?_
          refine LW.seq ?_
          refine X.drawM 11 rfl (by kernel_rfl) rfl ?_
          refine QD.u (LU.moveS Is.rfl') rfl ?_
          refine QD.u (LU.moveR Is.rfl') rfl ?_
          refine QD.u (LU.weak (LU.addN Is.rfl' Is.rfl' (wrap_i64 (by omega) (by omega))) (Is.of (y := i64 ((8 + n : Nat) : Int)) (rfl))) rfl ?_
          refine QD.u (LU.sliceB (i := some ((8 + n : Nat) : Int)) (j := none) Try.sizeOf5 Try.underlying22 Is.rfl' ⟨_, Is.rfl'⟩ trivial (by simp only [Option.getD_some]; omega) (by simp only [Option.getD_some, Option.getD_none]; omega) (by simp) (m := l.drop (8 + n)) (by simp only [Option.getD_some, Option.getD_none, Int.toNat_natCast]; rw [List.take_of_length_le (by simp)])) rfl ?_
          refine QD.u (LU.call (c34 (by omega)) Try.func38 rfl rfl (Opds.cons Is.rfl' Opds.nil)) rfl ?_
          refine QD.u (LU.moveS Is.rfl') rfl ?_
          refine QD.u (LU.moveR Is.rfl') rfl ?_
          refine QD.u (LU.weak (LU.addN Is.rfl' Is.rfl' (wrap_i64 (by omega) (by omega))) (Is.of (y := i64 ((8 + n : Nat) : Int)) (rfl))) rfl ?_
          refine QD.u (LU.sliceB (i := some 8) (j := some ((8 + n : Nat) : Int)) Try.sizeOf5 Try.underlying22 Is.rfl' ⟨_, Is.rfl'⟩ ⟨_, Is.rfl'⟩ (by simp) (by simp only [Option.getD_some]; omega) (by simp only [Option.getD_some]; omega) (m := (l.drop 8).take (n)) (by simp only [Option.getD_some, Int.toNat_natCast]; congr 1; omega)) rfl ?_
          refine QD.u (LU.call (c39) Try.func20 rfl rfl (Opds.cons Is.rfl' Opds.nil)) rfl ?_
          refine QD.u (LU.neq Is.rfl' Is.rfl') rfl ?_
          refine QD.nil ?_
          refine LL.nil (after_code ?_)
          refine X.cond rfl (fun h10 => ?_) (fun h10 => ?_)
          · have g10 : a2 ≠ s2 := by simp at h10; omega
            refine LW.seq ?_
            refine LW.region ?_
            refine X.u (LU.assign (Is.nil 1)) rfl ?_
            refine X.u (LU.assignR Is.rfl') rfl ?_
            refine X.u (LU.assignR Is.rfl') rfl ?_
            refine LL.nil (after_code ?_)
            refine LW.ret (ret_code (after_end ?_))
            refine X.ret (H' := []) (Res.three (by exact IsS rfl) (by exact IsR rfl) (by exact IsR rfl)) (by exact HSub.refl _) ?_
            exact ⟨by rw [hU, if_neg (by omega), if_neg g3, if_neg (by omega), if_neg (by omega), if_pos g10]; rfl, rfl⟩
          · have g10 : ¬ (a2 ≠ s2) := by simp at h10; omega
            refine LW.skip (after_code ?_)
            refine LW.seq ?_
            refine LW.region ?_
            refine X.u (LU.lits Try.underlying22 Try.sizeOf5 Try.zeroValue5 (ones rfl) rfl (by decide) (by decide) Elems.nil (by intro e he; cases he) rfl) rfl ?_
            refine X.u (LU.moveS Is.rfl') rfl ?_
            refine X.u (LU.moveR Is.rfl') rfl ?_
            refine X.u (LU.weak (LU.addN Is.rfl' Is.rfl' (wrap_i64 (by omega) (by omega))) (Is.of (y := i64 ((8 + n : Nat) : Int)) (rfl))) rfl ?_
            refine X.u (LU.sliceB (i := some 8) (j := some ((8 + n : Nat) : Int)) Try.sizeOf5 Try.underlying22 Is.rfl' ⟨_, Is.rfl'⟩ ⟨_, Is.rfl'⟩ (by simp) (by simp only [Option.getD_some]; omega) (by simp only [Option.getD_some]; omega) (m := (l.drop 8).take (n)) (by simp only [Option.getD_some, Int.toNat_natCast]; congr 1; omega)) rfl ?_
            refine X.u (LU.weak (LU.append Try.underlying22 (El.of (P := Try.prog) (z := (.int .u8 0)) (size := 1) (bytes := 1) rfl rfl rfl) Is.rfl' Is.rfl' (SrcL.slice Try.underlying22 (by decide) (by exact byteEls_size _)) (by simp only [Option.getD_some, Option.getD_none, byteEls_length, intEls_length, List.length_append, List.length_cons, List.length_nil, List.length_map, List.length_drop, List.length_take, Int.toNat_natCast]; omega) (by simp only [Option.getD_some, Option.getD_none, byteEls_length, intEls_length, List.length_append, List.length_cons, List.length_nil, List.length_map, List.length_drop, List.length_take, Int.toNat_natCast]; omega)) (Is.of (y := Bytes ((l.drop 8).take (n)) .unk) (rfl))) rfl ?_
            refine X.u (LU.moveR Is.rfl') rfl ?_
            refine X.u (LU.weak (LU.addN Is.rfl' Is.rfl' (wrap_i64 (by omega) (by omega))) (Is.of (y := i64 ((n + 12 : Nat) : Int)) (rfl))) rfl ?_
            refine X.u (LU.assignS Is.rfl') rfl ?_
            refine X.u (LU.assignR Is.rfl') rfl ?_
            refine X.u (LU.assignR Is.rfl') rfl ?_
            refine LL.nil (after_code ?_)
            refine LW.ret (after_end ?_)
            refine X.ret (H' := []) (Res.three (by exact IsS rfl) (by exact IsR rfl) (by exact IsR rfl)) (by exact HSub.refl _) ?_
            exact ⟨by rw [hU, if_neg (by omega), if_neg g3, if_neg (by omega), if_neg (by omega), if_neg g10]; rfl, rfl⟩
end Go.Proofs.Ytahecnlglcfddaa
