/- A reader tells what the document says. -/
import Derived.Test.YtahecnlglcfddaaOcA
set_option linter.unusedVariables false
set_option linter.unusedSimpArgs false
namespace Go.Proofs.Ytahecnlglcfddaa
open Go.RowKit Go.L
attribute [local irreducible] LL LW LO LP LA
theorem w_lt {i : Nat} (h : i < 10) : 2 ^ (7 * i) < 18446744073709551616 := by
  have : (2 : Nat) ^ (7 * i) ≤ 2 ^ 63 := Nat.pow_le_pow_right (by decide) (by omega)
  have : (2 : Nat) ^ 63 = 9223372036854775808 := by decide
  omega
def wt (i : Nat) : Nat := 2 ^ (7 * i) % 18446744073709551616
theorem wt_eq {i : Nat} (h : i < 10) : wt i = 2 ^ (7 * i) := Nat.mod_eq_of_lt (w_lt h)
theorem wrapN64 (n : Nat) : IntKind.u64.wrap (n : Int) = ((n % 18446744073709551616 : Nat) : Int) := by
  show (n : Int) % 18446744073709551616 = _
  omega
theorem wt_mul {i c : Nat} (hi : i < 10) (h : c * 2 ^ (7 * i) < 18446744073709551616) : IntKind.u64.wrap ((wt i : Int) * (c : Int)) = ((c * 2 ^ (7 * i) : Nat) : Int) := by
  rw [wt_eq hi, ← Int.natCast_mul, wrapN64, Nat.mul_comm, Nat.mod_eq_of_lt h]
theorem wt_next (i : Nat) : IntKind.u64.wrap ((wt i : Int) * 128) = ((wt (i + 1) : Nat) : Int) := by
  rw [show ((wt i : Int) * 128) = ((wt i * 128 : Nat) : Int) by simp, wrapN64]
  congr 1
  unfold wt
  rw [Nat.mod_mul_mod, show 7 * (i + 1) = 7 * i + 7 by omega, Nat.pow_add]
set_option maxHeartbeats 2000000 in
set_option maxRecDepth 100000 in
theorem ruint_calls (l : List UInt8) (k : Cap) (hl : l.length < 1099511627776) : LCalls Try.prog 32 [Bytes l k] [] (fun r H' => r = tup3 (decU l) ∧ H' = []) := by
  refine LCalls.of Try.func32 rfl Try.ntmps32 Try.results32 rfl (fun Rf => ?_)
  refine LW.seq ?_
  refine LW.region ?_
  refine X.u (LU.assignR Is.rfl') rfl ?_
  refine X.u (LU.assignR Is.rfl') rfl ?_
  refine X.u (LU.assignR Is.rfl') rfl ?_
  refine LL.nil (after_code ?_)
  refine LW.seq ?_
  refine LW.region ?_
  refine X.u (LU.assignR Is.rfl') rfl ?_
  refine LL.nil (after_code ?_)
  refine LW.seq ?_
  refine LW.region ?_
  refine X.u (LU.assignR Is.rfl') rfl ?_
  refine LL.nil (after_code ?_)
  refine LW.seq ?_
  refine LW.seq ?_
  refine LW.region ?_
  refine X.u (LU.assignR Is.rfl') rfl ?_
  refine LL.nil (after_code ?_)
  refine LW.block ?_
  refine X.loopK (α := Nat × Nat) (fun ⟨i, n⟩ => [(7, i64 i), (5, u64 n), (6, u64 (wt i))]) [0] (fun _ => _) (fun ⟨i, n⟩ => i ≤ 10 ∧ n < 2 ^ (7 * i) ∧ uN l (10 - i) i n = decU l) (fun ⟨i, n⟩ => 10 - i) ((0, 0)) (EnvLe.cons (by rfl) (EnvLe.cons (by rfl) (EnvLe.cons (by rfl) (EnvLe.nil)))) (HSub.refl _) ?_ ?_
  · exact ⟨by omega, by decide, rfl⟩
  · rintro ⟨i, n⟩ hI
    obtain ⟨hi, hn, hu⟩ := hI
    refine LW.seq ?_
    refine LW.seq ?_
    refine LW.region ?_
    refine X.u (LU.moveR Is.rfl') rfl ?_
    refine X.u (LU.lss Is.rfl' Is.rfl') rfl ?_
    refine LL.nil (after_code ?_)
    refine X.cond rfl (fun h4 => ?_) (fun h4 => ?_)
    · try have h4 := of_decide_eq_true h4
      refine LW.skip (after_code ?_)
      refine LW.seq ?_
      refine LW.block ?_
      refine LW.seq ?_
      refine LW.seq ?_
      refine LW.region ?_
      refine X.u (LU.moveR Is.rfl') rfl ?_
      refine X.u (LU.moveS Is.rfl') rfl ?_
      refine X.u (LU.lenN Try.underlying22 Is.rfl' (by (simp only [Option.getD_some, Option.getD_none, byteEls_length, intEls_length, List.length_append, List.length_cons, List.length_nil, List.length_map, List.length_drop, List.length_take, Int.toNat_natCast]; rfl))) rfl ?_
      refine X.u (LU.geq Is.rfl' Is.rfl') rfl ?_
      refine LL.nil (after_code ?_)
      refine X.cond rfl (fun h6 => ?_) (fun h6 => ?_)
      · try have h6 := of_decide_eq_true h6
        refine LW.seq ?_
        refine LW.region ?_
        refine X.u (LU.assignR Is.rfl') rfl ?_
        refine X.u (LU.assignR Is.rfl') rfl ?_
        refine X.u (LU.assignR Is.rfl') rfl ?_
        refine LL.nil (after_code ?_)
        refine LW.ret (ret_code (ret_blk (ret_code (ret_rnd (ret_blk (ret_code (after_end ?_)))))))
        refine X.ret (H' := []) (Res.three (by exact IsR rfl) (by exact IsR rfl) (by exact IsR rfl)) (by exact HSub.refl _) ?_
        exact ⟨by rw [← hu, uN_short (by omega) (by omega)]; rfl, rfl⟩
      · try have h6 := of_decide_eq_false h6
        have hil : i < l.length := by omega
        have hc256 : (l.getD i 0).toNat < 256 := (l.getD i 0).toNat_lt
        refine LW.skip (after_code ?_)
        refine LW.seq ?_
        refine LW.seq ?_
        refine LW.region ?_
        refine X.u (LU.moveR Is.rfl') rfl ?_
        refine X.u (LU.eql Is.rfl' Is.rfl') rfl ?_
        refine X.u (LU.moveR Is.rfl') rfl ?_
        refine X.gT rfl rfl (fun hg => LU.moveS (by exact Is.rfl')) rfl ?_
        refine X.gT rfl rfl (fun hg => LU.moveR (by exact Is.rfl')) rfl ?_
        refine X.gT rfl rfl (fun hg => LU.at Try.underlying22 ⟨Try.sizeOf5, Try.isAgg5⟩ (by exact Is.whenE hg) (by exact Is.whenE hg) (by omega) (byteEls_D i (by omega) (by omega)) (by simp)) rfl ?_
        refine X.gT rfl rfl (fun hg => LU.load ⟨Try.sizeOf5, Try.isAgg5⟩ (by exact Is.whenE hg) (by (simp; done)) (Part.one rfl)) rfl ?_
        refine X.gT rfl rfl (fun hg => LU.gtr (by exact Is.whenE hg) (by exact Is.rfl')) rfl ?_
        refine X.u (LU.pickAnd Is.rfl' (fun hq => (by exact Is.whenE hq)) Is.rfl') rfl ?_
        refine LL.nil (after_code ?_)
        refine X.cond rfl (fun h8 => ?_) (fun h8 => ?_)
        · try have h8 := of_decide_eq_true h8
          refine LW.seq ?_
          refine LW.region ?_
          refine X.u (LU.assignR Is.rfl') rfl ?_
          refine X.u (LU.assignR Is.rfl') rfl ?_
          refine X.u (LU.assignR Is.rfl') rfl ?_
          refine LL.nil (after_code ?_)
          refine LW.ret (ret_code (ret_blk (ret_code (ret_rnd (ret_blk (ret_code (after_end ?_)))))))
          refine X.ret (H' := []) (Res.three (by exact IsR rfl) (by exact IsR rfl) (by exact IsR rfl)) (by exact HSub.refl _) ?_
          exact ⟨by rw [← hu, uN_nine (by omega) (by omega) (by simp only [Bool.and_eq_true, decide_eq_true_eq] at h8; omega)]; rfl, rfl⟩
        · have h9 : ¬ (i = 9 ∧ 1 < (l.getD i 0).toNat) := by simp only [Bool.and_eq_false_imp, decide_eq_true_eq, decide_eq_false_iff_not] at h8; omega
          obtain ⟨hb1, hb2, hb3⟩ := uN_bound (by omega) hn h9
          refine LW.skip (after_code ?_)
          refine LW.seq ?_
          refine LW.region ?_
          refine X.u (LU.moveR Is.rfl') rfl ?_
          refine X.u (LU.moveR Is.rfl') rfl ?_
          refine X.u (LU.moveS Is.rfl') rfl ?_
          refine X.u (LU.moveR Is.rfl') rfl ?_
          refine X.u (LU.at Try.underlying22 ⟨Try.sizeOf5, Try.isAgg5⟩ Is.rfl' Is.rfl' (by omega) (byteEls_D i (by omega) (by omega)) (by simp)) rfl ?_
          refine X.u (LU.load ⟨Try.sizeOf5, Try.isAgg5⟩ Is.rfl' (by (simp; done)) (Part.one rfl)) rfl ?_
          refine X.u (LU.weak (LU.rem Is.rfl' Is.rfl' (by omega)) (Is.of (y := u8 ((l.getD i 0).toNat % 128)) (rfl))) rfl ?_
          refine X.u (LU.convN Try.underlying5 Try.underlying23 Is.rfl' (wrap_u64 (by omega) (by omega))) rfl ?_
          refine X.u (LU.weak (LU.mul Is.rfl' Is.rfl') (Is.of (y := u64 ((l.getD i 0).toNat % 128 * 2 ^ (7 * i))) (congrArg (fun z => LV.raw (.int .u64 z)) (wt_mul (by omega) hb3)))) rfl ?_
          refine X.u (LU.weak (LU.add Is.rfl' Is.rfl') (Is.of (y := u64 (n + (l.getD i 0).toNat % 128 * 2 ^ (7 * i))) (congrArg (fun z => LV.raw (.int .u64 z)) (by rw [← Int.natCast_add, wrapN64, Nat.mod_eq_of_lt hb1])))) rfl ?_
          refine X.u (LU.assignR Is.rfl') rfl ?_
          refine LL.nil (after_code ?_)
          refine LW.seq ?_
          refine LW.region ?_
          refine X.u (LU.moveR Is.rfl') rfl ?_
          refine X.u (LU.weak (LU.mul Is.rfl' Is.rfl') (Is.of (y := u64 (wt (i + 1))) (congrArg (fun z => LV.raw (.int .u64 z)) (wt_next i)))) rfl ?_
          refine X.u (LU.assignR Is.rfl') rfl ?_
          refine LL.nil (after_code ?_)
          refine LW.seq ?_
          refine LW.region ?_
          refine X.u (LU.moveS Is.rfl') rfl ?_
          refine X.u (LU.moveR Is.rfl') rfl ?_
          refine X.u (LU.at Try.underlying22 ⟨Try.sizeOf5, Try.isAgg5⟩ Is.rfl' Is.rfl' (by omega) (byteEls_D i (by omega) (by omega)) (by simp)) rfl ?_
          refine X.u (LU.load ⟨Try.sizeOf5, Try.isAgg5⟩ Is.rfl' (by (simp; done)) (Part.one rfl)) rfl ?_
          refine X.u (LU.lss Is.rfl' Is.rfl') rfl ?_
          refine LL.nil (after_code ?_)
          refine X.cond rfl (fun h12 => ?_) (fun h12 => ?_)
          · try have h12 := of_decide_eq_true h12
            refine LW.seq ?_
            refine LW.seq ?_
            refine LW.region ?_
            refine X.u (LU.moveS Is.rfl') rfl ?_
            refine X.u (LU.moveR Is.rfl') rfl ?_
            refine X.u (LU.at Try.underlying22 ⟨Try.sizeOf5, Try.isAgg5⟩ Is.rfl' Is.rfl' (by omega) (byteEls_D i (by omega) (by omega)) (by simp)) rfl ?_
            refine X.u (LU.load ⟨Try.sizeOf5, Try.isAgg5⟩ Is.rfl' (by (simp; done)) (Part.one rfl)) rfl ?_
            refine X.u (LU.eql Is.rfl' Is.rfl') rfl ?_
            refine X.u (LU.moveR Is.rfl') rfl ?_
            refine X.gT rfl rfl (fun hg => LU.moveR (by exact Is.rfl')) rfl ?_
            refine X.gT rfl rfl (fun hg => LU.gtr (by exact Is.whenE hg) (by exact Is.rfl')) rfl ?_
            refine X.u (LU.pickAnd Is.rfl' (fun hq => (by exact Is.whenE hq)) Is.rfl') rfl ?_
            refine LL.nil (after_code ?_)
            refine X.cond rfl (fun h13 => ?_) (fun h13 => ?_)
            · try have h13 := of_decide_eq_true h13
              refine LW.seq ?_
              refine LW.region ?_
              refine X.u (LU.assignR Is.rfl') rfl ?_
              refine X.u (LU.assignR Is.rfl') rfl ?_
              refine X.u (LU.assignR Is.rfl') rfl ?_
              refine LL.nil (after_code ?_)
              refine LW.ret (ret_code (ret_blk (ret_code (ret_rnd (ret_blk (ret_code (after_end ?_)))))))
              refine X.ret (H' := []) (Res.three (by exact IsR rfl) (by exact IsR rfl) (by exact IsR rfl)) (by exact HSub.refl _) ?_
              exact ⟨by rw [← hu, uN_zero (by omega) (by omega) h9 (by omega) (by simp only [Bool.and_eq_true, decide_eq_true_eq] at h13; omega)]; rfl, rfl⟩
            · try have h13 := of_decide_eq_false h13
              refine LW.skip (after_code ?_)
              refine LW.seq ?_
              refine LW.region ?_
              refine X.u (LU.moveR Is.rfl') rfl ?_
              refine X.u (LU.moveR Is.rfl') rfl ?_
              refine X.u (LU.addN Is.rfl' Is.rfl' (wrap_i64 (by omega) (by omega))) rfl ?_
              refine X.u (LU.assignR Is.rfl') rfl ?_
              refine X.u (LU.assignR Is.rfl') rfl ?_
              refine X.u (LU.assignR Is.rfl') rfl ?_
              refine LL.nil (after_code ?_)
              refine LW.ret (ret_blk (ret_code (ret_rnd (ret_blk (ret_code (after_end ?_))))))
              refine X.ret (H' := []) (Res.three (by exact IsR rfl) (by exact IsR rfl) (by exact IsR rfl)) (by exact HSub.refl _) ?_
              exact ⟨by rw [← hu, uN_last (by omega) (by omega) h9 (by omega) (by simp only [Bool.and_eq_false_imp, decide_eq_true_eq, decide_eq_false_iff_not] at h13; omega)]; rfl, rfl⟩
          · try have h12 := of_decide_eq_false h12
            refine LW.skip (after_blk (after_code ?_))
            refine LW.region ?_
            refine X.u (LU.moveR Is.rfl') rfl ?_
            refine X.u (LU.addN Is.rfl' Is.rfl' (wrap_i64 (by omega) (by omega))) rfl ?_
            refine X.u (LU.assignR Is.rfl') rfl ?_
            refine LL.nil (after_rnd ?_)
            refine X.next ((i + 1, n + (l.getD i 0).toNat % 128 * 2 ^ (7 * i))) rfl (EnvLe.cons (by rfl) (EnvLe.cons (by rfl) (EnvLe.cons (by rfl) (EnvLe.nil)))) (Keeps.cons (by exact Eq.trans (b := .sl _ _ _) rfl rfl) (Keeps.nil)) (HSub.refl _) ?_ ?_
            · exact ⟨by omega, (uN_bound (by omega) hn h9).2.1, by rw [← uN_next (by omega) (by omega) h9 (by omega)]; exact hu⟩
            · (simp; omega)
    · try have h4 := of_decide_eq_false h4
      obtain rfl : i = 10 := by omega
      refine LW.exit (exit_code (exit_rnd (exit_blk (after_code ?_))))
      refine LW.seq ?_
      refine LW.region ?_
      refine X.u (LU.assignR Is.rfl') rfl ?_
      refine X.u (LU.assignR Is.rfl') rfl ?_
      refine X.u (LU.assignR Is.rfl') rfl ?_
      refine LL.nil (after_code ?_)
      refine LW.ret (after_end ?_)
      refine X.ret (H' := []) (Res.three (by exact IsR rfl) (by exact IsR rfl) (by exact IsR rfl)) (by exact HSub.refl _) ?_
      exact ⟨by rw [← hu]; rfl, rfl⟩
set_option maxRecDepth 100000 in
theorem rtext_calls (l : List UInt8) (c : Cap) (most : Int) (hb : l.length < 1099511627776) (hm1 : -9223372036854775808 ≤ most) (hm2 : most < 9223372036854775808) : LCalls Try.prog 33 [Bytes l c, i64 most] [] (fun r H' => r = .tup [Str (txtU l most).1, i64 (txtU l most).2.1, i64 (txtU l most).2.2] ∧ H' = []) := by
  have hle := decU_le l
  have hok := decU_ok l
  have hnum := ruint_calls l c hb
  obtain ⟨⟨n, k, e⟩, hd⟩ : ∃ d, d = decU l := ⟨_, rfl⟩
  have hT : txtU l most = if e ≠ 0 then ([], 0, e) else if max most 0 < (n : Int) then ([], 0, 3) else if l.length - k < n then ([], 0, 10) else ((l.drop k).take n, k + n, 0) := by unfold txtU; rw [← hd]
  rw [← hd] at hle hok hnum
  simp only at hle hok
  rw [hT]
  have hnum2 : LCalls Try.prog 32 [Bytes l c] [] (fun r H' => r = .tup [u64 n, i64 k, i64 e] ∧ H' = []) := hnum
  refine LCalls.of Try.func33 rfl Try.ntmps33 Try.results33 rfl (fun Rf => ?_)
  refine LW.seq ?_
  refine LW.region ?_
  refine X.u (LU.assignR Is.rfl') rfl ?_
  refine X.u (LU.assignR Is.rfl') rfl ?_
  refine X.u (LU.assignR Is.rfl') rfl ?_
  refine LL.nil (after_code ?_)
  refine LW.seq ?_
  refine LW.region ?_
  refine X.u (LU.moveS Is.rfl') rfl ?_
  refine X.u (LU.call (hnum2) Try.func32 rfl rfl (Opds.cons Is.rfl' Opds.nil)) rfl ?_
  refine X.u (LU.moveT Is.rfl') rfl ?_
  refine X.u (LU.extract Is.rfl' rfl) rfl ?_
  refine X.u (LU.extract Is.rfl' rfl) rfl ?_
  refine X.u (LU.extract Is.rfl' rfl) rfl ?_
  refine X.u (LU.assignR Is.rfl') rfl ?_
  refine X.u (LU.assignR Is.rfl') rfl ?_
  refine X.u (LU.assignR Is.rfl') rfl ?_
  refine LL.nil (after_code ?_)
  refine LW.seq ?_
  refine LW.seq ?_
  refine LW.region ?_
  refine X.u (LU.moveR Is.rfl') rfl ?_
  refine X.u (LU.neq Is.rfl' Is.rfl') rfl ?_
  refine LL.nil (after_code ?_)
  refine X.cond rfl (fun h2 => ?_) (fun h2 => ?_)
  · have he : e ≠ 0 := by simp at h2; omega
    refine LW.seq ?_
    refine LW.region ?_
    refine X.u (LU.moveR Is.rfl') rfl ?_
    refine X.u (LU.assignR Is.rfl') rfl ?_
    refine X.u (LU.assignR Is.rfl') rfl ?_
    refine X.u (LU.assignR Is.rfl') rfl ?_
    refine LL.nil (after_code ?_)
    refine LW.ret (ret_code (after_end ?_))
    refine X.ret (H' := []) (Res.three (by exact IsR rfl) (by exact IsR rfl) (by exact IsR rfl)) (by exact HSub.refl _) ?_
    exact ⟨by rw [if_pos he]; rfl, rfl⟩
  · have he : e = 0 := by simp at h2; omega
    obtain ⟨ho1, ho2, ho3, ho4⟩ := hok.1 he
    refine LW.skip (after_code ?_)
    refine LW.seq ?_
    refine LW.seq ?_
    refine LW.region ?_
    refine X.u (LU.moveR Is.rfl') rfl ?_
    refine X.u (LU.lss Is.rfl' Is.rfl') rfl ?_
    refine LL.nil (after_code ?_)
    refine X.cond rfl (fun h4 => ?_) (fun h4 => ?_)
    · try have h4 := of_decide_eq_true h4
      refine LW.region ?_
      refine X.u (LU.assignR Is.rfl') rfl ?_
      refine LL.nil (after_code ?_)
      refine LW.seq ?_
      refine LW.seq ?_
      refine LW.region ?_
      refine X.u (LU.moveR Is.rfl') rfl ?_
      refine X.u (LU.moveR Is.rfl') rfl ?_
      refine X.u (LU.convN Try.underlying3 Try.underlying23 Is.rfl' (wrap_u64 (by omega) (by omega))) rfl ?_
      refine X.u (LU.gtr Is.rfl' Is.rfl') rfl ?_
      refine LL.nil (after_code ?_)
      refine X.cond rfl (fun h6 => ?_) (fun h6 => ?_)
      · try have h6 := of_decide_eq_true h6
        refine LW.seq ?_
        refine LW.region ?_
        refine X.u (LU.assignR Is.rfl') rfl ?_
        refine X.u (LU.assignR Is.rfl') rfl ?_
        refine X.u (LU.assignR Is.rfl') rfl ?_
        refine LL.nil (after_code ?_)
        refine LW.ret (ret_code (after_end ?_))
        refine X.ret (H' := []) (Res.three (by exact IsR rfl) (by exact IsR rfl) (by exact IsR rfl)) (by exact HSub.refl _) ?_
        exact ⟨by rw [if_neg (by omega), if_pos (by omega)]; rfl, rfl⟩
      · try have h6 := of_decide_eq_false h6
        refine LW.skip (after_code ?_)
        refine LW.seq ?_
        refine LW.seq ?_
        refine LW.region ?_
        refine X.u (LU.moveR Is.rfl') rfl ?_
        refine X.u (LU.moveS Is.rfl') rfl ?_
        refine X.u (LU.lenN Try.underlying22 Is.rfl' (by (simp only [Option.getD_some, Option.getD_none, byteEls_length, intEls_length, List.length_append, List.length_cons, List.length_nil, List.length_map, List.length_drop, List.length_take, Int.toNat_natCast]; rfl))) rfl ?_
        refine X.u (LU.moveR Is.rfl') rfl ?_
        refine X.u (LU.subN Is.rfl' Is.rfl' (wrap_i64 (by omega) (by omega))) rfl ?_
        refine X.u (LU.convN Try.underlying3 Try.underlying23 Is.rfl' (wrap_u64 (by omega) (by omega))) rfl ?_
        refine X.u (LU.gtr Is.rfl' Is.rfl') rfl ?_
        refine LL.nil (after_code ?_)
        refine X.cond rfl (fun h8 => ?_) (fun h8 => ?_)
        · try have h8 := of_decide_eq_true h8
          refine LW.seq ?_
          refine LW.region ?_
          refine X.u (LU.assignR Is.rfl') rfl ?_
          refine X.u (LU.assignR Is.rfl') rfl ?_
          refine X.u (LU.assignR Is.rfl') rfl ?_
          refine LL.nil (after_code ?_)
          refine LW.ret (ret_code (after_end ?_))
          refine X.ret (H' := []) (Res.three (by exact IsR rfl) (by exact IsR rfl) (by exact IsR rfl)) (by exact HSub.refl _) ?_
          exact ⟨by rw [if_neg (by omega), if_neg (by omega), if_pos (by omega)]; rfl, rfl⟩
        · try have h8 := of_decide_eq_false h8
          refine LW.skip (after_code ?_)
          refine LW.seq ?_
          refine LW.region ?_
          refine X.u (LU.moveS Is.rfl') rfl ?_
          refine X.u (LU.moveR Is.rfl') rfl ?_
          refine X.u (LU.moveR Is.rfl') rfl ?_
          refine X.u (LU.moveR Is.rfl') rfl ?_
          refine X.u (LU.convN Try.underlying23 Try.underlying3 Is.rfl' (wrap_i64 (by omega) (by omega))) rfl ?_
          refine X.u (LU.addN Is.rfl' Is.rfl' (wrap_i64 (by omega) (by omega))) rfl ?_
          refine X.u (LU.sliceB (i := some ((k : Nat) : Int)) (j := some ((k : Int) + n)) Try.sizeOf5 Try.underlying22 Is.rfl' ⟨_, Is.rfl'⟩ ⟨_, Is.rfl'⟩ (by simp only [Option.getD_some]; omega) (by simp only [Option.getD_some]; omega) (by simp only [Option.getD_some]; omega) (m := (l.drop k).take n) (by congr 1; simp only [Option.getD_some]; omega)) rfl ?_
          refine X.u (LU.tostr Try.underlying22 Try.underlying5 Try.underlying9 Is.rfl') rfl ?_
          refine X.u (LU.moveR Is.rfl') rfl ?_
          refine X.u (LU.moveR Is.rfl') rfl ?_
          refine X.u (LU.convN Try.underlying23 Try.underlying3 Is.rfl' (wrap_i64 (by omega) (by omega))) rfl ?_
          refine X.u (LU.weak (LU.addN Is.rfl' Is.rfl' (wrap_i64 (by omega) (by omega))) (Is.of (y := i64 ((k + n : Nat) : Int)) (rfl))) rfl ?_
          refine X.u (LU.assignR Is.rfl') rfl ?_
          refine X.u (LU.assignR Is.rfl') rfl ?_
          refine X.u (LU.assignR Is.rfl') rfl ?_
          refine LL.nil (after_code ?_)
          refine LW.ret (after_end ?_)
          refine X.ret (H' := []) (Res.three (by exact IsR rfl) (by exact IsR rfl) (by exact IsR rfl)) (by exact HSub.refl _) ?_
          exact ⟨by rw [if_neg (by omega), if_neg (by omega), if_neg (by omega)]; rfl, rfl⟩
    · try have h4 := of_decide_eq_false h4
      refine LW.skip (after_code ?_)
      refine LW.seq ?_
      refine LW.seq ?_
      refine LW.region ?_
      refine X.u (LU.moveR Is.rfl') rfl ?_
      refine X.u (LU.moveR Is.rfl') rfl ?_
      refine X.u (LU.convN Try.underlying3 Try.underlying23 Is.rfl' (wrap_u64 (by omega) (by omega))) rfl ?_
      refine X.u (LU.gtr Is.rfl' Is.rfl') rfl ?_
      refine LL.nil (after_code ?_)
      refine X.cond rfl (fun h6 => ?_) (fun h6 => ?_)
      · try have h6 := of_decide_eq_true h6
        refine LW.seq ?_
        refine LW.region ?_
        refine X.u (LU.assignR Is.rfl') rfl ?_
        refine X.u (LU.assignR Is.rfl') rfl ?_
        refine X.u (LU.assignR Is.rfl') rfl ?_
        refine LL.nil (after_code ?_)
        refine LW.ret (ret_code (after_end ?_))
        refine X.ret (H' := []) (Res.three (by exact IsR rfl) (by exact IsR rfl) (by exact IsR rfl)) (by exact HSub.refl _) ?_
        exact ⟨by rw [if_neg (by omega), if_pos (by omega)]; rfl, rfl⟩
      · try have h6 := of_decide_eq_false h6
        refine LW.skip (after_code ?_)
        refine LW.seq ?_
        refine LW.seq ?_
        refine LW.region ?_
        refine X.u (LU.moveR Is.rfl') rfl ?_
        refine X.u (LU.moveS Is.rfl') rfl ?_
        refine X.u (LU.lenN Try.underlying22 Is.rfl' (by (simp only [Option.getD_some, Option.getD_none, byteEls_length, intEls_length, List.length_append, List.length_cons, List.length_nil, List.length_map, List.length_drop, List.length_take, Int.toNat_natCast]; rfl))) rfl ?_
        refine X.u (LU.moveR Is.rfl') rfl ?_
        refine X.u (LU.subN Is.rfl' Is.rfl' (wrap_i64 (by omega) (by omega))) rfl ?_
        refine X.u (LU.convN Try.underlying3 Try.underlying23 Is.rfl' (wrap_u64 (by omega) (by omega))) rfl ?_
        refine X.u (LU.gtr Is.rfl' Is.rfl') rfl ?_
        refine LL.nil (after_code ?_)
        refine X.cond rfl (fun h8 => ?_) (fun h8 => ?_)
        · try have h8 := of_decide_eq_true h8
          refine LW.seq ?_
          refine LW.region ?_
          refine X.u (LU.assignR Is.rfl') rfl ?_
          refine X.u (LU.assignR Is.rfl') rfl ?_
          refine X.u (LU.assignR Is.rfl') rfl ?_
          refine LL.nil (after_code ?_)
          refine LW.ret (ret_code (after_end ?_))
          refine X.ret (H' := []) (Res.three (by exact IsR rfl) (by exact IsR rfl) (by exact IsR rfl)) (by exact HSub.refl _) ?_
          exact ⟨by rw [if_neg (by omega), if_neg (by omega), if_pos (by omega)]; rfl, rfl⟩
        · try have h8 := of_decide_eq_false h8
          refine LW.skip (after_code ?_)
          refine LW.seq ?_
          refine LW.region ?_
          refine X.u (LU.moveS Is.rfl') rfl ?_
          refine X.u (LU.moveR Is.rfl') rfl ?_
          refine X.u (LU.moveR Is.rfl') rfl ?_
          refine X.u (LU.moveR Is.rfl') rfl ?_
          refine X.u (LU.convN Try.underlying23 Try.underlying3 Is.rfl' (wrap_i64 (by omega) (by omega))) rfl ?_
          refine X.u (LU.addN Is.rfl' Is.rfl' (wrap_i64 (by omega) (by omega))) rfl ?_
          refine X.u (LU.sliceB (i := some ((k : Nat) : Int)) (j := some ((k : Int) + n)) Try.sizeOf5 Try.underlying22 Is.rfl' ⟨_, Is.rfl'⟩ ⟨_, Is.rfl'⟩ (by simp only [Option.getD_some]; omega) (by simp only [Option.getD_some]; omega) (by simp only [Option.getD_some]; omega) (m := (l.drop k).take n) (by congr 1; simp only [Option.getD_some]; omega)) rfl ?_
          refine X.u (LU.tostr Try.underlying22 Try.underlying5 Try.underlying9 Is.rfl') rfl ?_
          refine X.u (LU.moveR Is.rfl') rfl ?_
          refine X.u (LU.moveR Is.rfl') rfl ?_
          refine X.u (LU.convN Try.underlying23 Try.underlying3 Is.rfl' (wrap_i64 (by omega) (by omega))) rfl ?_
          refine X.u (LU.weak (LU.addN Is.rfl' Is.rfl' (wrap_i64 (by omega) (by omega))) (Is.of (y := i64 ((k + n : Nat) : Int)) (rfl))) rfl ?_
          refine X.u (LU.assignR Is.rfl') rfl ?_
          refine X.u (LU.assignR Is.rfl') rfl ?_
          refine X.u (LU.assignR Is.rfl') rfl ?_
          refine LL.nil (after_code ?_)
          refine LW.ret (after_end ?_)
          refine X.ret (H' := []) (Res.three (by exact IsR rfl) (by exact IsR rfl) (by exact IsR rfl)) (by exact HSub.refl _) ?_
          exact ⟨by rw [if_neg (by omega), if_neg (by omega), if_neg (by omega)]; rfl, rfl⟩
/-! ### what was handed over is spoilt -/
abbrev u8s (l : List UInt8) : List LV := l.map fun b => LV.raw (.int .u8 b.toNat)
theorem u8s_put {l : List UInt8} {rest : List LV} {k : Nat} {v : Nat} (hv : v < 256) (h : k < l.length) : putAt (u8s l ++ rest) (0 + (k : Int).toNat * 1) [u8 v] = u8s (l.set k (UInt8.ofNat v)) ++ rest := by
  rw [show 0 + (k : Int).toNat * 1 = k by omega, putAt_one _ _ _ (by simp; omega), List.set_append, if_pos (by simpa using h)]
  congr 1
  show (l.map _).set k (u8 v) = (l.set k (UInt8.ofNat v)).map _
  rw [List.map_set]
  congr 2
  simp
  omega
theorem u8s_at {l : List UInt8} {rest : List LV} {k : Nat} (h : k < l.length) : (u8s l ++ rest)[0 + (k : Int).toNat * 1]? = some (u8 (l.getD k 0).toNat) := by
  rw [show 0 + (k : Int).toNat * 1 = k by omega, List.getElem?_append_left (by simpa using h), List.getElem?_map, List.getElem?_eq_getElem h, List.getD_eq_getElem?_getD, List.getElem?_eq_getElem h]
  rfl
set_option maxRecDepth 100000 in
theorem spoil_calls (g c : Nat) (l : List UInt8) (rest : List LV) (hl : l.length < 1099511627776) : LCalls Try.prog 18 [.raw (.slice (some ⟨g, 0, none⟩) l.length c)] [.cells g 5 (u8s l ++ rest)] (fun r H' => ∃ m : List UInt8, m.length = l.length ∧ H' = [.cells g 5 (u8s m ++ rest)]) := by
  refine LCalls.of Try.func18 rfl Try.ntmps18 Try.results18 rfl (fun Rf => ?_)
  refine LW.seq ?_
  refine LW.region ?_
  refine X.u (LU.moveR Is.rfl') rfl ?_
  refine X.u (LU.lenO Try.underlying22 Is.rfl') rfl ?_
  refine X.u (LU.moveR Is.rfl') rfl ?_
  refine LL.nil (after_code ?_)
  refine LW.block ?_
  refine X.loopK (α := Nat × List UInt8) (fun ⟨i, m⟩ => [(5, i64 i)]) [0, 4] (fun ⟨i, m⟩ => .cells g 5 (u8s m ++ rest) :: Rf) (fun ⟨i, m⟩ => i ≤ l.length ∧ m.length = l.length) (fun ⟨i, m⟩ => l.length - i) ((0, l)) (EnvLe.cons (by rfl) (EnvLe.nil)) (by exact HSub.refl _) ?_ ?_
  · exact ⟨Nat.zero_le _, rfl⟩
  · rintro ⟨i, m⟩ hI
    obtain ⟨hi, hm⟩ := hI
    refine LW.seq ?_
    refine LW.region ?_
    refine X.u (LU.lss Is.rfl' Is.rfl') rfl ?_
    refine LL.nil (after_code ?_)
    refine LW.seq ?_
    refine X.cond rfl (fun h1 => ?_) (fun h1 => ?_)
    · try have h1 := of_decide_eq_true h1
      refine LW.skip (after_code ?_)
      refine LW.seq ?_
      refine LW.block ?_
      refine LW.seq ?_
      refine LW.region ?_
      refine X.u (LU.moveR Is.rfl') rfl ?_
      refine X.u (LU.assignR Is.rfl') rfl ?_
      refine LL.nil (after_code ?_)
      refine LW.region ?_
      refine X.u (LU.moveR Is.rfl') rfl ?_
      refine X.u (LU.moveR Is.rfl') rfl ?_
      refine X.u (LU.atO Try.underlying22 Try.sizeOf5 Is.rfl' Is.rfl' (by omega) (by omega)) rfl ?_
      refine X.u (LU.loadO 0 rfl ⟨Try.sizeOf5, Try.isAgg5⟩ Is.rfl' (Part.one (u8s_at (by omega)))) rfl ?_
      refine X.u (LU.xor8 Is.rfl' Is.rfl') rfl ?_
      refine X.u (LU.atO Try.underlying22 Try.sizeOf5 Is.rfl' Is.rfl' (by omega) (by omega)) rfl ?_
      refine X.act (X.store 0 rfl Try.sizeOf5 Is.rfl' Is.rfl' (by exact Cells.raw rfl) (by (simp; done)) (by (simp; omega)) ?_)
      refine LL.nil (after_blk (after_code ?_))
      refine X.wcells (u8s_put (xor8_lt _ _) (by omega)) ?_
      refine LW.region ?_
      refine X.u (LU.addN Is.rfl' Is.rfl' (wrap_i64 (by omega) (by omega))) rfl ?_
      refine X.u (LU.moveR Is.rfl') rfl ?_
      refine LL.nil (after_rnd ?_)
      refine X.next ((i + 1, m.set i (UInt8.ofNat (xor8 (m.getD i 0).toNat 85)))) rfl (EnvLe.cons (by rfl) (EnvLe.nil)) (Keeps.cons (by exact Eq.trans (b := .raw _) rfl rfl) (Keeps.cons (by exact Eq.trans (b := .raw _) rfl rfl) (Keeps.nil))) (by exact HSub.refl _) ?_ ?_
      · exact ⟨by omega, by simpa using hm⟩
      · (simp; omega)
    · try have h1 := of_decide_eq_false h1
      refine LW.exit (exit_code (exit_rnd (exit_blk (after_end ?_))))
      refine X.normal (H' := [.cells g 5 (u8s m ++ rest)]) Res.none (by exact HSub.refl _) ?_
      exact ⟨m, hm, rfl⟩
set_option maxRecDepth 100000 in
/-- A reader over bytes whose cells are owned. -/
theorem over2_calls (g c : Nat) (b : List UInt8) (rest : List LV) (hb : b.length < 1099511627776) (hc : b.length ≤ c) : LCalls Try.prog 25 [.raw (.slice (some ⟨g, 0, none⟩) b.length c)] [.cells g 5 (u8s b ++ rest)] (fun r H' => ∃ g2, r = pt g2 ∧ H' = [rd g2 b 0, .cells g 5 (u8s b ++ rest)]) := by
  refine LCalls.of Try.func25 rfl Try.ntmps25 Try.results25 rfl (fun Rf => ?_)
  refine LW.seq ?_
  refine LW.region ?_
  refine X.u (LU.assignR Is.rfl') rfl ?_
  refine LL.nil (after_code ?_)
  refine LW.seq ?_
  refine LW.region ?_
  refine X.u (LU.lits Try.underlying22 Try.sizeOf5 Try.zeroValue5 (ones rfl) rfl (by decide) (by decide) Elems.nil (by intro e he; cases he) rfl) rfl ?_
  refine X.u (LU.moveR Is.rfl') rfl ?_
  refine X.ghost (HSub.tail0 0 0 0 (Nat.le_refl _) _) ?_
  refine X.weak (t := 3) (v := Bytes [] (.tok 0 0 0)) (Is.full_tok 0 0) ?_
  refine X.act (X.appendG (A0 := [.cells g 5 (u8s b ++ rest)]) 0 rfl rfl Try.underlying22 (El.of (P := Try.prog) (z := .int .u8 0) (size := 1) (bytes := 1) rfl rfl rfl) Is.rfl' Is.rfl' (by simp) (SrcG.cells (ys := byteEls b) Try.underlying22 (by decide) (byteEls_size b) (byteEls_length b) (by simp) (by simp [byteEls_flat]) hc) (by simp only [byteEls_length, List.length_nil]; omega) (by simp only [byteEls_length, List.length_nil]; omega) (fun b5 o5 c5 => ?_))
  refine X.weak (t := 5) (v := Bytes b (.tok b5 o5 c5)) (Is.of (rfl)) ?_
  refine X.u (LU.build (places := #[(0, 1), (1, 1), (2, 1)]) Try.underlying71 Try.zeroValue71 (ones rfl) (by intro w; simp [Try.sizeOf22, Try.sizeOf3, Try.sizeOf4]) (Parts.cons Is.rfl' (by exact Cells.raw rfl) (Parts.cons Is.rfl' (by exact Cells.sl) (Parts.cons Is.rfl' (by exact Cells.raw rfl) Parts.nil))) rfl) rfl ?_
  refine X.u (LU.build (places := #[(0, 3)]) Try.underlying73 Try.zeroValue73 (ones rfl) (by intro w; simp [Try.sizeOf71]) (Parts.cons Is.rfl' (by exact Cells.agg) Parts.nil) rfl) rfl ?_
  refine X.act (X.box rfl Is.rfl' (by exact Cells.agg) (fun b8 => ?_))
  refine X.u (LU.assignR Is.rfl') rfl ?_
  refine LL.nil (after_code ?_)
  refine LW.ret (after_end ?_)
  refine X.ret (H' := [rd b8 b 0, .cells g 5 (u8s b ++ rest)]) (Res.one (by exact IsR rfl)) (HSub.trans (HSub.cell 1 rfl Is.unk) (by repeat (first | exact HSub.refl _ | refine HSub.pick 0 rfl ?_ | refine HSub.pick 1 rfl ?_ | refine HSub.pick 2 rfl ?_ | refine HSub.pick 3 rfl ?_ | refine HSub.pick 4 rfl ?_ | refine HSub.drop ?_))) ?_
  exact ⟨b8, rfl, rfl⟩
theorem numB_300 : numB 300 = [172, 2] := by rw [numB_big (by decide), numB_small (by decide)]; rfl
theorem txtB_ab : txtB [97, 98] = [2, 97, 98] := by unfold txtB; rw [show ([97, 98] : List UInt8).length = 2 from rfl, numB_small (by decide)]; rfl
set_option maxRecDepth 100000 in
theorem lives1_calls : LCalls Try.prog 13 [] [] (fun r H' => r = bl true ∧ H' = []) := by
  refine LCalls.of Try.func13 rfl Try.ntmps13 Try.results13 rfl (fun Rf => ?_)
  refine LW.seq ?_
  refine LW.region ?_
  refine X.u (LU.assignR Is.rfl') rfl ?_
  refine LL.nil (after_code ?_)
  refine LW.seq ?_
  refine LW.region ?_
  refine X.act (X.call (put_calls [] .full 300 (by decide) (by decide)) Try.func14 rfl rfl rfl (HSub.refl _) (Opds.cons (Is.nil 1) (Opds.cons Is.rfl' Opds.nil)) ?_)
  rintro r H' ⟨tb, to, tc, rfl, rfl⟩
  refine X.u (LU.assignS Is.rfl') rfl ?_
  refine LL.nil (after_code ?_)
  refine LW.seq ?_
  refine LW.region ?_
  refine X.u (LU.moveS Is.rfl') rfl ?_
  refine X.u (LU.weak (LU.tostr Try.underlying22 Try.underlying5 Try.underlying9 Is.rfl') (Is.of (y := Str [172, 2]) (by rw [List.nil_append, numB_300]; try rfl))) rfl ?_
  refine X.u (LU.weak (LU.streqN Is.rfl' Is.rfl') (asB (c := true) rfl (by decide))) rfl ?_
  refine X.u (LU.moveR Is.rfl') rfl ?_
  refine X.actG rfl rfl (X.call (ptext_calls [] .full [97, 98] (by decide) (by decide)) Try.func15 rfl rfl rfl (HSub.refl _) (Opds.cons (Is.nil 1) (Opds.cons (by exact Is.rfl') Opds.nil)) ?_)
  rintro r H' ⟨tb2, to2, tc2, rfl, rfl⟩
  refine X.doT rfl rfl (LU.weak (LU.tostr Try.underlying22 Try.underlying5 Try.underlying9 (by exact Is.rfl')) (Is.of (y := Str [2, 97, 98]) (by rw [List.nil_append, txtB_ab]; try rfl))) rfl ?_
  refine X.doT rfl rfl (LU.weak (LU.streqN (by exact Is.rfl') (by exact Is.rfl')) (asB (c := true) rfl (by decide))) rfl ?_
  refine X.u (LU.pickT Is.rfl' (by exact Is.rfl')) rfl ?_
  refine X.u (LU.moveR Is.rfl') rfl ?_
  refine X.u (LU.pickT Is.rfl' (by exact Is.rfl')) rfl ?_
  refine X.u (LU.moveR Is.rfl') rfl ?_
  refine X.u (LU.pickT Is.rfl' (by exact Is.rfl')) rfl ?_
  refine X.u (LU.moveR Is.rfl') rfl ?_
  refine X.u (LU.pickT Is.rfl' (by exact Is.rfl')) rfl ?_
  refine X.u (LU.moveR Is.rfl') rfl ?_
  refine X.u (LU.pickT Is.rfl' (by exact Is.rfl')) rfl ?_
  refine X.u (LU.assignR Is.rfl') rfl ?_
  refine LL.nil (after_code ?_)
  refine LW.ret (after_end ?_)
  refine X.ret (H' := []) (Res.one (by exact IsR rfl)) (by repeat (first | exact HSub.refl _ | refine HSub.pick 0 rfl ?_ | refine HSub.pick 1 rfl ?_ | refine HSub.pick 2 rfl ?_ | refine HSub.pick 3 rfl ?_ | refine HSub.pick 4 rfl ?_ | refine HSub.drop ?_)) ?_
  exact ⟨rfl, rfl⟩
end Go.Proofs.Ytahecnlglcfddaa
