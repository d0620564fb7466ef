/- The document's digest of bytes. -/
import Derived.Test.YtnfeepmgdahmgaaDoorHsG
set_option linter.unusedVariables false
set_option linter.unusedSimpArgs false
namespace Go.Proofs.YtnfeepmgdahmgaaDoor
open Go.RowKit Go.L
attribute [local irreducible] LL LW LO
set_option maxRecDepth 100000 in
theorem refhash_calls (b : List UInt8) (k : Cap) (hb : b.length < 1099511627776) : LCalls Tryd.prog 73 [Bytes b k] [] (fun r H' => r = D32 (sha b) ∧ H' = []) := by
  obtain ⟨M, hM⟩ : ∃ M, M = pad b (b.length * 8) := ⟨_, rfl⟩
  have hM64 : M.length % 64 = 0 := by rw [hM]; exact pad_64 _ _
  have hMl : M.length = b.length + 9 + zs b.length := by rw [hM, pad_len]
  have hz : zs b.length < 64 := by unfold zs; omega
  refine LCalls.of Tryd.func73 rfl Tryd.ntmps73 Tryd.results73 rfl (fun Rf => ?_)
  refine LW.seq ?_
  refine LW.region ?_
  refine X.act (X.alloc rfl Tryd.zeroValue95 (by exact Cells.rawagg (by decide)) (fun b2 => ?_))
  refine LL.nil (after_code ?_)
  refine LW.seq ?_
  rw [show raws _ = (obs st0 0).map u8 by rw [obs_0]; rfl]
  refine LW.region ?_
  refine X.u (LU.lits Tryd.underlying22 Tryd.sizeOf5 Tryd.zeroValue5 (ones rfl) rfl (by decide) (by decide) Elems.nil (by intro e he; cases he) rfl) rfl ?_
  refine X.u (LU.moveS Is.rfl') rfl ?_
  refine X.act (X.appendF rfl Tryd.underlying22 (El.of (P := Tryd.prog) (z := (.int .u8 0)) (size := 1) (bytes := 1) rfl rfl rfl) Is.rfl' Is.rfl' (SrcL.slice Tryd.underlying22 (by decide) (by exact byteEls_size _)) (by simp only [Option.getD_some, Option.getD_none, byteEls_length, intEls_length, List.length_append, List.length_cons, List.length_nil, List.length_map, List.length_drop, List.length_take, Int.toNat_natCast]; omega) (by simp only [Option.getD_some, Option.getD_none, byteEls_length, intEls_length, List.length_append, List.length_cons, List.length_nil, List.length_map, List.length_drop, List.length_take, Int.toNat_natCast]; omega) (fun b13 o13 c13 => ?_))
  refine X.weak (t := 13) (v := Bytes b (.tok b13 o13 c13)) (Is.of (rfl)) ?_
  refine X.u (LU.lits Tryd.underlying22 Tryd.sizeOf5 Tryd.zeroValue5 (ones rfl) rfl (by decide) (by decide) (Elems.cons Is.rfl' (by exact Cells.raw rfl) Elems.nil) (by (simp; done)) rfl) rfl ?_
  refine X.act (X.append 0 rfl rfl Tryd.underlying22 (El.of (P := Tryd.prog) (z := (.int .u8 0)) (size := 1) (bytes := 1) rfl rfl rfl) Is.rfl' Is.rfl' (SrcL.slice Tryd.underlying22 (by decide) (by (intro e he; simp [chunks] at he; simp [he]; done))) (by simp only [Option.getD_some, Option.getD_none, byteEls_length, intEls_length, List.length_append, List.length_cons, List.length_nil, List.length_map, List.length_drop, List.length_take, Int.toNat_natCast]; omega) (by simp only [Option.getD_some, Option.getD_none, byteEls_length, intEls_length, List.length_append, List.length_cons, List.length_nil, List.length_map, List.length_drop, List.length_take, Int.toNat_natCast]; omega) (fun b15 o15 c15 => X.weak (t := 15) (Is.of (y := Bytes (b ++ [128]) (.tok b15 o15 c15)) (snoc8 b 128 128 rfl _)) ?_))
  refine X.u (LU.assignS Is.rfl') rfl ?_
  refine LL.nil (after_code ?_)
  refine LW.seq ?_
  refine LW.block ?_
  refine X.wweak (t := 3) (v := Bytes (b ++ [128] ++ List.replicate 0 0) (.tok b15 o15 c15)) (by rw [List.replicate_zero, List.append_nil]; exact Is.rfl') ?_
  refine X.loopK (α := Nat × Nat × Nat × Nat) (fun ⟨j, tb, to, tc⟩ => [(3, Bytes (b ++ [128] ++ List.replicate j 0) (.tok tb to tc))]) [0, 2] (fun ⟨j, tb, to, tc⟩ => [.tail tb to tc, .cells b2 95 ((obs st0 0).map u8)] ++ Rf) (fun ⟨j, tb, to, tc⟩ => j ≤ zs b.length) (fun ⟨j, tb, to, tc⟩ => zs b.length - j) ((0, b15, o15, c15)) (EnvLe.cons (by rfl) (EnvLe.nil)) (by repeat (exact HSub.refl _)) ?_ ?_
  · exact Nat.zero_le _
  · rintro ⟨j, tb, to, tc⟩ hI
    have hjl : (List.replicate j (0 : UInt8)).length = j := by simp
    refine LW.seq ?_
    refine LW.seq ?_
    refine LW.region ?_
    refine X.u (LU.moveS Is.rfl') rfl ?_
    refine X.u (LU.lenN Tryd.underlying22 Is.rfl' (by (simp only [Option.getD_some, Option.getD_none, byteEls_length, intEls_length, List.length_append, List.length_cons, List.length_nil, List.length_map, List.length_drop, List.length_take, Int.toNat_natCast]; rfl))) rfl ?_
    refine X.u (LU.rem Is.rfl' Is.rfl' (by omega)) rfl ?_
    refine X.u (LU.neq Is.rfl' Is.rfl') rfl ?_
    refine LL.nil (after_code ?_)
    refine X.cond rfl (fun h2 => ?_) (fun h2 => ?_)
    · simp only [Bool.not_eq_true', decide_eq_false_iff_not] at h2
      rw [Int.tmod_eq_emod_of_nonneg (by omega)] at h2
      have hj2 : j < zs b.length := by unfold zs at *; omega
      refine LW.skip (after_code ?_)
      refine LW.block ?_
      refine LW.region ?_
      refine X.u (LU.moveS Is.rfl') rfl ?_
      refine X.u (LU.lits Tryd.underlying22 Tryd.sizeOf5 Tryd.zeroValue5 (ones rfl) rfl (by decide) (by decide) (Elems.cons Is.rfl' (by exact Cells.raw rfl) Elems.nil) (by (simp; done)) rfl) rfl ?_
      refine X.act (X.append 0 rfl rfl Tryd.underlying22 (El.of (P := Tryd.prog) (z := (.int .u8 0)) (size := 1) (bytes := 1) rfl rfl rfl) Is.rfl' Is.rfl' (SrcL.slice Tryd.underlying22 (by decide) (by (intro e he; simp [chunks] at he; simp [he]; done))) (by simp only [Option.getD_some, Option.getD_none, byteEls_length, intEls_length, List.length_append, List.length_cons, List.length_nil, List.length_map, List.length_drop, List.length_take, Int.toNat_natCast]; omega) (by simp only [Option.getD_some, Option.getD_none, byteEls_length, intEls_length, List.length_append, List.length_cons, List.length_nil, List.length_map, List.length_drop, List.length_take, Int.toNat_natCast]; omega) (fun b22 o22 c22 => X.weak (t := 22) (Is.of (y := Bytes (b ++ [128] ++ List.replicate (j + 1) 0) (.tok b22 o22 c22)) ((snoc8 _ 0 0 rfl _).trans (congrArg (fun z => Bytes z _) (rep_snoc _ j)))) ?_))
      refine X.u (LU.assignS Is.rfl') rfl ?_
      refine LL.nil (after_blk (after_rnd ?_))
      refine X.next ((j + 1, b22, o22, c22)) rfl (EnvLe.cons (by rfl) (EnvLe.nil)) (Keeps.cons (by exact Eq.trans (b := .sl _ _ _) rfl rfl) (Keeps.cons (by exact Eq.trans (b := .raw _) rfl rfl) (Keeps.nil))) (by repeat (exact HSub.refl _)) ?_ ?_
      · omega
      · (simp; omega)
    · simp only [Bool.not_eq_false', decide_eq_true_eq] at h2
      rw [Int.tmod_eq_emod_of_nonneg (by omega)] at h2
      obtain rfl : j = zs b.length := by unfold zs at *; omega
      refine LW.exit (exit_code (exit_rnd (exit_blk (after_code ?_))))
      refine LW.seq ?_
      refine LW.region ?_
      refine X.u (LU.moveS Is.rfl') rfl ?_
      refine X.u (LU.lenN Tryd.underlying22 Is.rfl' (by (simp only [Option.getD_some, Option.getD_none, byteEls_length, intEls_length, List.length_append, List.length_cons, List.length_nil, List.length_map, List.length_drop, List.length_take, Int.toNat_natCast]; rfl))) rfl ?_
      refine X.u (LU.convN Tryd.underlying3 Tryd.underlying152 Is.rfl' (wrap_u64 (by omega) (by omega))) rfl ?_
      refine X.u (LU.weak (LU.mul Is.rfl' Is.rfl') (Is.of (y := u64 (b.length * 8)) (by rw [wrap_u64 (by omega) (by omega)]; rfl))) rfl ?_
      refine X.u (LU.assignR Is.rfl') rfl ?_
      refine LL.nil (after_code ?_)
      refine LW.seq ?_
      refine LW.seq ?_
      refine LW.region ?_
      refine X.u (LU.assignR Is.rfl') rfl ?_
      refine LL.nil (after_code ?_)
      refine LW.block ?_
      refine X.wweak (t := 3) (v := Bytes (b ++ [128] ++ List.replicate (zs b.length) 0 ++ be8 (b.length * 8) 0) (.tok tb to tc)) (by rw [be8, List.append_nil]; exact Is.rfl') ?_
      refine X.loopK (α := Nat × Nat × Nat × Nat) (fun ⟨i, tb, to, tc⟩ => [(5, i64 (7 - (i : Int))), (3, Bytes (b ++ [128] ++ List.replicate (zs b.length) 0 ++ be8 (b.length * 8) i) (.tok tb to tc))]) [2, 4] (fun ⟨i, tb, to, tc⟩ => [.tail tb to tc, .cells b2 95 ((obs st0 0).map u8)] ++ Rf) (fun ⟨i, tb, to, tc⟩ => i ≤ 8) (fun ⟨i, tb, to, tc⟩ => 8 - i) ((0, tb, to, tc)) (EnvLe.cons (by rfl) (EnvLe.cons (by rfl) (EnvLe.nil))) (by repeat (exact HSub.refl _)) ?_ ?_
      · exact Nat.zero_le _
      · rintro ⟨i, tb, to, tc⟩ hI
        have hb8 := be8_len (b.length * 8) i
        have hjz : (List.replicate (zs b.length) (0 : UInt8)).length = zs b.length := by simp
        refine LW.seq ?_
        refine LW.seq ?_
        refine LW.region ?_
        refine X.u (LU.moveR Is.rfl') rfl ?_
        refine X.u (LU.geq Is.rfl' Is.rfl') rfl ?_
        refine LL.nil (after_code ?_)
        refine X.cond rfl (fun h6 => ?_) (fun h6 => ?_)
        · try have h6 := of_decide_eq_true h6
          refine LW.skip (after_code ?_)
          refine LW.seq ?_
          refine LW.block ?_
          refine LW.region ?_
          refine X.u (LU.moveS Is.rfl') rfl ?_
          refine X.u (LU.moveR Is.rfl') rfl ?_
          refine X.u (LU.moveR Is.rfl') rfl ?_
          refine X.u (LU.mulN Is.rfl' Is.rfl' (wrap_i64 (by omega) (by omega))) rfl ?_
          refine X.u (LU.convN Tryd.underlying3 Tryd.underlying53 Is.rfl' (wrap_u64 (by omega) (by omega))) rfl ?_
          refine X.u (LU.shrN (n := 64) Is.rfl' Is.rfl' (by omega) rfl (by omega)) rfl ?_
          refine X.u (LU.to8 Tryd.underlying152 Tryd.underlying5 Is.rfl') rfl ?_
          refine X.u (LU.lits Tryd.underlying22 Tryd.sizeOf5 Tryd.zeroValue5 (ones rfl) rfl (by decide) (by decide) (Elems.cons Is.rfl' (by exact Cells.raw rfl) Elems.nil) (by (simp; done)) rfl) rfl ?_
          refine X.act (X.append 0 rfl rfl Tryd.underlying22 (El.of (P := Tryd.prog) (z := (.int .u8 0)) (size := 1) (bytes := 1) rfl rfl rfl) Is.rfl' Is.rfl' (SrcL.slice Tryd.underlying22 (by decide) (by (intro e he; simp [chunks] at he; simp [he]; done))) (by simp only [Option.getD_some, Option.getD_none, byteEls_length, intEls_length, List.length_append, List.length_cons, List.length_nil, List.length_map, List.length_drop, List.length_take, Int.toNat_natCast]; omega) (by simp only [Option.getD_some, Option.getD_none, byteEls_length, intEls_length, List.length_append, List.length_cons, List.length_nil, List.length_map, List.length_drop, List.length_take, Int.toNat_natCast]; omega) (fun b39 o39 c39 => X.weak (t := 39) (Is.of (y := Bytes (b ++ [128] ++ List.replicate (zs b.length) 0 ++ be8 (b.length * 8) (i + 1)) (.tok b39 o39 c39)) ((snoc8 _ (UInt8.ofNat (b.length * 8 / 2 ^ (8 * (7 - i)))) _ (by rw [show (8 * (7 - (i : Int))).toNat = 8 * (7 - i) by omega]; simp) _).trans (congrArg (fun z => Bytes z _) (be8_snoc _ _ _)))) ?_))
          refine X.u (LU.assignS Is.rfl') rfl ?_
          refine LL.nil (after_blk (after_code ?_))
          refine LW.region ?_
          refine X.u (LU.moveR Is.rfl') rfl ?_
          refine X.u (LU.subN Is.rfl' Is.rfl' (wrap_i64 (by omega) (by omega))) rfl ?_
          refine X.u (LU.assignR Is.rfl') rfl ?_
          refine LL.nil (after_rnd ?_)
          refine X.next ((i + 1, b39, o39, c39)) rfl (EnvLe.cons (by exact raw_int (by omega)) (EnvLe.cons (by rfl) (EnvLe.nil))) (Keeps.cons (by exact Eq.trans (b := .raw _) rfl rfl) (Keeps.cons (by exact Eq.trans (b := .raw _) rfl rfl) (Keeps.nil))) (by repeat (exact HSub.refl _)) ?_ ?_
          · omega
          · (simp; omega)
        · try have h6 := of_decide_eq_false h6
          obtain rfl : i = 8 := by omega
          refine LW.exit (exit_code (exit_rnd (exit_blk (after_code ?_))))
          refine LW.seq ?_
          refine LW.region ?_
          refine X.u (LU.buildA1 (vs := [_, _, _, _, _, _, _, _]) Tryd.underlying154 Tryd.sizeOf153 Tryd.zeroValue154 (ones rfl) (Parts.cons Is.rfl' (by exact Cells.raw rfl) (Parts.cons Is.rfl' (by exact Cells.raw rfl) (Parts.cons Is.rfl' (by exact Cells.raw rfl) (Parts.cons Is.rfl' (by exact Cells.raw rfl) (Parts.cons Is.rfl' (by exact Cells.raw rfl) (Parts.cons Is.rfl' (by exact Cells.raw rfl) (Parts.cons Is.rfl' (by exact Cells.raw rfl) (Parts.cons Is.rfl' (by exact Cells.raw rfl) Parts.nil)))))))) rfl) rfl ?_
          refine X.act (X.alloc rfl Tryd.zeroValue154 (by exact Cells.rawagg (by decide)) (fun b6 => ?_))
          refine X.act (X.store 0 rfl Tryd.sizeOf154 Is.rfl' Is.rfl' (by exact Cells.agg) (by (simp; done)) (by exact Nat.le_of_ble_eq_true rfl) ?_)
          refine LL.nil (after_code ?_)
          refine LW.seq ?_
          refine X.wcells (ys := (eat 0 st0 M).l.map u32) (by rw [putAt_all (by simp [raws]), eat_0]; rfl) ?_
          refine LW.region ?_
          refine X.u (LU.call (roots_calls) Tryd.func88 rfl rfl Opds.nil) rfl ?_
          refine X.act (X.alloc rfl Tryd.zeroValue155 (by exact Cells.rawagg (by decide)) (fun b7 => ?_))
          refine X.act (X.store 0 rfl Tryd.sizeOf155 Is.rfl' Is.rfl' (by exact Cells.agg) (by (simp; done)) (by exact Nat.le_of_ble_eq_true rfl) ?_)
          refine LL.nil (after_code ?_)
          refine LW.seq ?_
          refine LW.seq ?_
          rw [putAt_all (by simp [raws])]
          refine LW.region ?_
          refine X.u (LU.assignR Is.rfl') rfl ?_
          refine LL.nil (after_code ?_)
          refine LW.block ?_
          refine X.wweak (t := 3) (v := Bytes M .unk) (by rw [hM]; exact Is.unk) ?_
          refine X.loopK (α := Nat) (fun j => [(8, i64 (64 * j))]) [2, 3, 6, 7] (fun j => .cells b6 154 ((eat j st0 M).l.map u32) :: .cells b7 155 (Kw.map u32) :: .cells b2 95 ((obs st0 0).map u8) :: Rf) (fun j => j ≤ M.length / 64) (fun j => M.length / 64 - j) (0) (EnvLe.cons (by rfl) (EnvLe.nil)) (by repeat (first | exact HSub.refl _ | refine HSub.pick 0 rfl ?_ | refine HSub.pick 1 rfl ?_ | refine HSub.drop ?_)) ?_ ?_
          · exact Nat.zero_le _
          · rintro j hI
            refine LW.seq ?_
            refine LW.seq ?_
            refine LW.region ?_
            refine X.u (LU.moveR Is.rfl') rfl ?_
            refine X.u (LU.moveS Is.rfl') rfl ?_
            refine X.u (LU.lenN Tryd.underlying22 Is.rfl' (by (simp only [Option.getD_some, Option.getD_none, byteEls_length, intEls_length, List.length_append, List.length_cons, List.length_nil, List.length_map, List.length_drop, List.length_take, Int.toNat_natCast]; rfl))) rfl ?_
            refine X.u (LU.lss Is.rfl' Is.rfl') rfl ?_
            refine LL.nil (after_code ?_)
            refine X.cond rfl (fun h12 => ?_) (fun h12 => ?_)
            · try have h12 := of_decide_eq_true h12
              refine LW.skip (after_code ?_)
              refine LW.seq ?_
              refine LW.block ?_
              refine X.drawM 8 rfl (by kernel_rfl) rfl ?_
              refine QD.u (LU.loadO 0 rfl ⟨Tryd.sizeOf154, Tryd.isAgg154⟩ Is.rfl' (Part.whole (by simp))) rfl ?_
              refine QD.u (LU.moveS Is.rfl') rfl ?_
              refine QD.u (LU.moveR Is.rfl') rfl ?_
              refine QD.u (LU.moveR Is.rfl') rfl ?_
              refine QD.u (LU.addN Is.rfl' Is.rfl' (wrap_i64 (by omega) (by omega))) rfl ?_
              refine QD.u (LU.sliceB (i := some (64 * (j : Int))) (j := some (64 * (j : Int) + 64)) Tryd.sizeOf5 Tryd.underlying22 Is.rfl' ⟨_, Is.rfl'⟩ ⟨_, Is.rfl'⟩ (by simp; omega) (by simp; omega) (by simp; omega) (m := (M.drop (64 * j)).take 64) (by simp; congr 2 <;> omega)) rfl ?_
              refine QD.u (LU.loadO 1 rfl ⟨Tryd.sizeOf155, Tryd.isAgg155⟩ Is.rfl' (Part.whole (by simp))) rfl ?_
              refine QD.u (LU.call (refblock_calls (eat j st0 M) ((M.drop (64 * j)).take 64) _ (by simp; omega)) Tryd.func89 rfl rfl (Opds.cons Is.rfl' (Opds.cons Is.rfl' (Opds.cons Is.rfl' Opds.nil)))) rfl ?_
              refine QD.nil ?_
              refine X.act (X.store 0 rfl Tryd.sizeOf154 Is.rfl' Is.rfl' (by exact Cells.agg) (by (simp; done)) (by (simp; done)) ?_)
              refine LL.nil (after_blk (after_code ?_))
              refine X.wcells (ys := (eat (j + 1) st0 M).l.map u32) (by rw [putAt_all (by simp), eat_snoc]) ?_
              refine LW.region ?_
              refine X.u (LU.moveR Is.rfl') rfl ?_
              refine X.u (LU.addN Is.rfl' Is.rfl' (wrap_i64 (by omega) (by omega))) rfl ?_
              refine X.u (LU.assignR Is.rfl') rfl ?_
              refine LL.nil (after_rnd ?_)
              refine X.next (j + 1) rfl (EnvLe.cons (by rfl) (EnvLe.nil)) (Keeps.cons (by exact Eq.trans (b := .raw _) rfl rfl) (Keeps.cons (by exact Eq.trans (b := .sl _ _ _) rfl rfl) (Keeps.cons (by exact Eq.trans (b := .raw _) rfl rfl) (Keeps.cons (by exact Eq.trans (b := .raw _) rfl rfl) (Keeps.nil))))) (by repeat (exact HSub.refl _)) ?_ ?_
              · omega
              · omega
            · try have h12 := of_decide_eq_false h12
              obtain rfl : j = M.length / 64 := by omega
              obtain ⟨A, hA⟩ : ∃ A, A = eat (M.length / 64) st0 M := ⟨_, rfl⟩
              rw [← hA, obs_0 st0, ← obs_0 A]
              refine LW.exit (exit_code (exit_rnd (exit_blk (after_code ?_))))
              refine LW.seq ?_
              refine LW.region ?_
              refine X.act (X.alloc rfl Tryd.zeroValue95 (by exact Cells.rawagg (by decide)) (fun b9 => ?_))
              refine LL.nil (after_code ?_)
              refine LW.seq ?_
              refine LW.seq ?_
              rw [show raws _ = (obs A 0).map u8 by rw [obs_0]; rfl]
              refine LW.region ?_
              refine X.u (LU.assignR Is.rfl') rfl ?_
              refine LL.nil (after_code ?_)
              refine LW.block ?_
              refine X.loopK (α := Nat) (fun i => [(10, i64 i)]) [2, 6, 9] (fun i => .cells b9 95 ((obs A i).map u8) :: .cells b6 154 (A.l.map u32) :: .cells b2 95 ((obs A 0).map u8) :: Rf) (fun i => i ≤ 32) (fun i => 32 - i) (0) (EnvLe.cons (by rfl) (EnvLe.nil)) (by repeat (first | exact HSub.refl _ | refine HSub.pick 0 rfl ?_ | refine HSub.pick 1 rfl ?_ | refine HSub.drop ?_)) ?_ ?_
              · omega
              · rintro i hI
                have hol := obs_len A i hI
                refine LW.seq ?_
                refine LW.seq ?_
                refine LW.region ?_
                refine X.u (LU.moveR Is.rfl') rfl ?_
                refine X.u (LU.lss Is.rfl' Is.rfl') rfl ?_
                refine LL.nil (after_code ?_)
                refine X.cond rfl (fun h17 => ?_) (fun h17 => ?_)
                · try have h17 := of_decide_eq_true h17
                  refine LW.skip (after_code ?_)
                  refine LW.seq ?_
                  refine LW.block ?_
                  refine LW.region ?_
                  refine X.u (LU.moveR Is.rfl') rfl ?_
                  refine X.u (LU.moveR Is.rfl') rfl ?_
                  refine X.u (LU.weak (LU.quoN Is.rfl' Is.rfl' (by omega) (tdiv_i64 (by omega) (by omega) (by omega))) (Is.of (y := i64 ((i / 4 : Nat) : Int)) (rfl))) rfl ?_
                  refine X.u (LU.atA Tryd.underlying154 Tryd.sizeOf153 Is.rfl' Is.rfl' (by omega) (by omega)) rfl ?_
                  refine X.u (LU.loadO 1 rfl ⟨Tryd.sizeOf153, Tryd.isAgg153⟩ Is.rfl' (Part.one (map_atN (i / 4) (by omega) (by rw [S8.len]; omega)))) rfl ?_
                  refine X.u (LU.moveR Is.rfl') rfl ?_
                  refine X.u (LU.weak (LU.rem Is.rfl' Is.rfl' (by omega)) (Is.of (y := i64 ((i % 4 : Nat) : Int)) (rfl))) rfl ?_
                  refine X.u (LU.mulN Is.rfl' Is.rfl' (wrap_i64 (by omega) (by omega))) rfl ?_
                  refine X.u (LU.subN Is.rfl' Is.rfl' (wrap_i64 (by omega) (by omega))) rfl ?_
                  refine X.u (LU.convN Tryd.underlying3 Tryd.underlying53 Is.rfl' (wrap_u64 (by omega) (by omega))) rfl ?_
                  refine X.u (LU.weak (LU.shr32 Is.rfl' Is.rfl' (by omega)) (Is.of (y := u32 (shr32 (A.l.getD (i / 4) 0) (24 - i % 4 * 8))) (congrArg (fun z => u32 (shr32 (A.l.getD (i / 4) 0) z)) (by omega)))) rfl ?_
                  refine X.u (LU.to8 Tryd.underlying153 Tryd.underlying5 Is.rfl') rfl ?_
                  refine X.u (LU.atA Tryd.underlying95 Tryd.sizeOf5 Is.rfl' Is.rfl' (by omega) (by omega)) rfl ?_
                  refine X.act (X.store 0 rfl Tryd.sizeOf5 Is.rfl' Is.rfl' (by exact Cells.raw rfl) (by (simp; done)) (by (simp; omega)) ?_)
                  refine LL.nil (after_blk (after_code ?_))
                  refine X.wput (obs_set A i (by omega)) (by omega) (by omega) ?_
                  refine LW.region ?_
                  refine X.u (LU.moveR Is.rfl') rfl ?_
                  refine X.u (LU.addN Is.rfl' Is.rfl' (wrap_i64 (by omega) (by omega))) rfl ?_
                  refine X.u (LU.assignR Is.rfl') rfl ?_
                  refine LL.nil (after_rnd ?_)
                  refine X.next (i + 1) rfl (EnvLe.cons (by rfl) (EnvLe.nil)) (Keeps.cons (by exact Eq.trans (b := .raw _) rfl rfl) (Keeps.cons (by exact Eq.trans (b := .raw _) rfl rfl) (Keeps.cons (by exact Eq.trans (b := .raw _) rfl rfl) (Keeps.nil)))) (by repeat (exact HSub.refl _)) ?_ ?_
                  · omega
                  · omega
                · try have h17 := of_decide_eq_false h17
                  obtain rfl : i = 32 := by omega
                  refine LW.exit (exit_code (exit_rnd (exit_blk (after_code ?_))))
                  refine LW.seq ?_
                  refine LW.region ?_
                  refine X.u (LU.loadO 0 rfl ⟨Tryd.sizeOf95, Tryd.isAgg95⟩ Is.rfl' (Part.whole (by simp))) rfl ?_
                  refine X.act (X.store 2 rfl Tryd.sizeOf95 Is.rfl' Is.rfl' (by exact Cells.agg) (by (simp; done)) (by (simp; done)) ?_)
                  refine LL.nil (after_code ?_)
                  refine LW.ret (after_end ?_)
                  rw [putAt_all (by simp)]
                  refine X.ret (H' := []) (by exact Res.cell1 0 rfl rfl ⟨Tryd.sizeOf95, Tryd.isAgg95⟩ (Part.whole (by (simp; done))) (by exact IsA rfl)) (by repeat (first | exact HSub.refl _ | refine HSub.drop ?_)) ?_
                  exact ⟨by rw [hA, hM]; rfl, rfl⟩
end Go.Proofs.YtnfeepmgdahmgaaDoor
