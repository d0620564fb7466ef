/- A digest's sum. -/
import Derived.Test.YtnfeepmgdahmgaaDoorHsE
set_option linter.unusedVariables false
set_option linter.unusedSimpArgs false
namespace Go.Proofs.YtnfeepmgdahmgaaDoor
open Go.RowKit Go.L
attribute [local irreducible] LL LW LO
theorem snoc8 (l : List UInt8) (x : UInt8) (n : Int) (h : (x.toNat : Int) = n) (k : Cap) : LV.sl 1 (byteEls l ++ [[.raw (.int .u8 n)]]) k = Bytes (l ++ [x]) k := by
  subst h
  simp [byteEls]
theorem rep_snoc (l : List UInt8) (j : Nat) : l ++ List.replicate j 0 ++ [0] = l ++ List.replicate (j + 1) 0 := by simp [List.replicate_succ']
theorem be8_snoc (p : List UInt8) (n i : Nat) : p ++ be8 n i ++ [UInt8.ofNat (n / 2 ^ (8 * (7 - i)))] = p ++ be8 n (i + 1) := by simp [be8]
set_option maxRecDepth 100000 in
theorem sum_calls (g : Nat) (s : S8) (rest : List UInt8) (n b o c : Nat) (hn : n < 1099511627776) (hr : rest.length < 1099511627776) : LCalls Tryd.prog 87 [pt g] [dg g s rest n b o c, kw]
    (fun r H' => r = .agg ((fin s rest (n * 8)).map u8) ∧ H' = [dg g s rest n b o c, kw]) := by
  obtain ⟨M, hM⟩ : ∃ M, M = pad rest (n * 8) := ⟨_, rfl⟩
  have hM64 : M.length % 64 = 0 := by rw [hM]; exact pad_64 _ _
  have hMl : M.length = rest.length + 9 + zs rest.length := by rw [hM, pad_len]
  have hz : zs rest.length < 64 := by unfold zs; omega
  refine LCalls.of Tryd.func87 rfl Tryd.ntmps87 Tryd.results87 rfl (fun Rf => ?_)
  refine LW.seq ?_
  refine LW.region ?_
  refine X.act (X.alloc rfl Tryd.zeroValue95 (by exact Cells.rawagg (by decide)) (fun b2 => ?_))
  refine LL.nil (after_code ?_)
  refine LW.seq ?_
  refine LW.region ?_
  refine X.act (X.alloc rfl Tryd.zeroValue95 (by exact Cells.rawagg (by decide)) (fun b3 => ?_))
  refine LL.nil (after_code ?_)
  refine LW.seq ?_
  refine LW.seq ?_
  rw [show raws _ = (obs s 0).map u8 by rw [obs_0]; rfl]
  refine LW.region ?_
  refine X.u (LU.moveR Is.rfl') rfl ?_
  refine X.u (LU.nilEqS Tryd.underlying147 Is.rfl' Is.rfl') rfl ?_
  refine X.u (LU.moveR Is.rfl') rfl ?_
  refine X.doF rfl rfl (LU.moveR (by exact Is.rfl')) rfl ?_
  refine X.doF rfl rfl (LU.nilCheck (by exact Is.rfl')) rfl ?_
  refine X.doF rfl rfl (LU.fieldO Tryd.underlying175 rfl Tryd.sizeOf4 (by decide) (by exact Is.rfl')) rfl ?_
  refine X.doF rfl rfl (LU.loadO 2 rfl ⟨Tryd.sizeOf4, Tryd.isAgg4⟩ (by exact Is.rfl') (Part.one rfl)) rfl ?_
  refine X.doF rfl rfl (LU.not (by exact Is.rfl')) rfl ?_
  refine X.u (LU.pickF Is.rfl' (by exact Is.rfl')) rfl ?_
  refine LL.nil (after_code ?_)
  refine X.condF rfl ?_ ?_
  · rfl
  refine LW.skip (after_code ?_)
  refine LW.seq ?_
  refine LW.region ?_
  refine X.u (LU.lits Tryd.underlying22 Tryd.sizeOf5 Tryd.zeroValue5 (ones rfl) rfl (by decide) (by decide) Elems.nil (by intro e he; cases he) rfl) rfl ?_
  refine X.u (LU.moveR Is.rfl') rfl ?_
  refine X.u (LU.nilCheck Is.rfl') rfl ?_
  refine X.u (LU.fieldO Tryd.underlying175 rfl Tryd.sizeOf22 (by decide) Is.rfl') rfl ?_
  refine X.u (LU.loadO 2 rfl ⟨Tryd.sizeOf22, Tryd.isAgg22⟩ Is.rfl' (Part.one rfl)) rfl ?_
  refine X.act (X.appendF rfl Tryd.underlying22 (El.of (P := Tryd.prog) (z := (.int .u8 0)) (size := 1) (bytes := 1) rfl rfl rfl) Is.rfl' Is.rfl' (SrcL.slice Tryd.underlying22 (by decide) (by exact byteEls_size _)) (by simp only [Option.getD_some, Option.getD_none, byteEls_length, intEls_length, List.length_append, List.length_cons, List.length_nil, List.length_map, List.length_drop, List.length_take, Int.toNat_natCast]; omega) (by simp only [Option.getD_some, Option.getD_none, byteEls_length, intEls_length, List.length_append, List.length_cons, List.length_nil, List.length_map, List.length_drop, List.length_take, Int.toNat_natCast]; omega) (fun b23 o23 c23 => ?_))
  refine X.weak (t := 23) (v := Bytes rest (.tok b23 o23 c23)) (Is.of (rfl)) ?_
  refine X.u (LU.lits Tryd.underlying22 Tryd.sizeOf5 Tryd.zeroValue5 (ones rfl) rfl (by decide) (by decide) (Elems.cons Is.rfl' (by exact Cells.raw rfl) Elems.nil) (by (simp; done)) rfl) rfl ?_
  refine X.act (X.append 0 rfl rfl Tryd.underlying22 (El.of (P := Tryd.prog) (z := (.int .u8 0)) (size := 1) (bytes := 1) rfl rfl rfl) Is.rfl' Is.rfl' (SrcL.slice Tryd.underlying22 (by decide) (by (intro e he; simp [chunks] at he; simp [he]; done))) (by simp only [Option.getD_some, Option.getD_none, byteEls_length, intEls_length, List.length_append, List.length_cons, List.length_nil, List.length_map, List.length_drop, List.length_take, Int.toNat_natCast]; omega) (by simp only [Option.getD_some, Option.getD_none, byteEls_length, intEls_length, List.length_append, List.length_cons, List.length_nil, List.length_map, List.length_drop, List.length_take, Int.toNat_natCast]; omega) (fun b25 o25 c25 => X.weak (t := 25) (Is.of (y := Bytes (rest ++ [128]) (.tok b25 o25 c25)) (snoc8 rest 128 128 rfl _)) ?_))
  refine X.u (LU.assignS Is.rfl') rfl ?_
  refine LL.nil (after_code ?_)
  refine LW.seq ?_
  refine LW.block ?_
  refine X.wweak (t := 4) (v := Bytes (rest ++ [128] ++ List.replicate 0 0) (.tok b25 o25 c25)) (by rw [List.replicate_zero, List.append_nil]; exact Is.rfl') ?_
  refine X.loopK (α := Nat × Nat × Nat × Nat) (fun ⟨j, tb, to, tc⟩ => [(4, Bytes (rest ++ [128] ++ List.replicate j 0) (.tok tb to tc))]) [0, 2, 3] (fun ⟨j, tb, to, tc⟩ => [.tail tb to tc, .cells b3 95 ((obs s 0).map u8), .cells b2 95 ((obs s 0).map u8), dg g s rest n b o c, kw] ++ Rf) (fun ⟨j, tb, to, tc⟩ => j ≤ zs rest.length) (fun ⟨j, tb, to, tc⟩ => zs rest.length - j) ((0, b25, o25, c25)) (EnvLe.cons (by rfl) (EnvLe.nil)) (by repeat (exact HSub.refl _)) ?_ ?_
  · exact Nat.zero_le _
  · rintro ⟨j, tb, to, tc⟩ hI
    have hjl : (List.replicate j (0 : UInt8)).length = j := by simp
    refine LW.seq ?_
    refine LW.seq ?_
    refine LW.region ?_
    refine X.u (LU.moveS Is.rfl') rfl ?_
    refine X.u (LU.lenN Tryd.underlying22 Is.rfl' (by (simp only [Option.getD_some, Option.getD_none, byteEls_length, intEls_length, List.length_append, List.length_cons, List.length_nil, List.length_map, List.length_drop, List.length_take, Int.toNat_natCast]; rfl))) rfl ?_
    refine X.u (LU.rem Is.rfl' Is.rfl' (by omega)) rfl ?_
    refine X.u (LU.neq Is.rfl' Is.rfl') rfl ?_
    refine LL.nil (after_code ?_)
    refine X.cond rfl (fun h5 => ?_) (fun h5 => ?_)
    · simp only [Bool.not_eq_true', decide_eq_false_iff_not] at h5
      rw [Int.tmod_eq_emod_of_nonneg (by omega)] at h5
      have hj2 : j < zs rest.length := by unfold zs at *; omega
      refine LW.skip (after_code ?_)
      refine LW.block ?_
      refine LW.region ?_
      refine X.u (LU.moveS Is.rfl') rfl ?_
      refine X.u (LU.lits Tryd.underlying22 Tryd.sizeOf5 Tryd.zeroValue5 (ones rfl) rfl (by decide) (by decide) (Elems.cons Is.rfl' (by exact Cells.raw rfl) Elems.nil) (by (simp; done)) rfl) rfl ?_
      refine X.act (X.append 0 rfl rfl Tryd.underlying22 (El.of (P := Tryd.prog) (z := (.int .u8 0)) (size := 1) (bytes := 1) rfl rfl rfl) Is.rfl' Is.rfl' (SrcL.slice Tryd.underlying22 (by decide) (by (intro e he; simp [chunks] at he; simp [he]; done))) (by simp only [Option.getD_some, Option.getD_none, byteEls_length, intEls_length, List.length_append, List.length_cons, List.length_nil, List.length_map, List.length_drop, List.length_take, Int.toNat_natCast]; omega) (by simp only [Option.getD_some, Option.getD_none, byteEls_length, intEls_length, List.length_append, List.length_cons, List.length_nil, List.length_map, List.length_drop, List.length_take, Int.toNat_natCast]; omega) (fun b32 o32 c32 => X.weak (t := 32) (Is.of (y := Bytes (rest ++ [128] ++ List.replicate (j + 1) 0) (.tok b32 o32 c32)) ((snoc8 _ 0 0 rfl _).trans (congrArg (fun z => Bytes z _) (rep_snoc _ j)))) ?_))
      refine X.u (LU.assignS Is.rfl') rfl ?_
      refine LL.nil (after_blk (after_rnd ?_))
      refine X.next ((j + 1, b32, o32, c32)) rfl (EnvLe.cons (by rfl) (EnvLe.nil)) (Keeps.cons (by exact Eq.trans (b := .raw _) rfl rfl) (Keeps.cons (by exact Eq.trans (b := .raw _) rfl rfl) (Keeps.cons (by exact Eq.trans (b := .raw _) rfl rfl) (Keeps.nil)))) (by repeat (exact HSub.refl _)) ?_ ?_
      · omega
      · (simp; omega)
    · simp only [Bool.not_eq_false', decide_eq_true_eq] at h5
      rw [Int.tmod_eq_emod_of_nonneg (by omega)] at h5
      obtain rfl : j = zs rest.length := by unfold zs at *; omega
      refine LW.exit (exit_code (exit_rnd (exit_blk (after_code ?_))))
      refine LW.seq ?_
      refine LW.seq ?_
      refine LW.region ?_
      refine X.u (LU.assignR Is.rfl') rfl ?_
      refine LL.nil (after_code ?_)
      refine LW.block ?_
      refine X.wweak (t := 4) (v := Bytes (rest ++ [128] ++ List.replicate (zs rest.length) 0 ++ be8 (n * 8) 0) (.tok tb to tc)) (by rw [be8, List.append_nil]; exact Is.rfl') ?_
      refine X.loopK (α := Nat × Nat × Nat × Nat) (fun ⟨i, tb, to, tc⟩ => [(5, i64 (7 - (i : Int))), (4, Bytes (rest ++ [128] ++ List.replicate (zs rest.length) 0 ++ be8 (n * 8) i) (.tok tb to tc))]) [0, 2, 3] (fun ⟨i, tb, to, tc⟩ => [.tail tb to tc, .cells b3 95 ((obs s 0).map u8), .cells b2 95 ((obs s 0).map u8), dg g s rest n b o c, kw] ++ Rf) (fun ⟨i, tb, to, tc⟩ => i ≤ 8) (fun ⟨i, tb, to, tc⟩ => 8 - i) ((0, tb, to, tc)) (EnvLe.cons (by rfl) (EnvLe.cons (by rfl) (EnvLe.nil))) (by repeat (exact HSub.refl _)) ?_ ?_
      · exact Nat.zero_le _
      · rintro ⟨i, tb, to, tc⟩ hI
        have hb8 := be8_len (n * 8) i
        have hjz : (List.replicate (zs rest.length) (0 : UInt8)).length = zs rest.length := by simp
        refine LW.seq ?_
        refine LW.seq ?_
        refine LW.region ?_
        refine X.u (LU.moveR Is.rfl') rfl ?_
        refine X.u (LU.geq Is.rfl' Is.rfl') rfl ?_
        refine LL.nil (after_code ?_)
        refine X.cond rfl (fun h8 => ?_) (fun h8 => ?_)
        · try have h8 := of_decide_eq_true h8
          refine LW.skip (after_code ?_)
          refine LW.seq ?_
          refine LW.block ?_
          refine LW.region ?_
          refine X.u (LU.moveS Is.rfl') rfl ?_
          refine X.u (LU.moveR Is.rfl') rfl ?_
          refine X.u (LU.nilCheck Is.rfl') rfl ?_
          refine X.u (LU.fieldO Tryd.underlying175 rfl Tryd.sizeOf152 (by decide) Is.rfl') rfl ?_
          refine X.u (LU.loadO 3 rfl ⟨Tryd.sizeOf152, Tryd.isAgg152⟩ Is.rfl' (Part.one rfl)) rfl ?_
          refine X.u (LU.weak (LU.mul Is.rfl' Is.rfl') (Is.of (y := u64 (n * 8)) (by rw [wrap_u64 (by omega) (by omega)]; rfl))) rfl ?_
          refine X.u (LU.moveR Is.rfl') rfl ?_
          refine X.u (LU.mulN Is.rfl' Is.rfl' (wrap_i64 (by omega) (by omega))) rfl ?_
          refine X.u (LU.convN Tryd.underlying3 Tryd.underlying53 Is.rfl' (wrap_u64 (by omega) (by omega))) rfl ?_
          refine X.u (LU.shrN (n := 64) Is.rfl' Is.rfl' (by omega) rfl (by omega)) rfl ?_
          refine X.u (LU.to8 Tryd.underlying152 Tryd.underlying5 Is.rfl') rfl ?_
          refine X.u (LU.lits Tryd.underlying22 Tryd.sizeOf5 Tryd.zeroValue5 (ones rfl) rfl (by decide) (by decide) (Elems.cons Is.rfl' (by exact Cells.raw rfl) Elems.nil) (by (simp; done)) rfl) rfl ?_
          refine X.act (X.append 0 rfl rfl Tryd.underlying22 (El.of (P := Tryd.prog) (z := (.int .u8 0)) (size := 1) (bytes := 1) rfl rfl rfl) Is.rfl' Is.rfl' (SrcL.slice Tryd.underlying22 (by decide) (by (intro e he; simp [chunks] at he; simp [he]; done))) (by simp only [Option.getD_some, Option.getD_none, byteEls_length, intEls_length, List.length_append, List.length_cons, List.length_nil, List.length_map, List.length_drop, List.length_take, Int.toNat_natCast]; omega) (by simp only [Option.getD_some, Option.getD_none, byteEls_length, intEls_length, List.length_append, List.length_cons, List.length_nil, List.length_map, List.length_drop, List.length_take, Int.toNat_natCast]; omega) (fun b49 o49 c49 => X.weak (t := 49) (Is.of (y := Bytes (rest ++ [128] ++ List.replicate (zs rest.length) 0 ++ be8 (n * 8) (i + 1)) (.tok b49 o49 c49)) ((snoc8 _ (UInt8.ofNat (n * 8 / 2 ^ (8 * (7 - i)))) _ (by rw [show (8 * (7 - (i : Int))).toNat = 8 * (7 - i) by omega]; simp) _).trans (congrArg (fun z => Bytes z _) (be8_snoc _ _ _)))) ?_))
          refine X.u (LU.assignS Is.rfl') rfl ?_
          refine LL.nil (after_blk (after_code ?_))
          refine LW.region ?_
          refine X.u (LU.moveR Is.rfl') rfl ?_
          refine X.u (LU.subN Is.rfl' Is.rfl' (wrap_i64 (by omega) (by omega))) rfl ?_
          refine X.u (LU.assignR Is.rfl') rfl ?_
          refine LL.nil (after_rnd ?_)
          refine X.next ((i + 1, b49, o49, c49)) rfl (EnvLe.cons (by exact raw_int (by omega)) (EnvLe.cons (by rfl) (EnvLe.nil))) (Keeps.cons (by exact Eq.trans (b := .raw _) rfl rfl) (Keeps.cons (by exact Eq.trans (b := .raw _) rfl rfl) (Keeps.cons (by exact Eq.trans (b := .raw _) rfl rfl) (Keeps.nil)))) (by repeat (exact HSub.refl _)) ?_ ?_
          · omega
          · (simp; omega)
        · try have h8 := of_decide_eq_false h8
          obtain rfl : i = 8 := by omega
          refine LW.exit (exit_code (exit_rnd (exit_blk (after_code ?_))))
          refine LW.seq ?_
          refine LW.region ?_
          refine X.u (LU.moveR Is.rfl') rfl ?_
          refine X.u (LU.nilCheck Is.rfl') rfl ?_
          refine X.u (LU.fieldO Tryd.underlying175 rfl Tryd.sizeOf172 (by decide) Is.rfl') rfl ?_
          refine X.u (LU.weak (LU.loadO 3 rfl ⟨Tryd.sizeOf172, Tryd.isAgg172⟩ Is.rfl' (Part.sub (by (simp; done)))) (Is.of (y := W8 s) (by simp [S8.l]))) rfl ?_
          refine X.act (X.alloc rfl Tryd.zeroValue172 (by exact Cells.rawagg (by decide)) (fun b6 => ?_))
          refine X.act (X.store 0 rfl Tryd.sizeOf172 Is.rfl' Is.rfl' (by exact Cells.agg) (by (simp; done)) (by exact Nat.le_of_ble_eq_true rfl) ?_)
          refine LL.nil (after_code ?_)
          refine LW.seq ?_
          refine LW.block ?_
          refine X.wcells (ys := (eat 0 s M).l.map u32) (by rw [putAt_all (by simp [raws]), eat_0]) ?_
          refine X.wweak (t := 4) (v := Bytes (M.drop (64 * 0)) .unk) (by rw [hM]; exact Is.unk) ?_
          refine X.loopK (α := Nat) (fun j => [(4, Bytes (M.drop (64 * j)) .unk)]) [2, 3, 6] (fun j => .cells b6 172 ((eat j s M).l.map u32) :: .cells b3 95 ((obs s 0).map u8) :: .cells b2 95 ((obs s 0).map u8) :: dg g s rest n b o c :: kw :: Rf) (fun j => j ≤ M.length / 64) (fun j => M.length / 64 - j) (0) (EnvLe.cons (by rfl) (EnvLe.nil)) (by repeat (first | exact HSub.refl _ | refine HSub.pick 0 rfl ?_ | refine HSub.pick 1 rfl ?_ | refine HSub.drop ?_)) ?_ ?_
          · exact Nat.zero_le _
          · rintro j hI
            refine LW.seq ?_
            refine LW.seq ?_
            refine LW.region ?_
            refine X.u (LU.moveS Is.rfl') rfl ?_
            refine X.u (LU.lenN Tryd.underlying22 Is.rfl' (by (simp only [Option.getD_some, Option.getD_none, byteEls_length, intEls_length, List.length_append, List.length_cons, List.length_nil, List.length_map, List.length_drop, List.length_take, Int.toNat_natCast]; rfl))) rfl ?_
            refine X.u (LU.gtr Is.rfl' Is.rfl') rfl ?_
            refine LL.nil (after_code ?_)
            refine X.cond rfl (fun h12 => ?_) (fun h12 => ?_)
            · try have h12 := of_decide_eq_true h12
              refine LW.skip (after_code ?_)
              refine LW.seq ?_
              refine LW.block ?_
              refine LW.region ?_
              refine X.u (LU.loadO 0 rfl ⟨Tryd.sizeOf172, Tryd.isAgg172⟩ Is.rfl' (Part.whole (by (simp; done)))) rfl ?_
              refine X.u (LU.moveS Is.rfl') rfl ?_
              refine X.u (LU.call1 4 rfl (block_calls (eat j s M) (M.drop (64 * j)) _ (by simp; omega)) Tryd.func105 rfl rfl (Opds.cons Is.rfl' (Opds.cons Is.rfl' Opds.nil))) rfl ?_
              refine X.act (X.store 0 rfl Tryd.sizeOf172 Is.rfl' Is.rfl' (by exact Cells.agg) (by (simp; done)) (by (simp; done)) ?_)
              refine LL.nil (after_blk (after_code ?_))
              refine X.wcells (ys := (eat (j + 1) s M).l.map u32) (by rw [putAt_all (by simp), eat_snoc, blk_take]) ?_
              refine LW.region ?_
              refine X.u (LU.moveS Is.rfl') rfl ?_
              refine X.u (LU.weak (LU.sliceT Tryd.sizeOf5 Tryd.underlying22 Is.rfl' Is.rfl' (n := 64) (by simp; omega)) (Is.of (y := Bytes (M.drop (64 * (j + 1))) .unk) (congrArg (fun z => Bytes z .unk) (by rw [List.drop_drop, show 64 * j + 64 = 64 * (j + 1) by omega])))) rfl ?_
              refine X.u (LU.assignS Is.rfl') rfl ?_
              refine LL.nil (after_rnd ?_)
              refine X.next (j + 1) rfl (EnvLe.cons (by rfl) (EnvLe.nil)) (Keeps.cons (by exact Eq.trans (b := .raw _) rfl rfl) (Keeps.cons (by exact Eq.trans (b := .raw _) rfl rfl) (Keeps.cons (by exact Eq.trans (b := .raw _) rfl rfl) (Keeps.nil)))) (by repeat (exact HSub.refl _)) ?_ ?_
              · omega
              · omega
            · try have h12 := of_decide_eq_false h12
              obtain rfl : j = M.length / 64 := by omega
              obtain ⟨A, hA⟩ : ∃ A, A = eat (M.length / 64) s M := ⟨_, rfl⟩
              rw [← hA, obs_0 s, ← obs_0 A]
              refine LW.exit (exit_code (exit_rnd (exit_blk (after_code ?_))))
              refine LW.seq ?_
              refine LW.seq ?_
              refine LW.region ?_
              refine X.u (LU.moveR Is.rfl') rfl ?_
              refine LL.nil (after_code ?_)
              refine LW.block ?_
              refine X.loopK (α := Nat) (fun i => [(62, i64 i)]) [2, 3, 6] (fun i => .cells b3 95 ((obs A i).map u8) :: .cells b6 172 (A.l.map u32) :: .cells b2 95 ((obs A 0).map u8) :: dg g s rest n b o c :: kw :: Rf) (fun i => i ≤ 32) (fun i => 32 - i) (0) (EnvLe.cons (by rfl) (EnvLe.nil)) (by repeat (first | exact HSub.refl _ | refine HSub.pick 1 rfl ?_)) ?_ ?_
              · omega
              · rintro i hI
                have hol := obs_len A i hI
                refine LW.seq ?_
                refine LW.region ?_
                refine X.u (LU.lss Is.rfl' Is.rfl') rfl ?_
                refine LL.nil (after_code ?_)
                refine LW.seq ?_
                refine X.cond rfl (fun h16 => ?_) (fun h16 => ?_)
                · try have h16 := of_decide_eq_true h16
                  refine LW.skip (after_code ?_)
                  refine LW.seq ?_
                  refine LW.block ?_
                  refine LW.seq ?_
                  refine LW.region ?_
                  refine X.u (LU.moveR Is.rfl') rfl ?_
                  refine X.u (LU.assignR Is.rfl') rfl ?_
                  refine LL.nil (after_code ?_)
                  refine LW.region ?_
                  refine X.u (LU.moveR Is.rfl') rfl ?_
                  refine X.u (LU.moveR Is.rfl') rfl ?_
                  refine X.u (LU.weak (LU.quoN Is.rfl' Is.rfl' (by omega) (tdiv_i64 (by omega) (by omega) (by omega))) (Is.of (y := i64 ((i / 4 : Nat) : Int)) (rfl))) rfl ?_
                  refine X.u (LU.atA Tryd.underlying172 Tryd.sizeOf153 Is.rfl' Is.rfl' (by omega) (by omega)) rfl ?_
                  refine X.u (LU.loadO 1 rfl ⟨Tryd.sizeOf153, Tryd.isAgg153⟩ Is.rfl' (Part.one (map_atN (i / 4) (by omega) (by rw [S8.len]; omega)))) rfl ?_
                  refine X.u (LU.moveR Is.rfl') rfl ?_
                  refine X.u (LU.weak (LU.rem Is.rfl' Is.rfl' (by omega)) (Is.of (y := i64 ((i % 4 : Nat) : Int)) (rfl))) rfl ?_
                  refine X.u (LU.mulN Is.rfl' Is.rfl' (wrap_i64 (by omega) (by omega))) rfl ?_
                  refine X.u (LU.subN Is.rfl' Is.rfl' (wrap_i64 (by omega) (by omega))) rfl ?_
                  refine X.u (LU.convN Tryd.underlying3 Tryd.underlying53 Is.rfl' (wrap_u64 (by omega) (by omega))) rfl ?_
                  refine X.u (LU.weak (LU.shr32 Is.rfl' Is.rfl' (by omega)) (Is.of (y := u32 (shr32 (A.l.getD (i / 4) 0) (24 - i % 4 * 8))) (congrArg (fun z => u32 (shr32 (A.l.getD (i / 4) 0) z)) (by omega)))) rfl ?_
                  refine X.u (LU.to8 Tryd.underlying153 Tryd.underlying5 Is.rfl') rfl ?_
                  refine X.u (LU.atA Tryd.underlying95 Tryd.sizeOf5 Is.rfl' Is.rfl' (by omega) (by omega)) rfl ?_
                  refine X.act (X.store 0 rfl Tryd.sizeOf5 Is.rfl' Is.rfl' (by exact Cells.raw rfl) (by (simp; done)) (by (simp; omega)) ?_)
                  refine LL.nil (after_blk (after_code ?_))
                  refine X.wput (obs_set A i (by omega)) (by omega) (by omega) ?_
                  refine LW.region ?_
                  refine X.u (LU.addN Is.rfl' Is.rfl' (wrap_i64 (by omega) (by omega))) rfl ?_
                  refine X.u (LU.moveR Is.rfl') rfl ?_
                  refine LL.nil (after_rnd ?_)
                  refine X.next (i + 1) rfl (EnvLe.cons (by rfl) (EnvLe.nil)) (Keeps.cons (by exact Eq.trans (b := .raw _) rfl rfl) (Keeps.cons (by exact Eq.trans (b := .raw _) rfl rfl) (Keeps.cons (by exact Eq.trans (b := .raw _) rfl rfl) (Keeps.nil)))) (by repeat (exact HSub.refl _)) ?_ ?_
                  · omega
                  · omega
                · try have h16 := of_decide_eq_false h16
                  obtain rfl : i = 32 := by omega
                  refine LW.exit (exit_code (exit_rnd (exit_blk (after_code ?_))))
                  refine LW.seq ?_
                  refine LW.region ?_
                  refine X.u (LU.loadO 0 rfl ⟨Tryd.sizeOf95, Tryd.isAgg95⟩ Is.rfl' (Part.whole (by simp))) rfl ?_
                  refine X.act (X.store 2 rfl Tryd.sizeOf95 Is.rfl' Is.rfl' (by exact Cells.agg) (by (simp; done)) (by (simp; done)) ?_)
                  refine LL.nil (after_code ?_)
                  refine LW.ret (after_end ?_)
                  rw [putAt_all (by simp)]
                  refine X.ret (H' := [dg g s rest n b o c, kw]) (by exact Res.cell1 0 rfl rfl ⟨Tryd.sizeOf95, Tryd.isAgg95⟩ (Part.whole (by (simp; done))) (by exact IsA rfl)) (by repeat (first | exact HSub.refl _ | refine HSub.pick 3 rfl ?_ | refine HSub.drop ?_)) ?_
                  exact ⟨by rw [hA, hM]; rfl, rfl⟩
end Go.Proofs.YtnfeepmgdahmgaaDoor
