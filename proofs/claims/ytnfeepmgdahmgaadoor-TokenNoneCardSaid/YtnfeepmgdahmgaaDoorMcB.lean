/- Keyed digests, in the document. -/
import Derived.Test.YtnfeepmgdahmgaaDoorMcA
import Derived.Test.YtnfeepmgdahmgaaDoorHsP
import Derived.Test.YtnfeepmgdahmgaaDoorLgC
set_option linter.unusedVariables false
set_option linter.unusedSimpArgs false
namespace Go.Proofs.YtnfeepmgdahmgaaDoor
open Go.RowKit Go.L
attribute [local irreducible] LL LW LO LP LA
theorem xb_succ {x : Nat} {b : List UInt8} {i : Nat} (h : i < b.length) : xb x (b.take i) ++ [UInt8.ofNat (xor8 (b.getD i 0).toNat x)] = xb x (b.take (i + 1)) := by
  rw [List.take_succ_eq_append_getElem h, xb, xb, List.map_append]
  simp only [List.getD_eq_getElem?_getD, List.getElem?_eq_getElem h, Option.getD_some, List.map_cons, List.map_nil]
set_option maxRecDepth 100000 in
theorem xored_calls (b : List UInt8) (k : Cap) (x : Nat) (hb : b.length < 1099511627776) : LCalls Tryd.prog 74 [Bytes b k, u8 x] [] (fun r H' => ∃ tb to tc, r = Bytes (xb x b) (.tok tb to tc) ∧ H' = [.tail tb to tc]) := by
  refine LCalls.of Tryd.func74 rfl Tryd.ntmps74 Tryd.results74 rfl (fun Rf => ?_)
  refine LW.seq ?_
  refine LW.region ?_
  refine X.u (LU.assign (Is.nil 1)) rfl ?_
  refine LL.nil (after_code ?_)
  refine LW.seq ?_
  refine LW.region ?_
  refine X.u (LU.assign (Is.nil 1)) rfl ?_
  refine LL.nil (after_code ?_)
  refine LW.seq ?_
  refine LW.seq ?_
  refine LW.region ?_
  refine X.u (LU.assignR Is.rfl') rfl ?_
  refine LL.nil (after_code ?_)
  refine LW.block ?_
  refine X.wghost (HSub.tail0 0 0 0 (Nat.le_refl _) _) ?_
  refine X.wweak (t := 5) (v := Bytes (xb x (b.take 0)) (.tok 0 0 0)) (by rw [List.take_zero]; exact Is.full_tok 0 0) ?_
  refine X.loopK (α := Nat × Nat × Nat × Nat) (fun ⟨i, tb, to, tc⟩ => [(6, i64 i), (5, Bytes (xb x (b.take i)) (.tok tb to tc))]) [0, 1, 4] (fun ⟨i, tb, to, tc⟩ => [.tail tb to tc] ++ Rf) (fun ⟨i, tb, to, tc⟩ => i ≤ b.length) (fun ⟨i, tb, to, tc⟩ => b.length - i) ((0, 0, 0, 0)) (EnvLe.cons (by rfl) (EnvLe.cons (by rfl) (EnvLe.nil))) (by repeat (exact HSub.refl _)) ?_ ?_
  · exact Nat.zero_le _
  · rintro ⟨i, tb, to, tc⟩ hI
    have hll : (xb x (b.take i)).length ≤ b.length := by rw [xb_len, List.length_take]; omega
    refine LW.seq ?_
    refine LW.seq ?_
    refine LW.region ?_
    refine X.u (LU.moveR Is.rfl') rfl ?_
    refine X.u (LU.moveS Is.rfl') rfl ?_
    refine X.u (LU.lenN Tryd.underlying22 Is.rfl' (by (simp only [Option.getD_some, Option.getD_none, byteEls_length, intEls_length, List.length_append, List.length_cons, List.length_nil, List.length_map, List.length_drop, List.length_take, Int.toNat_natCast]; rfl))) rfl ?_
    refine X.u (LU.lss Is.rfl' Is.rfl') rfl ?_
    refine LL.nil (after_code ?_)
    refine X.cond rfl (fun h3 => ?_) (fun h3 => ?_)
    · try have h3 := of_decide_eq_true h3
      refine LW.skip (after_code ?_)
      refine LW.seq ?_
      refine LW.block ?_
      refine LW.region ?_
      refine X.u (LU.moveS Is.rfl') rfl ?_
      refine X.u (LU.moveS Is.rfl') rfl ?_
      refine X.u (LU.moveR Is.rfl') rfl ?_
      refine X.u (LU.at Tryd.underlying22 ⟨Tryd.sizeOf5, Tryd.isAgg5⟩ Is.rfl' Is.rfl' (by omega) (byteEls_D i (by omega) (by omega)) (by simp)) rfl ?_
      refine X.u (LU.load ⟨Tryd.sizeOf5, Tryd.isAgg5⟩ Is.rfl' (by (simp; done)) (Part.one rfl)) rfl ?_
      refine X.u (LU.moveR Is.rfl') rfl ?_
      refine X.u (LU.xor8 Is.rfl' Is.rfl') rfl ?_
      refine X.u (LU.lits Tryd.underlying22 Tryd.sizeOf5 Tryd.zeroValue5 (ones rfl) rfl (by decide) (by decide) (Elems.cons Is.rfl' (by exact Cells.raw rfl) Elems.nil) (by (simp; done)) rfl) rfl ?_
      refine X.act (X.append 0 rfl rfl Tryd.underlying22 (El.of (P := Tryd.prog) (z := (.int .u8 0)) (size := 1) (bytes := 1) rfl rfl rfl) Is.rfl' Is.rfl' (SrcL.slice Tryd.underlying22 (by decide) (by (intro e he; simp [chunks] at he; simp [he]; done))) (by simp only [Option.getD_some, Option.getD_none, byteEls_length, intEls_length, List.length_append, List.length_cons, List.length_nil, List.length_map, List.length_drop, List.length_take, Int.toNat_natCast]; omega) (by simp only [Option.getD_some, Option.getD_none, byteEls_length, intEls_length, List.length_append, List.length_cons, List.length_nil, List.length_map, List.length_drop, List.length_take, Int.toNat_natCast]; omega) (fun b21 o21 c21 => X.weak (t := 21) (Is.of (y := Bytes (xb x (b.take (i + 1))) (.tok b21 o21 c21)) ((snocB _ _ (xor8_lt _ _) _).trans (congrArg (fun z => Bytes z _) (xb_succ (by omega))))) ?_))
      refine X.u (LU.assignS Is.rfl') rfl ?_
      refine LL.nil (after_blk (after_code ?_))
      refine LW.region ?_
      refine X.u (LU.moveR Is.rfl') rfl ?_
      refine X.u (LU.addN Is.rfl' Is.rfl' (wrap_i64 (by omega) (by omega))) rfl ?_
      refine X.u (LU.assignR Is.rfl') rfl ?_
      refine LL.nil (after_rnd ?_)
      refine X.next ((i + 1, b21, o21, c21)) rfl (EnvLe.cons (by rfl) (EnvLe.cons (by rfl) (EnvLe.nil))) (Keeps.cons (by exact Eq.trans (b := .sl _ _ _) rfl rfl) (Keeps.cons (by exact Eq.trans (b := .raw _) rfl rfl) (Keeps.cons (by exact Eq.trans (b := .sl _ _ _) rfl rfl) (Keeps.nil)))) (by repeat (exact HSub.refl _)) ?_ ?_
      · omega
      · (simp; omega)
    · try have h3 := of_decide_eq_false h3
      obtain rfl : i = b.length := by omega
      refine LW.exit (exit_code (exit_rnd (exit_blk (after_code ?_))))
      refine LW.seq ?_
      refine LW.region ?_
      refine X.u (LU.moveS Is.rfl') rfl ?_
      refine X.u (LU.assignS Is.rfl') rfl ?_
      refine LL.nil (after_code ?_)
      refine LW.ret (after_end ?_)
      refine X.ret (H' := [.tail tb to tc]) (Res.one Is.rfl') (by repeat (exact HSub.refl _)) ?_
      exact ⟨tb, to, tc, by rw [List.take_of_length_le (Nat.le_refl _)]; rfl, rfl⟩
theorem pad_bk {key l : List UInt8} (h : l = if 64 < key.length then shaB key else key) (hl : l.length ≤ 64) : pad64 l = bk key := by
  unfold bk
  split <;> rename_i h1
  · rw [if_pos h1] at h; rw [h]
  · rw [if_neg h1] at h; rw [h]
set_option maxRecDepth 100000 in
theorem rblock_calls (key : List UInt8) (k : Cap) (hk : key.length < 1099511627776) : LCalls Tryd.prog 72 [Bytes key k] [] (fun r H' => r = Bytes (bk key) .unk ∧ H' = []) := by
  have hsb := singles_bytes (sha_len key) (sha_lt key)
  have hsl := shaB_len key
  refine LCalls.of Tryd.func72 rfl Tryd.ntmps72 Tryd.results72 rfl (fun Rf => ?_)
  refine LW.seq ?_
  refine LW.region ?_
  refine X.u (LU.assign (Is.nil 1)) rfl ?_
  refine LL.nil (after_code ?_)
  refine LW.seq ?_
  refine LW.region ?_
  refine X.u (LU.lits Tryd.underlying22 Tryd.sizeOf5 Tryd.zeroValue5 (ones rfl) rfl (by decide) (by decide) Elems.nil (by intro e he; cases he) rfl) rfl ?_
  refine X.u (LU.moveS Is.rfl') rfl ?_
  refine X.act (X.appendF rfl Tryd.underlying22 (El.of (P := Tryd.prog) (z := (.int .u8 0)) (size := 1) (bytes := 1) rfl rfl rfl) Is.rfl' Is.rfl' (SrcL.slice Tryd.underlying22 (by decide) (by exact byteEls_size _)) (by simp only [Option.getD_some, Option.getD_none, byteEls_length, intEls_length, List.length_append, List.length_cons, List.length_nil, List.length_map, List.length_drop, List.length_take, Int.toNat_natCast]; omega) (by simp only [Option.getD_some, Option.getD_none, byteEls_length, intEls_length, List.length_append, List.length_cons, List.length_nil, List.length_map, List.length_drop, List.length_take, Int.toNat_natCast]; omega) (fun b7 o7 c7 => ?_))
  refine X.weak (t := 7) (v := Bytes key (.tok b7 o7 c7)) (Is.of (rfl)) ?_
  refine X.u (LU.assignS Is.rfl') rfl ?_
  refine LL.nil (after_code ?_)
  refine X.meetK (α := List UInt8 × Nat × Nat × Nat) (fun ⟨l, b, o, c⟩ => [(3, Bytes l (.tok b o c))]) [2] (fun ⟨l, b, o, c⟩ => [.tail b o c] ++ Rf) (fun ⟨l, b, o, c⟩ => l = (if 64 < key.length then shaB key else key) ∧ l.length ≤ 64) ?_ ?_
  · refine LW.seq ?_
    refine LW.region ?_
    refine X.u (LU.moveS Is.rfl') rfl ?_
    refine X.u (LU.lenN Tryd.underlying22 Is.rfl' (by (simp only [Option.getD_some, Option.getD_none, byteEls_length, intEls_length, List.length_append, List.length_cons, List.length_nil, List.length_map, List.length_drop, List.length_take, Int.toNat_natCast]; rfl))) rfl ?_
    refine X.u (LU.gtr Is.rfl' Is.rfl') rfl ?_
    refine LL.nil (after_code ?_)
    refine X.cond rfl (fun h2 => ?_) (fun h2 => ?_)
    · have h2 := of_decide_eq_true h2
      refine LW.seq ?_
      refine LW.region ?_
      refine X.u (LU.moveS Is.rfl') rfl ?_
      refine X.u (LU.call (refhash_calls key k hk) Tryd.func73 rfl rfl (Opds.cons Is.rfl' Opds.nil)) rfl ?_
      refine X.act (X.alloc rfl Tryd.zeroValue95 (by exact Cells.rawagg (by decide)) (fun b4 => ?_))
      refine X.act (X.store 0 rfl Tryd.sizeOf95 Is.rfl' Is.rfl' (by exact Cells.agg) (by (simp; done)) (by exact Nat.le_of_ble_eq_true rfl) ?_)
      refine LL.nil (after_code ?_)
      rw [putAt_all (by simp [raws])]
      refine LW.know 0 rfl ?_
      refine LW.region ?_
      refine X.u (LU.lits Tryd.underlying22 Tryd.sizeOf5 Tryd.zeroValue5 (ones rfl) rfl (by decide) (by decide) Elems.nil (by intro e he; cases he) rfl) rfl ?_
      refine X.u (LU.weak (LU.sliceKA 0 rfl Tryd.underlying95 Tryd.sizeOf5 Is.rfl' (by (simp; done))) (Is.of (y := Bytes (shaB key) .full) (congrArg (fun z => LV.sl 1 z .full) hsb))) rfl ?_
      refine X.act (X.appendF rfl Tryd.underlying22 (El.of (P := Tryd.prog) (z := (.int .u8 0)) (size := 1) (bytes := 1) rfl rfl rfl) Is.rfl' Is.rfl' (SrcL.slice Tryd.underlying22 (by decide) (by exact byteEls_size _)) (by simp only [Option.getD_some, Option.getD_none, byteEls_length, intEls_length, List.length_append, List.length_cons, List.length_nil, List.length_map, List.length_drop, List.length_take, Int.toNat_natCast]; omega) (by simp only [Option.getD_some, Option.getD_none, byteEls_length, intEls_length, List.length_append, List.length_cons, List.length_nil, List.length_map, List.length_drop, List.length_take, Int.toNat_natCast]; omega) (fun b15 o15 c15 => ?_))
      refine X.weak (t := 15) (v := Bytes (shaB key) (.tok b15 o15 c15)) (Is.of (rfl)) ?_
      refine X.u (LU.assignS Is.rfl') rfl ?_
      refine LL.nil (after_rnd ?_)
      refine X.meets ((shaB key, b15, o15, c15)) rfl (EnvLe.cons (by rfl) (EnvLe.nil)) (Keeps.cons (by exact Eq.trans (b := .sl _ _ _) rfl rfl) (Keeps.nil)) (by repeat (first | exact HSub.refl _ | refine HSub.pick 0 rfl ?_ | refine HSub.drop ?_)) ?_
      exact ⟨by rw [if_pos (by omega)], by omega⟩
    · have h2 := of_decide_eq_false h2
      refine LW.skip (after_rnd ?_)
      refine X.meets ((key, b7, o7, c7)) rfl (EnvLe.cons (by rfl) (EnvLe.nil)) (Keeps.cons (by exact Eq.trans (b := .sl _ _ _) rfl rfl) (Keeps.nil)) (by repeat (exact HSub.refl _)) ?_
      exact ⟨by rw [if_neg (by omega)], by omega⟩
  · rintro ⟨l, b, o, c⟩ hI
    obtain ⟨hl, hl64⟩ := hI
    have hpd := pad_bk hl hl64
    refine LW.seq ?_
    refine LW.block ?_
    refine X.wweak (t := 3) (v := Bytes (l ++ List.replicate 0 0) (.tok b o c)) (by rw [List.replicate_zero, List.append_nil]; exact Is.rfl') ?_
    refine X.loopK (α := Nat × Nat × Nat × Nat) (fun ⟨j, b2, o2, c2⟩ => [(3, Bytes (l ++ List.replicate j 0) (.tok b2 o2 c2))]) [2] (fun ⟨j, b2, o2, c2⟩ => [.tail b2 o2 c2] ++ Rf) (fun ⟨j, b2, o2, c2⟩ => j ≤ 64 - l.length) (fun ⟨j, b2, o2, c2⟩ => 64 - l.length - j) ((0, b, o, c)) (EnvLe.cons (by rfl) (EnvLe.nil)) (by repeat (exact HSub.refl _)) ?_ ?_
    · exact Nat.zero_le _
    · rintro ⟨j, b2, o2, c2⟩ hI
      have hjl : (List.replicate j (0 : UInt8)).length = j := by simp
      refine LW.seq ?_
      refine LW.seq ?_
      refine LW.region ?_
      refine X.u (LU.moveS Is.rfl') rfl ?_
      refine X.u (LU.lenN Tryd.underlying22 Is.rfl' (by (simp only [Option.getD_some, Option.getD_none, byteEls_length, intEls_length, List.length_append, List.length_cons, List.length_nil, List.length_map, List.length_drop, List.length_take, Int.toNat_natCast]; rfl))) rfl ?_
      refine X.u (LU.lss Is.rfl' Is.rfl') rfl ?_
      refine LL.nil (after_code ?_)
      refine X.cond rfl (fun h5 => ?_) (fun h5 => ?_)
      · have h5 := of_decide_eq_true h5
        have hj2 : j < 64 - l.length := by simp only [byteEls_length, List.length_append, hjl] at h5; omega
        refine LW.skip (after_code ?_)
        refine LW.block ?_
        refine LW.region ?_
        refine X.u (LU.moveS Is.rfl') rfl ?_
        refine X.u (LU.lits Tryd.underlying22 Tryd.sizeOf5 Tryd.zeroValue5 (ones rfl) rfl (by decide) (by decide) (Elems.cons Is.rfl' (by exact Cells.raw rfl) Elems.nil) (by (simp; done)) rfl) rfl ?_
        refine X.act (X.append 0 rfl rfl Tryd.underlying22 (El.of (P := Tryd.prog) (z := (.int .u8 0)) (size := 1) (bytes := 1) rfl rfl rfl) Is.rfl' Is.rfl' (SrcL.slice Tryd.underlying22 (by decide) (by (intro e he; simp [chunks] at he; simp [he]; done))) (by simp only [Option.getD_some, Option.getD_none, byteEls_length, intEls_length, List.length_append, List.length_cons, List.length_nil, List.length_map, List.length_drop, List.length_take, Int.toNat_natCast]; omega) (by simp only [Option.getD_some, Option.getD_none, byteEls_length, intEls_length, List.length_append, List.length_cons, List.length_nil, List.length_map, List.length_drop, List.length_take, Int.toNat_natCast]; omega) (fun b21 o21 c21 => X.weak (t := 21) (Is.of (y := Bytes (l ++ List.replicate (j + 1) 0) (.tok b21 o21 c21)) ((snoc8 _ 0 0 rfl _).trans (congrArg (fun z => Bytes z _) (rep_snoc _ j)))) ?_))
        refine X.u (LU.assignS Is.rfl') rfl ?_
        refine LL.nil (after_blk (after_rnd ?_))
        refine X.next ((j + 1, b21, o21, c21)) rfl (EnvLe.cons (by rfl) (EnvLe.nil)) (Keeps.cons (by exact Eq.trans (b := .sl _ _ _) rfl rfl) (Keeps.nil)) (by repeat (exact HSub.refl _)) ?_ ?_
        · omega
        · (simp; omega)
      · have h5 := of_decide_eq_false h5
        obtain rfl : j = 64 - l.length := by simp only [byteEls_length, List.length_append, hjl] at h5; omega
        refine LW.exit (exit_code (exit_rnd (exit_blk (after_code ?_))))
        refine LW.seq ?_
        refine LW.region ?_
        refine X.u (LU.moveS Is.rfl') rfl ?_
        refine X.u (LU.assignS Is.rfl') rfl ?_
        refine LL.nil (after_code ?_)
        refine LW.ret (after_end ?_)
        refine X.ret (H' := []) (Res.one (by exact IsS rfl)) (by repeat (first | exact HSub.refl _ | refine HSub.drop ?_)) ?_
        exact ⟨by rw [← hpd]; rfl, rfl⟩
set_option maxRecDepth 100000 in
theorem rtag_calls (key msg : List UInt8) (k k' : Cap) (hk : key.length < 1099511000000) (hm : msg.length < 1099511000000) : LCalls Tryd.prog 49 [Bytes key k, Bytes msg k'] [] (fun r H' => r = D32 (tag key msg) ∧ H' = []) := by
  have hbl := bk_len key
  have hxl := xb_len 54 (bk key)
  have hxl2 := xb_len 92 (bk key)
  have hin := sha_len (xb 54 (bk key) ++ msg)
  have hib := singles_bytes hin (sha_lt _)
  have hil := shaB_len (xb 54 (bk key) ++ msg)
  refine LCalls.of Tryd.func49 rfl Tryd.ntmps49 Tryd.results49 rfl (fun Rf => ?_)
  refine LW.seq ?_
  refine LW.region ?_
  refine X.act (X.alloc rfl Tryd.zeroValue95 (by exact Cells.rawagg (by decide)) (fun b4 => ?_))
  refine LL.nil (after_code ?_)
  refine LW.seq ?_
  refine LW.region ?_
  refine X.u (LU.moveS Is.rfl') rfl ?_
  refine X.u (LU.call (rblock_calls key k (by omega)) Tryd.func72 rfl rfl (Opds.cons Is.rfl' Opds.nil)) rfl ?_
  refine X.u (LU.assignS Is.rfl') rfl ?_
  refine LL.nil (after_code ?_)
  refine LW.seq ?_
  refine LW.region ?_
  refine X.u (LU.moveS Is.rfl') rfl ?_
  refine X.act (X.call (xored_calls (bk key) .unk 54 (by omega)) Tryd.func74 rfl rfl rfl (HSub.refl _) (Opds.cons Is.rfl' (Opds.cons Is.rfl' Opds.nil)) ?_)
  rintro r H' ⟨tb, to, tc, rfl, rfl⟩
  refine X.u (LU.moveS Is.rfl') rfl ?_
  refine X.act (X.append 0 rfl rfl Tryd.underlying22 (El.of (P := Tryd.prog) (z := (.int .u8 0)) (size := 1) (bytes := 1) rfl rfl rfl) Is.rfl' Is.rfl' (SrcL.slice Tryd.underlying22 (by decide) (by exact byteEls_size _)) (by simp only [Option.getD_some, Option.getD_none, byteEls_length, intEls_length, List.length_append, List.length_cons, List.length_nil, List.length_map, List.length_drop, List.length_take, Int.toNat_natCast]; omega) (by simp only [Option.getD_some, Option.getD_none, byteEls_length, intEls_length, List.length_append, List.length_cons, List.length_nil, List.length_map, List.length_drop, List.length_take, Int.toNat_natCast]; omega) (fun b12 o12 c12 => X.weak (t := 12) (Is.of (y := Bytes (xb 54 (bk key) ++ msg) (.tok b12 o12 c12)) (congrArg (fun z => LV.sl 1 z (.tok b12 o12 c12)) (byteEls_append (xb 54 (bk key)) msg).symm)) ?_))
  refine X.u (LU.call (refhash_calls (xb 54 (bk key) ++ msg) (.tok b12 o12 c12) (by simp; omega)) Tryd.func73 rfl rfl (Opds.cons Is.rfl' Opds.nil)) rfl ?_
  refine X.act (X.alloc rfl Tryd.zeroValue95 (by exact Cells.rawagg (by decide)) (fun b6 => ?_))
  refine X.act (X.store 0 rfl Tryd.sizeOf95 Is.rfl' Is.rfl' (by exact Cells.agg) (by (simp; done)) (by exact Nat.le_of_ble_eq_true rfl) ?_)
  refine LL.nil (after_code ?_)
  refine LW.seq ?_
  rw [putAt_all (by simp [raws])]
  refine LW.know 0 rfl ?_
  refine A.all (m := 6) (S := #[false, false, false, false, false, false]) rfl (by kernel_rfl) rfl ?_
  refine LA.step (i := 0) (rs := [2]) (by kernel_rfl) ?_
  refine LAs.cons (S' := #[true, false, false, false, false, false]) rfl (by kernel_rfl) ?_ ?_
  · refine A.u (LU.moveS Is.rfl') rfl ?_
    refine LA.step (i := 1) (rs := [2]) (by kernel_rfl) ?_
    refine LAs.cons (S' := #[true, true, false, false, false, false]) rfl (by kernel_rfl) ?_ ?_
    · refine A.act (X.call (xored_calls (bk key) .unk 92 (by omega)) Tryd.func74 rfl rfl rfl (HSub.refl _) (Opds.cons Is.rfl' (Opds.cons Is.rfl' Opds.nil)) ?_)
      rintro r H' ⟨tb2, to2, tc2, rfl, rfl⟩
      refine LA.step (i := 2) (rs := []) (by kernel_rfl) ?_
      refine LAs.cons (S' := #[true, true, true, false, false, false]) rfl (by kernel_rfl) ?_ LAs.nil
      refine A.u (LU.weak (LU.sliceKA 1 rfl Tryd.underlying95 Tryd.sizeOf5 Is.rfl' (by (simp; done))) (Is.of (y := Bytes (shaB (xb 54 (bk key) ++ msg)) .full) (congrArg (fun z => LV.sl 1 z .full) hib))) rfl ?_
      refine LA.step (i := 3) (rs := []) (by kernel_rfl) ?_
      refine LAs.cons (S' := #[true, true, true, true, false, false]) rfl (by kernel_rfl) ?_ LAs.nil
      refine A.act (X.append 0 rfl rfl Tryd.underlying22 (El.of (P := Tryd.prog) (z := (.int .u8 0)) (size := 1) (bytes := 1) rfl rfl rfl) Is.rfl' Is.rfl' (SrcL.slice Tryd.underlying22 (by decide) (by exact byteEls_size _)) (by simp only [Option.getD_some, Option.getD_none, byteEls_length, intEls_length, List.length_append, List.length_cons, List.length_nil, List.length_map, List.length_drop, List.length_take, Int.toNat_natCast]; omega) (by simp only [Option.getD_some, Option.getD_none, byteEls_length, intEls_length, List.length_append, List.length_cons, List.length_nil, List.length_map, List.length_drop, List.length_take, Int.toNat_natCast]; omega) (fun b17 o17 c17 => A.weak (t := 17) (Is.of (y := Bytes (xb 92 (bk key) ++ shaB (xb 54 (bk key) ++ msg)) (.tok b17 o17 c17)) (congrArg (fun z => LV.sl 1 z (.tok b17 o17 c17)) (byteEls_append (xb 92 (bk key)) (shaB (xb 54 (bk key) ++ msg))).symm)) ?_))
      refine LA.step (i := 4) (rs := []) (by kernel_rfl) ?_
      refine LAs.cons (S' := #[true, true, true, true, true, false]) rfl (by kernel_rfl) ?_ LAs.nil
      refine A.u (LU.call (refhash_calls (xb 92 (bk key) ++ shaB (xb 54 (bk key) ++ msg)) (.tok b17 o17 c17) (by simp; omega)) Tryd.func73 rfl rfl (Opds.cons Is.rfl' Opds.nil)) rfl ?_
      refine LA.step (i := 5) (rs := []) (by kernel_rfl) ?_
      refine LAs.cons (S' := #[true, true, true, true, true, true]) rfl (by kernel_rfl) ?_ LAs.nil
      refine A.act (X.store 3 rfl Tryd.sizeOf95 Is.rfl' Is.rfl' (by exact Cells.agg) (by (simp; done)) (by exact Nat.le_of_ble_eq_true rfl) ?_)
      refine LA.done (by kernel_rfl) (after_code ?_)
      refine LW.ret (after_end ?_)
      rw [putAt_all (by simp [raws])]
      refine X.ret (H' := []) (by exact Res.cell1 0 rfl rfl ⟨Tryd.sizeOf95, Tryd.isAgg95⟩ (Part.whole (by (simp; done))) (by exact IsA rfl)) (by repeat (first | exact HSub.refl _ | refine HSub.drop ?_)) ?_
      exact ⟨rfl, rfl⟩
    refine LAs.cons (S' := #[true, false, true, false, false, false]) rfl (by kernel_rfl) ?_ LAs.nil
    refine A.u (LU.weak (LU.sliceKA 0 rfl Tryd.underlying95 Tryd.sizeOf5 Is.rfl' (by (simp; done))) (Is.of (y := Bytes (shaB (xb 54 (bk key) ++ msg)) .full) (congrArg (fun z => LV.sl 1 z .full) hib))) rfl ?_
    refine LA.step (i := 1) (rs := []) (by kernel_rfl) ?_
    refine LAs.cons (S' := #[true, true, true, false, false, false]) rfl (by kernel_rfl) ?_ LAs.nil
    refine A.act (X.call (xored_calls (bk key) .unk 92 (by omega)) Tryd.func74 rfl rfl rfl (HSub.refl _) (Opds.cons Is.rfl' (Opds.cons Is.rfl' Opds.nil)) ?_)
    rintro r H' ⟨tb2, to2, tc2, rfl, rfl⟩
    refine LA.step (i := 3) (rs := []) (by kernel_rfl) ?_
    refine LAs.cons (S' := #[true, true, true, true, false, false]) rfl (by kernel_rfl) ?_ LAs.nil
    refine A.act (X.append 0 rfl rfl Tryd.underlying22 (El.of (P := Tryd.prog) (z := (.int .u8 0)) (size := 1) (bytes := 1) rfl rfl rfl) Is.rfl' Is.rfl' (SrcL.slice Tryd.underlying22 (by decide) (by exact byteEls_size _)) (by simp only [Option.getD_some, Option.getD_none, byteEls_length, intEls_length, List.length_append, List.length_cons, List.length_nil, List.length_map, List.length_drop, List.length_take, Int.toNat_natCast]; omega) (by simp only [Option.getD_some, Option.getD_none, byteEls_length, intEls_length, List.length_append, List.length_cons, List.length_nil, List.length_map, List.length_drop, List.length_take, Int.toNat_natCast]; omega) (fun b17 o17 c17 => A.weak (t := 17) (Is.of (y := Bytes (xb 92 (bk key) ++ shaB (xb 54 (bk key) ++ msg)) (.tok b17 o17 c17)) (congrArg (fun z => LV.sl 1 z (.tok b17 o17 c17)) (byteEls_append (xb 92 (bk key)) (shaB (xb 54 (bk key) ++ msg))).symm)) ?_))
    refine LA.step (i := 4) (rs := []) (by kernel_rfl) ?_
    refine LAs.cons (S' := #[true, true, true, true, true, false]) rfl (by kernel_rfl) ?_ LAs.nil
    refine A.u (LU.call (refhash_calls (xb 92 (bk key) ++ shaB (xb 54 (bk key) ++ msg)) (.tok b17 o17 c17) (by simp; omega)) Tryd.func73 rfl rfl (Opds.cons Is.rfl' Opds.nil)) rfl ?_
    refine LA.step (i := 5) (rs := []) (by kernel_rfl) ?_
    refine LAs.cons (S' := #[true, true, true, true, true, true]) rfl (by kernel_rfl) ?_ LAs.nil
    refine A.act (X.store 3 rfl Tryd.sizeOf95 Is.rfl' Is.rfl' (by exact Cells.agg) (by (simp; done)) (by exact Nat.le_of_ble_eq_true rfl) ?_)
    refine LA.done (by kernel_rfl) (after_code ?_)
    refine LW.ret (after_end ?_)
    rw [putAt_all (by simp [raws])]
    refine X.ret (H' := []) (by exact Res.cell1 0 rfl rfl ⟨Tryd.sizeOf95, Tryd.isAgg95⟩ (Part.whole (by (simp; done))) (by exact IsA rfl)) (by repeat (first | exact HSub.refl _ | refine HSub.drop ?_)) ?_
    exact ⟨rfl, rfl⟩
  refine LAs.cons (S' := #[false, false, true, false, false, false]) rfl (by kernel_rfl) ?_ LAs.nil
  refine A.u (LU.weak (LU.sliceKA 0 rfl Tryd.underlying95 Tryd.sizeOf5 Is.rfl' (by (simp; done))) (Is.of (y := Bytes (shaB (xb 54 (bk key) ++ msg)) .full) (congrArg (fun z => LV.sl 1 z .full) hib))) rfl ?_
  refine LA.step (i := 0) (rs := []) (by kernel_rfl) ?_
  refine LAs.cons (S' := #[true, false, true, false, false, false]) rfl (by kernel_rfl) ?_ LAs.nil
  refine A.u (LU.moveS Is.rfl') rfl ?_
  refine LA.step (i := 1) (rs := []) (by kernel_rfl) ?_
  refine LAs.cons (S' := #[true, true, true, false, false, false]) rfl (by kernel_rfl) ?_ LAs.nil
  refine A.act (X.call (xored_calls (bk key) .unk 92 (by omega)) Tryd.func74 rfl rfl rfl (HSub.refl _) (Opds.cons Is.rfl' (Opds.cons Is.rfl' Opds.nil)) ?_)
  rintro r H' ⟨tb2, to2, tc2, rfl, rfl⟩
  refine LA.step (i := 3) (rs := []) (by kernel_rfl) ?_
  refine LAs.cons (S' := #[true, true, true, true, false, false]) rfl (by kernel_rfl) ?_ LAs.nil
  refine A.act (X.append 0 rfl rfl Tryd.underlying22 (El.of (P := Tryd.prog) (z := (.int .u8 0)) (size := 1) (bytes := 1) rfl rfl rfl) Is.rfl' Is.rfl' (SrcL.slice Tryd.underlying22 (by decide) (by exact byteEls_size _)) (by simp only [Option.getD_some, Option.getD_none, byteEls_length, intEls_length, List.length_append, List.length_cons, List.length_nil, List.length_map, List.length_drop, List.length_take, Int.toNat_natCast]; omega) (by simp only [Option.getD_some, Option.getD_none, byteEls_length, intEls_length, List.length_append, List.length_cons, List.length_nil, List.length_map, List.length_drop, List.length_take, Int.toNat_natCast]; omega) (fun b17 o17 c17 => A.weak (t := 17) (Is.of (y := Bytes (xb 92 (bk key) ++ shaB (xb 54 (bk key) ++ msg)) (.tok b17 o17 c17)) (congrArg (fun z => LV.sl 1 z (.tok b17 o17 c17)) (byteEls_append (xb 92 (bk key)) (shaB (xb 54 (bk key) ++ msg))).symm)) ?_))
  refine LA.step (i := 4) (rs := []) (by kernel_rfl) ?_
  refine LAs.cons (S' := #[true, true, true, true, true, false]) rfl (by kernel_rfl) ?_ LAs.nil
  refine A.u (LU.call (refhash_calls (xb 92 (bk key) ++ shaB (xb 54 (bk key) ++ msg)) (.tok b17 o17 c17) (by simp; omega)) Tryd.func73 rfl rfl (Opds.cons Is.rfl' Opds.nil)) rfl ?_
  refine LA.step (i := 5) (rs := []) (by kernel_rfl) ?_
  refine LAs.cons (S' := #[true, true, true, true, true, true]) rfl (by kernel_rfl) ?_ LAs.nil
  refine A.act (X.store 3 rfl Tryd.sizeOf95 Is.rfl' Is.rfl' (by exact Cells.agg) (by (simp; done)) (by exact Nat.le_of_ble_eq_true rfl) ?_)
  refine LA.done (by kernel_rfl) (after_code ?_)
  refine LW.ret (after_end ?_)
  rw [putAt_all (by simp [raws])]
  refine X.ret (H' := []) (by exact Res.cell1 0 rfl rfl ⟨Tryd.sizeOf95, Tryd.isAgg95⟩ (Part.whole (by (simp; done))) (by exact IsA rfl)) (by repeat (first | exact HSub.refl _ | refine HSub.drop ?_)) ?_
  exact ⟨rfl, rfl⟩
end Go.Proofs.YtnfeepmgdahmgaaDoor
