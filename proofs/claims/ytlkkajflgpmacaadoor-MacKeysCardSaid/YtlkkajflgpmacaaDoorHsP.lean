/- Any bytes are told to the base 16, and any text is read so, or refused. -/
import Derived.Test.YtlkkajflgpmacaaDoorHsO
set_option linter.unusedVariables false
set_option linter.unusedSimpArgs false
namespace Go.Proofs.YtlkkajflgpmacaaDoor
open Go.RowKit Go.L
theorem snocB (l : List UInt8) (n : Nat) (h : n < 256) (k : Cap) : LV.sl 1 (byteEls l ++ [[.raw (.int .u8 n)]]) k = Bytes (l ++ [UInt8.ofNat n]) k := by
  have : (UInt8.ofNat n).toNat = n := UInt8.toNat_ofNat_of_lt' h
  simp [byteEls, Nat.mod_eq_of_lt h]
theorem dgI_ok {n : Nat} (h : ¬ dgI n < 0) : dgI n = hv n ∧ hv n < 16 := by
  have := hv_le n
  unfold dgI at h ⊢
  split
  · rename_i h1; rw [if_pos h1] at h; omega
  · exact ⟨rfl, by omega⟩
theorem dgI_bad {n : Nat} (h : dgI n < 0) : ¬ hv n < 16 := by
  unfold dgI at h
  split at h <;> omega
set_option maxRecDepth 100000 in
theorem unhex_calls (s : List UInt8) (hs : s.length < 1099511627776) : LCalls Tryd.prog 27 [Str s] [] (fun r H' => r = .tup [Bytes (unL s) .unk, i64 (unE s)] ∧ H' = []) := by
  refine LCalls.of Tryd.func27 rfl Tryd.ntmps27 Tryd.results27 rfl (fun Rf => ?_)
  refine LW.seq ?_
  refine LW.region ?_
  refine X.u (LU.assign (Is.nil 1)) rfl ?_
  refine X.u (LU.assignR Is.rfl') rfl ?_
  refine LL.nil (after_code ?_)
  refine LW.seq ?_
  refine LW.seq ?_
  refine LW.region ?_
  refine X.u (LU.moveR Is.rfl') rfl ?_
  refine X.u (LU.strlenN Tryd.underlying9 Is.rfl') rfl ?_
  refine X.u (LU.rem Is.rfl' Is.rfl' (by omega)) rfl ?_
  refine X.u (LU.eql Is.rfl' Is.rfl') rfl ?_
  refine LL.nil (after_code ?_)
  refine X.cond rfl (fun h1 => ?_) (fun h1 => ?_)
  · have h1 : s.length % 2 = 1 := by simp at h1; rw [Int.tmod_eq_emod_of_nonneg (by omega)] at h1; omega
    refine LW.seq ?_
    refine LW.region ?_
    refine X.u (LU.assign (Is.nil 1)) rfl ?_
    refine X.u (LU.assignR Is.rfl') rfl ?_
    refine LL.nil (after_code ?_)
    refine LW.ret (ret_code (after_end ?_))
    refine X.ret (H' := []) (Res.two (by exact IsS rfl) (by exact IsR rfl)) (by exact HSub.refl _) ?_
    exact ⟨by unfold unL unE; rw [unR_odd h1]; rfl, rfl⟩
  · have h1 : s.length % 2 ≠ 1 := by simp at h1; rw [Int.tmod_eq_emod_of_nonneg (by omega)] at h1; omega
    refine LW.skip (after_code ?_)
    refine LW.seq ?_
    refine LW.region ?_
    refine X.u (LU.moveR Is.rfl') rfl ?_
    refine X.u (LU.strlenN Tryd.underlying9 Is.rfl') rfl ?_
    refine X.u (LU.weak (LU.quoN Is.rfl' Is.rfl' (by omega) (tdiv_i64 (by omega) (by omega) (by omega))) (asI (b := ((s.length / 2 : Nat) : Int)) rfl (by rw [Int.tdiv_eq_ediv_of_nonneg (by omega)]; omega))) rfl ?_
    refine X.act (X.make0 rfl Tryd.underlying22 (El.of (P := Tryd.prog) (z := (.int .u8 0)) (size := 1) (bytes := 1) rfl rfl rfl) Is.rfl' Is.rfl' (by omega) (by omega) (fun b15 o15 c15 => ?_))
    refine X.u (LU.assignS Is.rfl') rfl ?_
    refine LL.nil (after_code ?_)
    refine LW.seq ?_
    refine LW.seq ?_
    refine LW.region ?_
    refine X.u (LU.assignR Is.rfl') rfl ?_
    refine LL.nil (after_code ?_)
    refine LW.block ?_
    refine X.loopK (α := Nat × Nat × Nat × Nat) (fun ⟨j, tb, to, tc⟩ => [(5, i64 ((2 * j : Nat))), (4, Bytes (outs s j) (.tok tb to tc))]) [0] (fun ⟨j, tb, to, tc⟩ => [.tail tb to tc] ++ Rf) (fun ⟨j, tb, to, tc⟩ => j ≤ s.length / 2 ∧ ∀ q, q < j → pok s q = true) (fun ⟨j, tb, to, tc⟩ => s.length / 2 - j) ((0, b15, o15, c15)) (EnvLe.cons (by rfl) (EnvLe.cons (by rfl) (EnvLe.nil))) (by exact HSub.refl _) ?_ ?_
    · exact ⟨Nat.zero_le _, fun q hq => by omega⟩
    · rintro ⟨j, tb, to, tc⟩ hI
      have hol := outs_len s j
      refine LW.seq ?_
      refine LW.seq ?_
      refine LW.region ?_
      refine X.u (LU.moveR Is.rfl') rfl ?_
      refine X.u (LU.moveR Is.rfl') rfl ?_
      refine X.u (LU.strlenN Tryd.underlying9 Is.rfl') rfl ?_
      refine X.u (LU.lss Is.rfl' Is.rfl') rfl ?_
      refine LL.nil (after_code ?_)
      refine X.cond rfl (fun h5 => ?_) (fun h5 => ?_)
      · try have h5 := of_decide_eq_true h5
        refine LW.skip (after_code ?_)
        refine LW.seq ?_
        refine LW.block ?_
        refine LW.seq ?_
        have h5 : 2 * j + 1 < s.length := by omega
        have hx1 := UInt8.toNat_lt (s.getD (2 * j) 0)
        have hx2 := UInt8.toNat_lt (s.getD (2 * j + 1) 0)
        refine X.drawM 11 rfl (by kernel_rfl) rfl ?_
        refine QD.u (LU.moveR Is.rfl') rfl ?_
        refine QD.u (LU.moveR Is.rfl') rfl ?_
        refine QD.u (LU.weak (LU.stratN Tryd.underlying9 Is.rfl' Is.rfl' (by omega) (by omega)) (Is.of (y := u8 (s.getD (2 * j) 0).toNat) (by rw [Int.toNat_natCast]))) rfl ?_
        refine QD.u (LU.call (digit_calls _ hx1) Tryd.func39 rfl rfl (Opds.cons Is.rfl' Opds.nil)) rfl ?_
        refine QD.u (LU.moveR Is.rfl') rfl ?_
        refine QD.u (LU.moveR Is.rfl') rfl ?_
        refine QD.u (LU.addN Is.rfl' Is.rfl' (wrap_i64 (by omega) (by omega))) rfl ?_
        refine QD.u (LU.weak (LU.stratN Tryd.underlying9 Is.rfl' Is.rfl' (by omega) (by omega)) (Is.of (y := u8 (s.getD (2 * j + 1) 0).toNat) (by rw [show ((2 * j : Nat) : Int) + 1 = ((2 * j + 1 : Nat) : Int) by omega, Int.toNat_natCast]))) rfl ?_
        refine QD.u (LU.call (digit_calls _ hx2) Tryd.func39 rfl rfl (Opds.cons Is.rfl' Opds.nil)) rfl ?_
        refine QD.u (LU.assignR Is.rfl') rfl ?_
        refine QD.u (LU.assignR Is.rfl') rfl ?_
        refine QD.nil ?_
        refine LL.nil (after_code ?_)
        refine LW.seq ?_
        refine LW.seq ?_
        refine LW.region ?_
        refine X.u (LU.moveR Is.rfl') rfl ?_
        refine X.u (LU.lss Is.rfl' Is.rfl') rfl ?_
        refine X.u (LU.moveR Is.rfl') rfl ?_
        refine X.gF rfl rfl (fun hg => LU.moveR (by exact Is.rfl')) rfl ?_
        refine X.gF rfl rfl (fun hg => LU.lss (by exact Is.whenN hg) (by exact Is.rfl')) rfl ?_
        refine X.u (LU.pickOr Is.rfl' Is.rfl' (fun hq => (by exact Is.whenN hq))) rfl ?_
        refine LL.nil (after_code ?_)
        refine X.cond rfl (fun h8 => ?_) (fun h8 => ?_)
        · have h8 : dgI (s.getD (2 * j) 0).toNat < 0 ∨ dgI (s.getD (2 * j + 1) 0).toNat < 0 := by simpa only [Bool.or_eq_true, decide_eq_true_eq] using h8
          have hbad : unR s = none := unR_bad (j := j) (by omega) (by unfold pok; rcases h8 with h | h; rw [decide_eq_false (dgI_bad h), Bool.false_and]; rw [decide_eq_false (dgI_bad h), Bool.and_false])
          refine LW.seq ?_
          refine LW.region ?_
          refine X.u (LU.assign (Is.nil 1)) rfl ?_
          refine X.u (LU.assignR Is.rfl') rfl ?_
          refine LL.nil (after_code ?_)
          refine LW.ret (ret_code (ret_blk (ret_code (ret_rnd (ret_blk (ret_code (after_end ?_)))))))
          refine X.ret (H' := []) (Res.two (by exact IsS rfl) (by exact IsR rfl)) (by repeat (first | exact HSub.refl _ | refine HSub.pick 0 rfl ?_ | refine HSub.pick 1 rfl ?_ | refine HSub.pick 2 rfl ?_ | refine HSub.pick 3 rfl ?_ | refine HSub.pick 4 rfl ?_ | refine HSub.drop ?_)) ?_
          exact ⟨by unfold unL unE; rw [hbad]; rfl, rfl⟩
        · have h8 : ¬ dgI (s.getD (2 * j) 0).toNat < 0 ∧ ¬ dgI (s.getD (2 * j + 1) 0).toNat < 0 := by simpa only [Bool.or_eq_false_iff, decide_eq_false_iff_not] using h8
          have h8 := And.intro (dgI_ok h8.1) (dgI_ok h8.2)
          have hpv : 16 * hv (s.getD (2 * j) 0).toNat + hv (s.getD (2 * j + 1) 0).toNat < 256 := by omega
          have hpw := pair_val ⟨hv (s.getD (2 * j) 0).toNat, h8.1.2⟩ ⟨hv (s.getD (2 * j + 1) 0).toNat, h8.2.2⟩
          refine LW.skip (after_code ?_)
          refine LW.region ?_
          refine X.u (LU.moveS Is.rfl') rfl ?_
          refine X.u (LU.moveR Is.rfl') rfl ?_
          refine X.u (LU.shl Is.rfl' Is.rfl' (by decide)) rfl ?_
          refine X.u (LU.moveR Is.rfl') rfl ?_
          refine X.u (LU.or Is.rfl' Is.rfl') rfl ?_
          refine X.u (LU.weak (LU.conv Tryd.underlying3 Tryd.underlying5 Is.rfl') (Is.of (y := u8 (pv s j)) (by rw [h8.1.1, h8.2.1]; exact congrArg (fun z => LV.raw (.int .u8 z)) hpw))) rfl ?_
          refine X.u (LU.lits Tryd.underlying22 Tryd.sizeOf5 Tryd.zeroValue5 (ones rfl) rfl (by decide) (by decide) (Elems.cons Is.rfl' (by exact Cells.raw rfl) Elems.nil) (by simp) rfl) rfl ?_
          refine X.act (X.append 0 rfl rfl Tryd.underlying22 (El.of (P := Tryd.prog) (z := (.int .u8 0)) (size := 1) (bytes := 1) rfl rfl rfl) Is.rfl' Is.rfl' (SrcL.slice Tryd.underlying22 (by decide) (by (intro e he; simp [chunks] at he; simp [he]; done))) (by simp only [Option.getD_some, Option.getD_none, byteEls_length, intEls_length, List.length_append, List.length_cons, List.length_nil, List.length_map, List.length_drop, List.length_take, Int.toNat_natCast]; omega) (by simp only [Option.getD_some, Option.getD_none, byteEls_length, intEls_length, List.length_append, List.length_cons, List.length_nil, List.length_map, List.length_drop, List.length_take, Int.toNat_natCast]; omega) (fun b44 o44 c44 => X.weak (t := 44) (Is.of (y := Bytes (outs s (j + 1)) (.tok b44 o44 c44)) (by exact (snocB _ _ hpv _).trans (congrArg (fun z => Bytes z _) (outs_succ s j)))) ?_))
          refine X.u (LU.assignS Is.rfl') rfl ?_
          refine LL.nil (after_blk (after_code ?_))
          refine LW.region ?_
          refine X.u (LU.moveR Is.rfl') rfl ?_
          refine X.u (LU.weak (LU.addN Is.rfl' Is.rfl' (wrap_i64 (by omega) (by omega))) (asI (b := ((2 * (j + 1) : Nat) : Int)) rfl (by omega))) rfl ?_
          refine X.u (LU.assignR Is.rfl') rfl ?_
          refine LL.nil (after_rnd ?_)
          refine X.next ((j + 1, b44, o44, c44)) rfl (EnvLe.cons (by rfl) (EnvLe.cons (by rfl) (EnvLe.nil))) (Keeps.cons (by exact Eq.trans (b := .raw _) rfl rfl) (Keeps.nil)) (by exact HSub.refl _) ?_ ?_
          · refine ⟨by omega, fun q hq => ?_⟩
            by_cases hqj : q = j
            · subst hqj; unfold pok; simp only [Bool.and_eq_true, decide_eq_true_eq]; exact ⟨h8.1.2, h8.2.2⟩
            · exact hI.2 q (by omega)
          · (simp; omega)
      · try have h5 := of_decide_eq_false h5
        obtain rfl : j = s.length / 2 := by omega
        have hok : unR s = some (outs s (s.length / 2)) := unR_ok (by omega) hI.2
        refine LW.exit (exit_code (exit_rnd (exit_blk (after_code ?_))))
        refine LW.seq ?_
        refine LW.region ?_
        refine X.u (LU.moveS Is.rfl') rfl ?_
        refine X.u (LU.assignS Is.rfl') rfl ?_
        refine X.u (LU.assignR Is.rfl') rfl ?_
        refine LL.nil (after_code ?_)
        refine LW.ret (after_end ?_)
        refine X.ret (H' := []) (Res.two (by exact IsS rfl) (by exact IsR rfl)) (by repeat (first | exact HSub.refl _ | refine HSub.pick 0 rfl ?_ | refine HSub.pick 1 rfl ?_ | refine HSub.pick 2 rfl ?_ | refine HSub.pick 3 rfl ?_ | refine HSub.pick 4 rfl ?_ | refine HSub.drop ?_)) ?_
        exact ⟨by unfold unL unE; rw [hok]; rfl, rfl⟩
theorem sub_hx : ∀ i : Fin 16, (hxL.drop i.val).take (i.val + 1 - i.val) = [hxL.getD i.val 0] := by decide +kernel
set_option maxRecDepth 100000 in
theorem rhex_calls (b : List UInt8) (hb : b.length < 1099511627776) : LCalls Tryd.prog 29 [Bytes b .unk] [] (fun r H' => r = Str (hexB b) ∧ H' = []) := by
  refine LCalls.of Tryd.func29 rfl Tryd.ntmps29 Tryd.results29 rfl (fun Rf => ?_)
  refine LW.seq ?_
  refine LW.region ?_
  refine X.u (LU.assignR Is.rfl') rfl ?_
  refine LL.nil (after_code ?_)
  refine LW.seq ?_
  refine LW.region ?_
  refine X.u (LU.assignR Is.rfl') rfl ?_
  refine LL.nil (after_code ?_)
  refine LW.seq ?_
  refine LW.seq ?_
  refine LW.region ?_
  refine X.u (LU.assignR Is.rfl') rfl ?_
  refine LL.nil (after_code ?_)
  refine LW.block ?_
  refine X.wweak (t := 3) (v := Str (hexB (b.take 0))) (by rw [List.take_zero]; exact Is.rfl') ?_
  refine X.loopK (α := Nat) (fun i => [(4, i64 i), (3, Str (hexB (b.take i)))]) [0, 2] (fun _ => _) (fun i => i ≤ b.length) (fun i => b.length - i) (0) (EnvLe.cons (by rfl) (EnvLe.cons (by rfl) (EnvLe.nil))) (HSub.refl _) ?_ ?_
  · exact Nat.zero_le _
  · rintro i hI
    have hll := hexB_len (b.take i)
    rw [List.length_take] at hll
    have hx := UInt8.toNat_lt (b.getD i 0)
    refine LW.seq ?_
    refine LW.seq ?_
    refine LW.region ?_
    refine X.u (LU.moveR Is.rfl') rfl ?_
    refine X.u (LU.moveS Is.rfl') rfl ?_
    refine X.u (LU.lenN Tryd.underlying22 Is.rfl' (by (simp only [Option.getD_some, Option.getD_none, byteEls_length, intEls_length, List.length_append, List.length_cons, List.length_nil, List.length_map, List.length_drop, List.length_take, Int.toNat_natCast]; rfl))) rfl ?_
    refine X.u (LU.lss Is.rfl' Is.rfl') rfl ?_
    refine LL.nil (after_code ?_)
    refine X.cond rfl (fun h3 => ?_) (fun h3 => ?_)
    · try have h3 := of_decide_eq_true h3
      refine LW.skip (after_code ?_)
      refine LW.seq ?_
      refine LW.block ?_
      refine LW.seq ?_
      refine LW.region ?_
      refine X.u (LU.moveS Is.rfl') rfl ?_
      refine X.u (LU.moveR Is.rfl') rfl ?_
      refine X.u (LU.at Tryd.underlying22 ⟨Tryd.sizeOf5, Tryd.isAgg5⟩ Is.rfl' Is.rfl' (by omega) (byteEls_D i (by omega) (by omega)) (by simp)) rfl ?_
      refine X.u (LU.load ⟨Tryd.sizeOf5, Tryd.isAgg5⟩ Is.rfl' (by (simp; done)) (Part.one rfl)) rfl ?_
      refine X.u (LU.weak (LU.quo Is.rfl' Is.rfl' (by omega)) (asI (b := (((b.getD i 0).toNat / 16 : Nat) : Int)) rfl (by rw [Int.tdiv_eq_ediv_of_nonneg (by omega), wrap_u8 (by omega) (by omega)]; omega))) rfl ?_
      refine X.u (LU.convN Tryd.underlying5 Tryd.underlying3 Is.rfl' (wrap_i64 (by omega) (by omega))) rfl ?_
      refine X.u (LU.assignR Is.rfl') rfl ?_
      refine LL.nil (after_code ?_)
      refine LW.seq ?_
      refine LW.region ?_
      refine X.u (LU.moveS Is.rfl') rfl ?_
      refine X.u (LU.moveR Is.rfl') rfl ?_
      refine X.u (LU.at Tryd.underlying22 ⟨Tryd.sizeOf5, Tryd.isAgg5⟩ Is.rfl' Is.rfl' (by omega) (byteEls_D i (by omega) (by omega)) (by simp)) rfl ?_
      refine X.u (LU.load ⟨Tryd.sizeOf5, Tryd.isAgg5⟩ Is.rfl' (by (simp; done)) (Part.one rfl)) rfl ?_
      refine X.u (LU.weak (LU.rem Is.rfl' Is.rfl' (by omega)) (asI (b := (((b.getD i 0).toNat % 16 : Nat) : Int)) rfl (by rw [Int.tmod_eq_emod_of_nonneg (by omega)]; omega))) rfl ?_
      refine X.u (LU.convN Tryd.underlying5 Tryd.underlying3 Is.rfl' (wrap_i64 (by omega) (by omega))) rfl ?_
      refine X.u (LU.assignR Is.rfl') rfl ?_
      refine LL.nil (after_code ?_)
      refine X.drawM 12 rfl (by kernel_rfl) rfl ?_
      refine QD.u (LU.moveR Is.rfl') rfl ?_
      refine QD.u (LU.moveR Is.rfl') rfl ?_
      refine QD.u (LU.moveR Is.rfl') rfl ?_
      refine QD.u (LU.addN Is.rfl' Is.rfl' (wrap_i64 (by omega) (by omega))) rfl ?_
      refine QD.u (LU.weak (LU.strsliceN (s := hxL) (l := some _) (h := some _) Tryd.underlying9 ⟨_, Is.rfl'⟩ ⟨_, Is.rfl'⟩ (by simp only [Option.getD_some]; omega) (by simp only [Option.getD_some]; omega) (by simp only [Option.getD_some, hxL_len]; omega) Is.rfl') (Is.of (y := Str [hxL.getD ((b.getD i 0).toNat / 16) 0]) (by simp only [Option.getD_some]; rw [show ((((b.getD i 0).toNat / 16 : Nat) : Int) + 1).toNat = (b.getD i 0).toNat / 16 + 1 by omega, Int.toNat_natCast]; exact congrArg Str (sub_hx ⟨(b.getD i 0).toNat / 16, by omega⟩)))) rfl ?_
      refine QD.u (LU.strcatN Is.rfl' Is.rfl' (by (simp; omega))) rfl ?_
      refine QD.u (LU.moveR Is.rfl') rfl ?_
      refine QD.u (LU.moveR Is.rfl') rfl ?_
      refine QD.u (LU.addN Is.rfl' Is.rfl' (wrap_i64 (by omega) (by omega))) rfl ?_
      refine QD.u (LU.weak (LU.strsliceN (s := hxL) (l := some _) (h := some _) Tryd.underlying9 ⟨_, Is.rfl'⟩ ⟨_, Is.rfl'⟩ (by simp only [Option.getD_some]; omega) (by simp only [Option.getD_some]; omega) (by simp only [Option.getD_some, hxL_len]; omega) Is.rfl') (Is.of (y := Str [hxL.getD ((b.getD i 0).toNat % 16) 0]) (by simp only [Option.getD_some]; rw [show ((((b.getD i 0).toNat % 16 : Nat) : Int) + 1).toNat = (b.getD i 0).toNat % 16 + 1 by omega, Int.toNat_natCast]; exact congrArg Str (sub_hx ⟨(b.getD i 0).toNat % 16, by omega⟩)))) rfl ?_
      refine QD.u (LU.weak (LU.strcatN Is.rfl' Is.rfl' (by (simp; omega))) (Is.of (y := Str (hexB (b.take (i + 1)))) (by rw [hexB_succ (by omega)]; simp))) rfl ?_
      refine QD.u (LU.assignR Is.rfl') rfl ?_
      refine QD.nil ?_
      refine LL.nil (after_blk (after_code ?_))
      refine LW.region ?_
      refine X.u (LU.moveR Is.rfl') rfl ?_
      refine X.u (LU.addN Is.rfl' Is.rfl' (wrap_i64 (by omega) (by omega))) rfl ?_
      refine X.u (LU.assignR Is.rfl') rfl ?_
      refine LL.nil (after_rnd ?_)
      refine X.next (i + 1) rfl (EnvLe.cons (by rfl) (EnvLe.cons (by rfl) (EnvLe.nil))) (Keeps.cons (by exact Eq.trans (b := .sl _ _ _) rfl rfl) (Keeps.cons (by exact Eq.trans (b := .raw _) rfl rfl) (Keeps.nil))) (HSub.refl _) ?_ ?_
      · omega
      · omega
    · try have h3 := of_decide_eq_false h3
      obtain rfl : i = b.length := by omega
      refine LW.exit (exit_code (exit_rnd (exit_blk (after_code ?_))))
      refine LW.seq ?_
      refine LW.region ?_
      refine X.u (LU.moveR Is.rfl') rfl ?_
      refine X.u (LU.assignR Is.rfl') rfl ?_
      refine LL.nil (after_code ?_)
      refine LW.ret (after_end ?_)
      refine X.ret (H' := []) (Res.one (by exact IsR rfl)) (by exact HSub.refl _) ?_
      exact ⟨by rw [List.take_of_length_le (Nat.le_refl _)], rfl⟩
set_option maxRecDepth 100000 in
theorem runhex_calls (s : List UInt8) (hs : s.length < 1099511627776) : LCalls Tryd.prog 28 [Str s] [] (fun r H' => r = .tup [Bytes (unL s) .unk, i64 (unE s)] ∧ H' = []) := by
  refine LCalls.of Tryd.func28 rfl Tryd.ntmps28 Tryd.results28 rfl (fun Rf => ?_)
  refine LW.seq ?_
  refine LW.region ?_
  refine X.u (LU.assign (Is.nil 1)) rfl ?_
  refine X.u (LU.assignR Is.rfl') rfl ?_
  refine LL.nil (after_code ?_)
  refine LW.seq ?_
  refine LW.seq ?_
  refine LW.region ?_
  refine X.u (LU.moveR Is.rfl') rfl ?_
  refine X.u (LU.strlenN Tryd.underlying9 Is.rfl') rfl ?_
  refine X.u (LU.rem Is.rfl' Is.rfl' (by omega)) rfl ?_
  refine X.u (LU.eql Is.rfl' Is.rfl') rfl ?_
  refine LL.nil (after_code ?_)
  refine X.cond rfl (fun h1 => ?_) (fun h1 => ?_)
  · have h1 : s.length % 2 = 1 := by simp at h1; rw [Int.tmod_eq_emod_of_nonneg (by omega)] at h1; omega
    refine LW.seq ?_
    refine LW.region ?_
    refine X.u (LU.assign (Is.nil 1)) rfl ?_
    refine X.u (LU.assignR Is.rfl') rfl ?_
    refine LL.nil (after_code ?_)
    refine LW.ret (ret_code (after_end ?_))
    refine X.ret (H' := []) (Res.two (by exact IsS rfl) (by exact IsR rfl)) (by exact HSub.refl _) ?_
    exact ⟨by unfold unL unE; rw [unR_odd h1]; rfl, rfl⟩
  · have h1 : s.length % 2 ≠ 1 := by simp at h1; rw [Int.tmod_eq_emod_of_nonneg (by omega)] at h1; omega
    refine LW.skip (after_code ?_)
    refine LW.seq ?_
    refine LW.region ?_
    refine X.u (LU.assign (Is.nil 1)) rfl ?_
    refine LL.nil (after_code ?_)
    refine LW.seq ?_
    refine LW.seq ?_
    refine LW.region ?_
    refine X.u (LU.assignR Is.rfl') rfl ?_
    refine LL.nil (after_code ?_)
    refine LW.block ?_
    refine X.wghost (HSub.tail0 0 0 0 (Nat.le_refl _) _) ?_
    refine X.wweak (t := 4) (v := Bytes (outs s 0) (.tok 0 0 0)) (Is.full_tok 0 0) ?_
    refine X.loopK (α := Nat × Nat × Nat × Nat) (fun ⟨j, tb, to, tc⟩ => [(5, i64 ((2 * j : Nat))), (4, Bytes (outs s j) (.tok tb to tc))]) [0] (fun ⟨j, tb, to, tc⟩ => [.tail tb to tc] ++ Rf) (fun ⟨j, tb, to, tc⟩ => j ≤ s.length / 2 ∧ ∀ q, q < j → pok s q = true) (fun ⟨j, tb, to, tc⟩ => s.length / 2 - j) ((0, 0, 0, 0)) (EnvLe.cons (by rfl) (EnvLe.cons (by rfl) (EnvLe.nil))) (by exact HSub.refl _) ?_ ?_
    · exact ⟨Nat.zero_le _, fun q hq => by omega⟩
    · rintro ⟨j, tb, to, tc⟩ hI
      have hol := outs_len s j
      refine LW.seq ?_
      refine LW.seq ?_
      refine LW.region ?_
      refine X.u (LU.moveR Is.rfl') rfl ?_
      refine X.u (LU.moveR Is.rfl') rfl ?_
      refine X.u (LU.strlenN Tryd.underlying9 Is.rfl') rfl ?_
      refine X.u (LU.lss Is.rfl' Is.rfl') rfl ?_
      refine LL.nil (after_code ?_)
      refine X.cond rfl (fun h5 => ?_) (fun h5 => ?_)
      · try have h5 := of_decide_eq_true h5
        refine LW.skip (after_code ?_)
        refine LW.seq ?_
        refine LW.block ?_
        refine LW.seq ?_
        have h5 : 2 * j + 1 < s.length := by omega
        have hx1 := UInt8.toNat_lt (s.getD (2 * j) 0)
        have hx2 := UInt8.toNat_lt (s.getD (2 * j + 1) 0)
        have hle1 := hv_le (s.getD (2 * j) 0).toNat
        have hle2 := hv_le (s.getD (2 * j + 1) 0).toNat
        refine LW.region ?_
        refine X.u (LU.moveR Is.rfl') rfl ?_
        refine X.u (LU.moveR Is.rfl') rfl ?_
        refine X.u (LU.weak (LU.stratN Tryd.underlying9 Is.rfl' Is.rfl' (by omega) (by omega)) (Is.of (y := u8 (s.getD (2 * j) 0).toNat) (by rw [Int.toNat_natCast]))) rfl ?_
        refine X.u (LU.call (rdigit_calls _ hx1) Tryd.func40 rfl rfl (Opds.cons Is.rfl' Opds.nil)) rfl ?_
        refine X.u (LU.assignR Is.rfl') rfl ?_
        refine LL.nil (after_code ?_)
        refine LW.seq ?_
        refine LW.region ?_
        refine X.u (LU.moveR Is.rfl') rfl ?_
        refine X.u (LU.moveR Is.rfl') rfl ?_
        refine X.u (LU.addN Is.rfl' Is.rfl' (wrap_i64 (by omega) (by omega))) rfl ?_
        refine X.u (LU.weak (LU.stratN Tryd.underlying9 Is.rfl' Is.rfl' (by omega) (by omega)) (Is.of (y := u8 (s.getD (2 * j + 1) 0).toNat) (by rw [show ((2 * j : Nat) : Int) + 1 = ((2 * j + 1 : Nat) : Int) by omega, Int.toNat_natCast]))) rfl ?_
        refine X.u (LU.call (rdigit_calls _ hx2) Tryd.func40 rfl rfl (Opds.cons Is.rfl' Opds.nil)) rfl ?_
        refine X.u (LU.assignR Is.rfl') rfl ?_
        refine LL.nil (after_code ?_)
        refine LW.seq ?_
        refine LW.seq ?_
        refine LW.region ?_
        refine X.u (LU.moveR Is.rfl') rfl ?_
        refine X.u (LU.eql Is.rfl' Is.rfl') rfl ?_
        refine X.u (LU.moveR Is.rfl') rfl ?_
        refine X.gF rfl rfl (fun hg => LU.moveR (by exact Is.rfl')) rfl ?_
        refine X.gF rfl rfl (fun hg => LU.eql (by exact Is.whenN hg) (by exact Is.rfl')) rfl ?_
        refine X.u (LU.pickOr Is.rfl' Is.rfl' (fun hq => (by exact Is.whenN hq))) rfl ?_
        refine LL.nil (after_code ?_)
        refine X.cond rfl (fun h9 => ?_) (fun h9 => ?_)
        · have h9 : hv (s.getD (2 * j) 0).toNat = 16 ∨ hv (s.getD (2 * j + 1) 0).toNat = 16 := by simp only [Bool.or_eq_true, decide_eq_true_eq] at h9; omega
          have hbad : unR s = none := unR_bad (j := j) (by omega) (by unfold pok; rcases h9 with h | h; rw [decide_eq_false (by omega), Bool.false_and]; rw [decide_eq_false (by omega : ¬ hv (s.getD (2 * j + 1) 0).toNat < 16), Bool.and_false])
          refine LW.seq ?_
          refine LW.region ?_
          refine X.u (LU.assign (Is.nil 1)) rfl ?_
          refine X.u (LU.assignR Is.rfl') rfl ?_
          refine LL.nil (after_code ?_)
          refine LW.ret (ret_code (ret_blk (ret_code (ret_rnd (ret_blk (ret_code (after_end ?_)))))))
          refine X.ret (H' := []) (Res.two (by exact IsS rfl) (by exact IsR rfl)) (by repeat (first | exact HSub.refl _ | refine HSub.pick 0 rfl ?_ | refine HSub.pick 1 rfl ?_ | refine HSub.pick 2 rfl ?_ | refine HSub.pick 3 rfl ?_ | refine HSub.pick 4 rfl ?_ | refine HSub.drop ?_)) ?_
          exact ⟨by unfold unL unE; rw [hbad]; rfl, rfl⟩
        · have h9 : hv (s.getD (2 * j) 0).toNat < 16 ∧ hv (s.getD (2 * j + 1) 0).toNat < 16 := by simp only [Bool.or_eq_false_iff, decide_eq_false_iff_not] at h9; omega
          have hpv : 16 * hv (s.getD (2 * j) 0).toNat + hv (s.getD (2 * j + 1) 0).toNat < 256 := by omega
          refine LW.skip (after_code ?_)
          refine LW.region ?_
          refine X.u (LU.moveS Is.rfl') rfl ?_
          refine X.u (LU.moveR Is.rfl') rfl ?_
          refine X.u (LU.mulN Is.rfl' Is.rfl' (wrap_i64 (by omega) (by omega))) rfl ?_
          refine X.u (LU.moveR Is.rfl') rfl ?_
          refine X.u (LU.addN Is.rfl' Is.rfl' (wrap_i64 (by omega) (by omega))) rfl ?_
          refine X.u (LU.weak (LU.convN Tryd.underlying3 Tryd.underlying5 Is.rfl' (wrap_u8 (by omega) (by omega))) (Is.of (y := u8 (pv s j)) (by unfold pv; rfl))) rfl ?_
          refine X.u (LU.lits Tryd.underlying22 Tryd.sizeOf5 Tryd.zeroValue5 (ones rfl) rfl (by decide) (by decide) (Elems.cons Is.rfl' (by exact Cells.raw rfl) Elems.nil) (by simp) rfl) rfl ?_
          refine X.act (X.append 0 rfl rfl Tryd.underlying22 (El.of (P := Tryd.prog) (z := (.int .u8 0)) (size := 1) (bytes := 1) rfl rfl rfl) Is.rfl' Is.rfl' (SrcL.slice Tryd.underlying22 (by decide) (by (intro e he; simp [chunks] at he; simp [he]; done))) (by simp only [Option.getD_some, Option.getD_none, byteEls_length, intEls_length, List.length_append, List.length_cons, List.length_nil, List.length_map, List.length_drop, List.length_take, Int.toNat_natCast]; omega) (by simp only [Option.getD_some, Option.getD_none, byteEls_length, intEls_length, List.length_append, List.length_cons, List.length_nil, List.length_map, List.length_drop, List.length_take, Int.toNat_natCast]; omega) (fun b40 o40 c40 => X.weak (t := 40) (Is.of (y := Bytes (outs s (j + 1)) (.tok b40 o40 c40)) (by exact (snocB _ _ hpv _).trans (congrArg (fun z => Bytes z _) (outs_succ s j)))) ?_))
          refine X.u (LU.assignS Is.rfl') rfl ?_
          refine LL.nil (after_blk (after_code ?_))
          refine LW.region ?_
          refine X.u (LU.moveR Is.rfl') rfl ?_
          refine X.u (LU.weak (LU.addN Is.rfl' Is.rfl' (wrap_i64 (by omega) (by omega))) (asI (b := ((2 * (j + 1) : Nat) : Int)) rfl (by omega))) rfl ?_
          refine X.u (LU.assignR Is.rfl') rfl ?_
          refine LL.nil (after_rnd ?_)
          refine X.next ((j + 1, b40, o40, c40)) rfl (EnvLe.cons (by rfl) (EnvLe.cons (by rfl) (EnvLe.nil))) (Keeps.cons (by exact Eq.trans (b := .raw _) rfl rfl) (Keeps.nil)) (by exact HSub.refl _) ?_ ?_
          · refine ⟨by omega, fun q hq => ?_⟩
            by_cases hqj : q = j
            · subst hqj; unfold pok; simp only [Bool.and_eq_true, decide_eq_true_eq]; exact h9
            · exact hI.2 q (by omega)
          · (simp; omega)
      · try have h5 := of_decide_eq_false h5
        obtain rfl : j = s.length / 2 := by omega
        have hok : unR s = some (outs s (s.length / 2)) := unR_ok (by omega) hI.2
        refine LW.exit (exit_code (exit_rnd (exit_blk (after_code ?_))))
        refine LW.seq ?_
        refine LW.region ?_
        refine X.u (LU.moveS Is.rfl') rfl ?_
        refine X.u (LU.assignS Is.rfl') rfl ?_
        refine X.u (LU.assignR Is.rfl') rfl ?_
        refine LL.nil (after_code ?_)
        refine LW.ret (after_end ?_)
        refine X.ret (H' := []) (Res.two (by exact IsS rfl) (by exact IsR rfl)) (by repeat (first | exact HSub.refl _ | refine HSub.pick 0 rfl ?_ | refine HSub.pick 1 rfl ?_ | refine HSub.pick 2 rfl ?_ | refine HSub.pick 3 rfl ?_ | refine HSub.pick 4 rfl ?_ | refine HSub.drop ?_)) ?_
        exact ⟨by unfold unL unE; rw [hok]; rfl, rfl⟩
end Go.Proofs.YtlkkajflgpmacaaDoor
