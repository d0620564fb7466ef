/- A long key has the tags of its digest, a short one those of it with noughts behind. -/
import Derived.Test.YtlkkajflgpmacaaDoorMcD
import Derived.Test.YtlkkajflgpmacaaDoorLogX
set_option linter.unusedVariables false
set_option linter.unusedSimpArgs false
namespace Go.Proofs.YtlkkajflgpmacaaDoor
open Go.RowKit Go.L
theorem turn_k (t : Int) (n : Nat) (h : 0 < n) : ∃ k : Nat, (IntKind.u64.wrap t).tmod (n : Int) = k ∧ k < n := by
  have h0 : 0 ≤ IntKind.u64.wrap t := by
    show (0 : Int) ≤ t % 18446744073709551616
    omega
  obtain ⟨m, hm⟩ := Int.eq_ofNat_of_zero_le h0
  refine ⟨m % n, ?_, Nat.mod_lt _ h⟩
  rw [hm, Int.ofNat_tmod]
theorem shaB_len' (key : List UInt8) : (shaB key).length = 32 := by unfold shaB; rw [List.length_map, sha_len]
theorem tag_long {key msg : List UInt8} (h : 64 < key.length) : tag (shaB key) msg = tag key msg := by
  have h2 : ¬ 64 < (shaB key).length := by rw [shaB_len']; omega
  have : bk (shaB key) = bk key := by unfold bk; rw [if_pos h, if_neg h2]
  unfold tag; rw [this]
theorem tag_zeros {key msg : List UInt8} {n : Nat} (h : key.length + n ≤ 64) : tag (key ++ List.replicate n 0) msg = tag key msg := by
  have h1 : ¬ 64 < key.length := by omega
  have h2 : ¬ 64 < (key ++ List.replicate n (0 : UInt8)).length := by simp; omega
  have : bk (key ++ List.replicate n 0) = bk key := by
    unfold bk
    rw [if_neg h1, if_neg h2]
    unfold pad64
    rw [List.append_assoc, List.replicate_append_replicate]
    congr 2
    simp; omega
  unfold tag; rw [this]
set_option maxRecDepth 100000 in
theorem keys_calls (key msg : List UInt8) (more : Int) (h1 : key.length < 140737488355328) (h2 : msg.length < 140737488355328) : LCalls Tryd.prog 9 [Bytes key .unk, Bytes msg .unk, i64 more] [kw] (fun r H' => r = bl true ∧ H' = [kw]) := by
  have htl := tag_len key msg
  refine LCalls.of Tryd.func9 rfl Tryd.ntmps9 Tryd.results9 rfl (fun Rf => ?_)
  refine LW.seq ?_
  refine LW.region ?_
  refine X.u (LU.assignR Is.rfl') rfl ?_
  refine LL.nil (after_code ?_)
  refine LW.seq ?_
  refine LW.seq ?_
  refine LW.region ?_
  refine X.u (LU.moveS Is.rfl') rfl ?_
  refine X.u (LU.lenN Tryd.underlying22 Is.rfl' (by (simp only [Option.getD_some, Option.getD_none, byteEls_length, intEls_length, List.length_append, List.length_cons, List.length_nil, List.length_map, List.length_drop, List.length_take, Int.toNat_natCast]; rfl))) rfl ?_
  refine X.u (LU.moveS Is.rfl') rfl ?_
  refine X.u (LU.lenN Tryd.underlying22 Is.rfl' (by (simp only [Option.getD_some, Option.getD_none, byteEls_length, intEls_length, List.length_append, List.length_cons, List.length_nil, List.length_map, List.length_drop, List.length_take, Int.toNat_natCast]; rfl))) rfl ?_
  refine X.u (LU.addN Is.rfl' Is.rfl' (wrap_i64 (by omega) (by omega))) rfl ?_
  refine X.u (LU.gtr Is.rfl' Is.rfl') rfl ?_
  refine LL.nil (after_code ?_)
  refine X.cond rfl (fun h1 => ?_) (fun h1 => ?_)
  · try have h1 := of_decide_eq_true h1
    refine LW.seq ?_
    refine LW.region ?_
    refine X.u (LU.call1 0 rfl (lives3_calls) Tryd.func22 rfl rfl Opds.nil) rfl ?_
    refine X.u (LU.assignR Is.rfl') rfl ?_
    refine LL.nil (after_code ?_)
    refine LW.ret (ret_code (after_end ?_))
    refine X.ret (H' := [kw]) (Res.one (by exact IsR rfl)) (by exact HSub.refl _) ?_
    exact ⟨rfl, rfl⟩
  · try have h1 := of_decide_eq_false h1
    have hlk : key.length < 1099511000000 ∧ msg.length < 1099511000000 := by omega
    refine LW.skip (after_code ?_)
    refine LW.seq ?_
    refine LW.seq ?_
    refine LW.region ?_
    refine X.u (LU.moveS Is.rfl') rfl ?_
    refine X.u (LU.lenN Tryd.underlying22 Is.rfl' (by (simp only [Option.getD_some, Option.getD_none, byteEls_length, intEls_length, List.length_append, List.length_cons, List.length_nil, List.length_map, List.length_drop, List.length_take, Int.toNat_natCast]; rfl))) rfl ?_
    refine X.u (LU.gtr Is.rfl' Is.rfl') rfl ?_
    refine LL.nil (after_code ?_)
    refine X.cond rfl (fun h3 => ?_) (fun h3 => ?_)
    · try have h3 := of_decide_eq_true h3
      refine LW.seq ?_
      refine LW.region ?_
      refine X.u (LU.moveS Is.rfl') rfl ?_
      refine X.u (LU.call1 0 rfl (hash_calls key .unk (by omega)) Tryd.func14 rfl rfl (Opds.cons Is.rfl' Opds.nil)) rfl ?_
      refine X.act (X.alloc rfl Tryd.zeroValue25 (by exact Cells.rawagg (by decide)) (fun b7 => ?_))
      refine X.act (X.store 0 rfl Tryd.sizeOf25 Is.rfl' Is.rfl' (by exact Cells.agg) (by (simp; done)) (by exact Nat.le_of_ble_eq_true rfl) ?_)
      refine LL.nil (after_code ?_)
      refine LW.seq ?_
      rw [putAt_all (by simp [raws])]
      refine LW.know 0 rfl ?_
      have hsb := singles_bytes (sha_len key) (sha_lt key)
      have hsl := shaB_len' key
      have htg := tag_long (msg := msg) (show 64 < key.length by omega)
      have htl2 := tag_len (shaB key) msg
      refine X.drawM 11 rfl (by kernel_rfl) rfl ?_
      refine QD.u (LU.moveS Is.rfl') rfl ?_
      refine QD.u (LU.moveS Is.rfl') rfl ?_
      refine QD.u (LU.call1 1 rfl (tag_calls key msg .unk .unk hlk.1 hlk.2) Tryd.func23 rfl rfl (Opds.cons Is.rfl' (Opds.cons Is.rfl' Opds.nil))) rfl ?_
      refine QD.u (LU.weak (LU.sliceKA 0 rfl Tryd.underlying25 Tryd.sizeOf5 Is.rfl' (by (simp; done))) (Is.of (y := Bytes (shaB key) .full) (congrArg (fun z => LV.sl 1 z .full) hsb))) rfl ?_
      refine QD.u (LU.moveS Is.rfl') rfl ?_
      refine QD.u (LU.call1 1 rfl (tag_calls (shaB key) msg .full .unk (by omega) hlk.2) Tryd.func23 rfl rfl (Opds.cons Is.rfl' (Opds.cons Is.rfl' Opds.nil))) rfl ?_
      refine QD.u (LU.weak (LU.eqlArr Tryd.underlying25 Tryd.underlying5 Tryd.sizeOf5 Tryd.eqGuardType25 Is.rfl' Is.rfl' (by (simp; done)) (by (simp; done))) (asB (c := true) rfl (by rw [htg]; simp))) rfl ?_
      refine QD.u (LU.moveR Is.rfl') rfl ?_
      refine QD.doT rfl rfl (LU.call1 1 rfl (lives3_calls) Tryd.func22 rfl rfl Opds.nil) rfl ?_
      refine QD.u (LU.pickT Is.rfl' (by exact Is.rfl')) rfl ?_
      refine QD.u (LU.assignR Is.rfl') rfl ?_
      refine QD.nil ?_
      refine LL.nil (after_code ?_)
      refine LW.ret (ret_code (after_end ?_))
      refine X.ret (H' := [kw]) (Res.one (by exact IsR rfl)) (by repeat (first | exact HSub.refl _ | refine HSub.pick 0 rfl ?_ | refine HSub.pick 1 rfl ?_ | refine HSub.pick 2 rfl ?_ | refine HSub.pick 3 rfl ?_ | refine HSub.pick 4 rfl ?_ | refine HSub.drop ?_)) ?_
      exact ⟨rfl, rfl⟩
    · try have h3 := of_decide_eq_false h3
      refine LW.skip (after_code ?_)
      refine LW.seq ?_
      obtain ⟨n, hn1, hn2⟩ := turn_k more (65 - key.length) (by omega)
      have hcast : (65 : Int) - (key.length : Int) = ((65 - key.length : Nat) : Int) := by omega
      refine LW.region ?_
      refine X.u (LU.moveR Is.rfl') rfl ?_
      refine X.u (LU.conv Tryd.underlying3 Tryd.underlying46 Is.rfl') rfl ?_
      refine X.u (LU.moveS Is.rfl') rfl ?_
      refine X.u (LU.lenN Tryd.underlying22 Is.rfl' (by (simp only [Option.getD_some, Option.getD_none, byteEls_length, intEls_length, List.length_append, List.length_cons, List.length_nil, List.length_map, List.length_drop, List.length_take, Int.toNat_natCast]; rfl))) rfl ?_
      refine X.u (LU.weak (LU.subN Is.rfl' Is.rfl' (wrap_i64 (by omega) (by omega))) (Is.of (y := i64 ((65 - key.length : Nat) : Int)) (congrArg i64 hcast))) rfl ?_
      refine X.u (LU.convN Tryd.underlying3 Tryd.underlying46 Is.rfl' (wrap_u64 (by omega) (by omega))) rfl ?_
      refine X.u (LU.weak (LU.rem Is.rfl' Is.rfl' (by omega)) (Is.of (y := .raw (.int .u64 ((n : Nat) : Int))) (congrArg (fun z => LV.raw (.int .u64 z)) hn1))) rfl ?_
      refine X.u (LU.convN Tryd.underlying46 Tryd.underlying3 Is.rfl' (wrap_i64 (by omega) (by omega))) rfl ?_
      refine X.u (LU.assignR Is.rfl') rfl ?_
      refine LL.nil (after_code ?_)
      refine LW.seq ?_
      have htz := tag_zeros (msg := msg) (show key.length + n ≤ 64 by omega)
      have htl2 := tag_len (key ++ List.replicate n 0) msg
      refine LW.region ?_
      refine X.u (LU.moveS Is.rfl') rfl ?_
      refine X.u (LU.moveS Is.rfl') rfl ?_
      refine X.act (X.call (tag_calls key msg .unk .unk hlk.1 hlk.2) Tryd.func23 rfl rfl rfl (by (refine HSub.pick 0 rfl ?_); exact HSub.refl _) (Opds.cons Is.rfl' (Opds.cons Is.rfl' Opds.nil)) ?_)
      rintro r H' ⟨rfl, rfl⟩
      refine X.u (LU.lits Tryd.underlying22 Tryd.sizeOf5 Tryd.zeroValue5 (ones rfl) rfl (by decide) (by decide) Elems.nil (by intro e he; cases he) rfl) rfl ?_
      refine X.u (LU.moveS Is.rfl') rfl ?_
      refine X.act (X.appendF rfl Tryd.underlying22 (El.of (P := Tryd.prog) (z := (.int .u8 0)) (size := 1) (bytes := 1) rfl rfl rfl) Is.rfl' Is.rfl' (SrcL.slice Tryd.underlying22 (by decide) (by exact byteEls_size _)) (by simp only [Option.getD_some, Option.getD_none, byteEls_length, intEls_length, List.length_append, List.length_cons, List.length_nil, List.length_map, List.length_drop, List.length_take, Int.toNat_natCast]; omega) (by simp only [Option.getD_some, Option.getD_none, byteEls_length, intEls_length, List.length_append, List.length_cons, List.length_nil, List.length_map, List.length_drop, List.length_take, Int.toNat_natCast]; omega) (fun b44 o44 c44 => ?_))
      refine X.weak (t := 44) (v := Bytes key (.tok b44 o44 c44)) (Is.of (rfl)) ?_
      refine X.u (LU.moveR Is.rfl') rfl ?_
      refine X.act (X.appendZ 0 rfl rfl Tryd.underlying22 Tryd.underlying3 Tryd.underlying9 (El.of (P := Tryd.prog) (z := (.int .u8 0)) (size := 1) (bytes := 1) rfl rfl rfl) Is.rfl' Is.rfl' (by omega) (fun b46 o46 c46 => ?_))
      refine X.u (LU.moveS Is.rfl') rfl ?_
      refine X.act (X.call (tag_calls (key ++ List.replicate n 0) msg (.tok b46 o46 c46) .unk (by simp; omega) hlk.2) Tryd.func23 rfl rfl rfl (by (refine HSub.pick 1 rfl ?_); exact HSub.refl _) (Opds.cons Is.rfl' (Opds.cons Is.rfl' Opds.nil)) ?_)
      rintro r H' ⟨rfl, rfl⟩
      refine X.u (LU.weak (LU.eqlArr Tryd.underlying25 Tryd.underlying5 Tryd.sizeOf5 Tryd.eqGuardType25 Is.rfl' Is.rfl' (by (simp; done)) (by (simp; done))) (asB (c := true) rfl (by rw [htz]; simp))) rfl ?_
      refine X.u (LU.moveR Is.rfl') rfl ?_
      refine X.doT rfl rfl (LU.call1 0 rfl (lives3_calls) Tryd.func22 rfl rfl Opds.nil) rfl ?_
      refine X.u (LU.pickT Is.rfl' (by exact Is.rfl')) rfl ?_
      refine X.u (LU.assignR Is.rfl') rfl ?_
      refine LL.nil (after_code ?_)
      refine LW.ret (after_end ?_)
      refine X.ret (H' := [kw]) (Res.one (by exact IsR rfl)) (by repeat (first | exact HSub.refl _ | refine HSub.pick 0 rfl ?_ | refine HSub.pick 1 rfl ?_ | refine HSub.pick 2 rfl ?_ | refine HSub.pick 3 rfl ?_ | refine HSub.pick 4 rfl ?_ | refine HSub.drop ?_)) ?_
      exact ⟨rfl, rfl⟩
theorem MacKeys_row (x0 x1 : List (List LV)) (more : Int) (h0 : ∀ c ∈ x0, QInt .u8 c) (h1 : x0.length * 1 ≤ reachBytes) (h2 : ∀ c ∈ x1, QInt .u8 c) (h3 : x1.length * 1 ≤ reachBytes) (h4 : (Lit.int .i64 more).wf = true) : LCalls Tryd.prog 9 [.sl 1 x0 .unk, .sl 1 x1 .unk, i64 more] [kw] (fun r H' => r = bl true ∧ H' = [kw]) := by
  obtain ⟨a, rfl⟩ := decode_bytes h0
  obtain ⟨b, rfl⟩ := decode_bytes h2
  rw [byteEls_length] at h1 h3
  have hr := reachBytes_lt
  exact keys_calls a b more (by omega) (by omega)
end Go.Proofs.YtlkkajflgpmacaaDoor
