/- Just a message's own tag, whole, is taken under a key. -/
import Derived.Test.YtlkkajflgpmacaaDoorMcC
set_option linter.unusedVariables false
set_option linter.unusedSimpArgs false
namespace Go.Proofs.YtlkkajflgpmacaaDoor
open Go.RowKit Go.L
def tagB (key msg : List UInt8) : List UInt8 := (tag key msg).map UInt8.ofNat
theorem tagB_len (key msg : List UInt8) : (tagB key msg).length = 32 := by unfold tagB; rw [List.length_map, tag_len]
set_option maxRecDepth 100000 in
theorem check_calls (key msg tg : List UInt8) (k k' k2 : Cap) (h1 : key.length < 1099511000000) (h2 : msg.length < 1099511000000) (h3 : tg.length < 1099511000000) : LCalls Tryd.prog 30 [Bytes key k, Bytes msg k', Bytes tg k2] [kw] (fun r H' => r = bl (decide (tagB key msg = tg)) ∧ H' = [kw]) := by
  have htl := tag_len key msg
  have htb := singles_bytes htl (tag_lt key msg)
  have hbl := tagB_len key msg
  refine LCalls.of Tryd.func30 rfl Tryd.ntmps30 Tryd.results30 rfl (fun Rf => ?_)
  refine LW.seq ?_
  refine LW.region ?_
  refine X.u (LU.assignR Is.rfl') rfl ?_
  refine LL.nil (after_code ?_)
  refine LW.seq ?_
  refine LW.region ?_
  refine X.u (LU.moveS Is.rfl') rfl ?_
  refine X.u (LU.moveS Is.rfl') rfl ?_
  refine X.act (X.call (tag_calls key msg k k' (by omega) (by omega)) Tryd.func23 rfl rfl rfl (by (refine HSub.pick 0 rfl ?_); exact HSub.refl _) (Opds.cons Is.rfl' (Opds.cons Is.rfl' Opds.nil)) ?_)
  rintro r H' ⟨rfl, rfl⟩
  refine X.act (X.alloc rfl Tryd.zeroValue25 (by exact Cells.rawagg (by decide)) (fun b7 => ?_))
  refine X.act (X.store 0 rfl Tryd.sizeOf25 Is.rfl' Is.rfl' (by exact Cells.agg) (by (simp; done)) (by exact Nat.le_of_ble_eq_true rfl) ?_)
  refine LL.nil (after_code ?_)
  refine LW.seq ?_
  rw [putAt_all (by simp [raws])]
  refine LW.know 0 rfl ?_
  refine LW.region ?_
  refine X.u (LU.weak (LU.sliceKA 0 rfl Tryd.underlying25 Tryd.sizeOf5 Is.rfl' (by (simp; done))) (Is.of (y := Bytes (tagB key msg) .full) (congrArg (fun z => LV.sl 1 z .full) htb))) rfl ?_
  refine X.u (LU.moveS Is.rfl') rfl ?_
  refine X.u (LU.call (equal_calls (tagB key msg) tg .full k2 (by omega) (by omega)) Tryd.func21 rfl rfl (Opds.cons Is.rfl' (Opds.cons Is.rfl' Opds.nil))) rfl ?_
  refine X.u (LU.assignR Is.rfl') rfl ?_
  refine LL.nil (after_code ?_)
  refine LW.ret (after_end ?_)
  refine X.ret (H' := [kw]) (Res.one (by exact IsR rfl)) (by repeat (first | exact HSub.refl _ | refine HSub.pick 0 rfl ?_ | refine HSub.pick 1 rfl ?_ | refine HSub.pick 2 rfl ?_ | refine HSub.pick 3 rfl ?_ | refine HSub.pick 4 rfl ?_ | refine HSub.drop ?_)) ?_
  exact ⟨rfl, rfl⟩
theorem singles_take {l : List Nat} {n m : Nat} (h : l.length = n) (hm : m ≤ n) (hb : ∀ x ∈ l, x < 256) : singles (((l.map u8).drop 0).take m) = byteEls ((l.map UInt8.ofNat).take m) := by
  have h1 := singles_bytes h hb
  have h2 := congrArg (List.take m) h1
  simp only [singles, byteEls, List.map_take] at h2 ⊢
  rw [← h2, List.take_take, Nat.min_eq_left hm]
set_option maxRecDepth 100000 in
theorem checks_calls (key msg tg : List UInt8) (h1 : key.length < 140737488355328) (h2 : msg.length < 140737488355328) (h3 : tg.length < 140737488355328) : LCalls Tryd.prog 12 [Bytes key .unk, Bytes msg .unk, Bytes tg .unk] [kw] (fun r H' => r = bl true ∧ H' = [kw]) := by
  have htl := tag_len key msg
  have htb := singles_bytes htl (tag_lt key msg)
  have ht31 := singles_take htl (show 31 ≤ 32 by decide) (tag_lt key msg)
  have hbl := tagB_len key msg
  refine LCalls.of Tryd.func12 rfl Tryd.ntmps12 Tryd.results12 rfl (fun Rf => ?_)
  refine LW.seq ?_
  refine LW.region ?_
  refine X.u (LU.assignR Is.rfl') rfl ?_
  refine LL.nil (after_code ?_)
  refine LW.seq ?_
  refine LW.seq ?_
  refine LW.region ?_
  refine X.u (LU.moveS Is.rfl') rfl ?_
  refine X.u (LU.lenN Tryd.underlying22 Is.rfl' (by (simp only [Option.getD_some, Option.getD_none, byteEls_length, intEls_length, List.length_append, List.length_cons, List.length_nil, List.length_map, List.length_drop, List.length_take, Int.toNat_natCast]; rfl))) rfl ?_
  refine X.u (LU.moveS Is.rfl') rfl ?_
  refine X.u (LU.lenN Tryd.underlying22 Is.rfl' (by (simp only [Option.getD_some, Option.getD_none, byteEls_length, intEls_length, List.length_append, List.length_cons, List.length_nil, List.length_map, List.length_drop, List.length_take, Int.toNat_natCast]; rfl))) rfl ?_
  refine X.u (LU.addN Is.rfl' Is.rfl' (wrap_i64 (by omega) (by omega))) rfl ?_
  refine X.u (LU.moveS Is.rfl') rfl ?_
  refine X.u (LU.lenN Tryd.underlying22 Is.rfl' (by (simp only [Option.getD_some, Option.getD_none, byteEls_length, intEls_length, List.length_append, List.length_cons, List.length_nil, List.length_map, List.length_drop, List.length_take, Int.toNat_natCast]; rfl))) rfl ?_
  refine X.u (LU.addN Is.rfl' Is.rfl' (wrap_i64 (by omega) (by omega))) rfl ?_
  refine X.u (LU.gtr Is.rfl' Is.rfl') rfl ?_
  refine LL.nil (after_code ?_)
  refine X.cond rfl (fun h1 => ?_) (fun h1 => ?_)
  · try have h1 := of_decide_eq_true h1
    refine LW.seq ?_
    refine LW.region ?_
    refine X.u (LU.call1 0 rfl (lives3_calls) Tryd.func22 rfl rfl Opds.nil) rfl ?_
    refine X.u (LU.assignR Is.rfl') rfl ?_
    refine LL.nil (after_code ?_)
    refine LW.ret (ret_code (after_end ?_))
    refine X.ret (H' := [kw]) (Res.one (by exact IsR rfl)) (by exact HSub.refl _) ?_
    exact ⟨rfl, rfl⟩
  · try have h1 := of_decide_eq_false h1
    refine LW.skip (after_code ?_)
    refine LW.seq ?_
    refine LW.region ?_
    refine X.u (LU.moveS Is.rfl') rfl ?_
    refine X.u (LU.moveS Is.rfl') rfl ?_
    refine X.u (LU.call (rtag_calls key msg .unk .unk (by omega) (by omega)) Tryd.func24 rfl rfl (Opds.cons Is.rfl' (Opds.cons Is.rfl' Opds.nil))) rfl ?_
    refine X.act (X.alloc rfl Tryd.zeroValue25 (by exact Cells.rawagg (by decide)) (fun b7 => ?_))
    refine X.act (X.store 0 rfl Tryd.sizeOf25 Is.rfl' Is.rfl' (by exact Cells.agg) (by (simp; done)) (by exact Nat.le_of_ble_eq_true rfl) ?_)
    refine LL.nil (after_code ?_)
    refine LW.seq ?_
    rw [putAt_all (by simp [raws])]
    refine LW.know 0 rfl ?_
    have hlk : key.length < 1099511000000 ∧ msg.length < 1099511000000 ∧ tg.length < 1099511000000 := by omega
    refine X.drawM 36 rfl (by kernel_rfl) rfl ?_
    refine QD.u (LU.moveS Is.rfl') rfl ?_
    refine QD.u (LU.moveS Is.rfl') rfl ?_
    refine QD.u (LU.weak (LU.sliceKA 0 rfl Tryd.underlying25 Tryd.sizeOf5 Is.rfl' (by (simp; done))) (Is.of (y := Bytes (tagB key msg) .full) (congrArg (fun z => LV.sl 1 z .full) htb))) rfl ?_
    refine QD.u (LU.weak (LU.call1 1 rfl (check_calls key msg (tagB key msg) .unk .unk .full hlk.1 hlk.2.1 (by omega)) Tryd.func30 rfl rfl (Opds.cons Is.rfl' (Opds.cons Is.rfl' (Opds.cons Is.rfl' Opds.nil)))) (asB (c := true) rfl (by simp))) rfl ?_
    refine QD.u (LU.moveR Is.rfl') rfl ?_
    refine QD.doT rfl rfl (LU.moveS (by exact Is.rfl')) rfl ?_
    refine QD.doT rfl rfl (LU.moveS (by exact Is.rfl')) rfl ?_
    refine QD.doT rfl rfl (LU.moveS (by exact Is.rfl')) rfl ?_
    refine QD.doT rfl rfl (LU.call1 1 rfl (check_calls key msg tg .unk .unk .unk hlk.1 hlk.2.1 hlk.2.2) Tryd.func30 rfl rfl (Opds.cons (by exact Is.rfl') (Opds.cons (by exact Is.rfl') (Opds.cons (by exact Is.rfl') Opds.nil)))) rfl ?_
    refine QD.doT rfl rfl (LU.moveS (by exact Is.rfl')) rfl ?_
    refine QD.doT rfl rfl (LU.tostr Tryd.underlying22 Tryd.underlying5 Tryd.underlying9 (by exact Is.rfl')) rfl ?_
    refine QD.doT rfl rfl (LU.weak (LU.sliceKA 0 rfl Tryd.underlying25 Tryd.sizeOf5 (by exact Is.rfl') (by (simp; done))) (Is.of (y := Bytes (tagB key msg) .full) (congrArg (fun z => LV.sl 1 z .full) htb))) rfl ?_
    refine QD.doT rfl rfl (LU.tostr Tryd.underlying22 Tryd.underlying5 Tryd.underlying9 (by exact Is.rfl')) rfl ?_
    refine QD.doT rfl rfl (LU.streqN (by exact Is.rfl') (by exact Is.rfl')) rfl ?_
    refine QD.doT rfl rfl (LU.weak (LU.booleq Tryd.underlying4 (by exact Is.rfl') (by exact Is.rfl')) (asB (c := true) rfl (by simp [eq_comm]))) rfl ?_
    refine QD.u (LU.pickT Is.rfl' (by exact Is.rfl')) rfl ?_
    refine QD.u (LU.moveR Is.rfl') rfl ?_
    refine QD.doT rfl rfl (LU.moveS (by exact Is.rfl')) rfl ?_
    refine QD.doT rfl rfl (LU.moveS (by exact Is.rfl')) rfl ?_
    refine QD.doT rfl rfl (LU.weak (LU.sliceKH 0 rfl Tryd.underlying25 Tryd.sizeOf5 (by exact Is.rfl') (by exact Is.rfl') (by omega) (by omega) (by (simp; done))) (Is.of (y := Bytes ((tagB key msg).take 31) .unk) (by exact congrArg (fun z => LV.sl 1 z .unk) ht31))) rfl ?_
    refine QD.doT rfl rfl (LU.weak (LU.call1 1 rfl (check_calls key msg ((tagB key msg).take 31) .unk .unk .unk hlk.1 hlk.2.1 (by simp; omega)) Tryd.func30 rfl rfl (Opds.cons (by exact Is.rfl') (Opds.cons (by exact Is.rfl') (Opds.cons (by exact Is.rfl') Opds.nil)))) (asB (c := false) rfl (by rw [decide_eq_false_iff_not]; intro e; have := congrArg List.length e; simp at this; omega))) rfl ?_
    refine QD.doT rfl rfl (LU.not (by exact Is.rfl')) rfl ?_
    refine QD.u (LU.pickT Is.rfl' (by exact Is.rfl')) rfl ?_
    refine QD.u (LU.moveR Is.rfl') rfl ?_
    refine QD.doT rfl rfl (LU.moveS (by exact Is.rfl')) rfl ?_
    refine QD.doT rfl rfl (LU.moveS (by exact Is.rfl')) rfl ?_
    refine QD.doT rfl rfl (LU.weak (LU.sliceKA 0 rfl Tryd.underlying25 Tryd.sizeOf5 (by exact Is.rfl') (by (simp; done))) (Is.of (y := Bytes (tagB key msg) .full) (congrArg (fun z => LV.sl 1 z .full) htb))) rfl ?_
    refine QD.doT rfl rfl (LU.lits Tryd.underlying22 Tryd.sizeOf5 Tryd.zeroValue5 (ones rfl) rfl (by decide) (by decide) (Elems.cons (by exact Is.rfl') (by exact Cells.raw rfl) Elems.nil) (by simp) rfl) rfl ?_
    refine QD.doT rfl rfl (LU.weak (LU.append Tryd.underlying22 (El.of (P := Tryd.prog) (z := (.int .u8 0)) (size := 1) (bytes := 1) rfl rfl rfl) (by exact Is.rfl') (by exact Is.rfl') (SrcL.slice Tryd.underlying22 (by decide) (by (intro e he; simp [chunks] at he; simp [he]; done))) (by simp only [Option.getD_some, Option.getD_none, byteEls_length, intEls_length, List.length_append, List.length_cons, List.length_nil, List.length_map, List.length_drop, List.length_take, Int.toNat_natCast]; omega) (by simp only [Option.getD_some, Option.getD_none, byteEls_length, intEls_length, List.length_append, List.length_cons, List.length_nil, List.length_map, List.length_drop, List.length_take, Int.toNat_natCast]; omega)) (Is.of (y := Bytes (tagB key msg ++ [0]) .unk) (snoc8 (tagB key msg) 0 0 rfl _))) rfl ?_
    refine QD.doT rfl rfl (LU.weak (LU.call1 1 rfl (check_calls key msg (tagB key msg ++ [0]) .unk .unk .unk hlk.1 hlk.2.1 (by simp; omega)) Tryd.func30 rfl rfl (Opds.cons (by exact Is.rfl') (Opds.cons (by exact Is.rfl') (Opds.cons (by exact Is.rfl') Opds.nil)))) (asB (c := false) rfl (by simp))) rfl ?_
    refine QD.doT rfl rfl (LU.not (by exact Is.rfl')) rfl ?_
    refine QD.u (LU.pickT Is.rfl' (by exact Is.rfl')) rfl ?_
    refine QD.u (LU.moveR Is.rfl') rfl ?_
    refine QD.doT rfl rfl (LU.call1 1 rfl (lives3_calls) Tryd.func22 rfl rfl Opds.nil) rfl ?_
    refine QD.u (LU.pickT Is.rfl' (by exact Is.rfl')) rfl ?_
    refine QD.u (LU.assignR Is.rfl') rfl ?_
    refine QD.nil ?_
    refine LL.nil (after_code ?_)
    refine LW.ret (after_end ?_)
    refine X.ret (H' := [kw]) (Res.one (by exact IsR rfl)) (by repeat (first | exact HSub.refl _ | refine HSub.pick 0 rfl ?_ | refine HSub.pick 1 rfl ?_ | refine HSub.pick 2 rfl ?_ | refine HSub.pick 3 rfl ?_ | refine HSub.pick 4 rfl ?_ | refine HSub.drop ?_)) ?_
    exact ⟨rfl, rfl⟩
theorem MacChecks_row (x0 x1 x2 : List (List LV)) (h0 : ∀ c ∈ x0, QInt .u8 c) (h1 : x0.length * 1 ≤ reachBytes) (h2 : ∀ c ∈ x1, QInt .u8 c) (h3 : x1.length * 1 ≤ reachBytes) (h4 : ∀ c ∈ x2, QInt .u8 c) (h5 : x2.length * 1 ≤ reachBytes) : LCalls Tryd.prog 12 [.sl 1 x0 .unk, .sl 1 x1 .unk, .sl 1 x2 .unk] [kw] (fun r H' => r = bl true ∧ H' = [kw]) := by
  obtain ⟨a, rfl⟩ := decode_bytes h0
  obtain ⟨b, rfl⟩ := decode_bytes h2
  obtain ⟨c, rfl⟩ := decode_bytes h4
  rw [byteEls_length] at h1 h3 h5
  have hr := reachBytes_lt
  exact checks_calls a b c (by omega) (by omega) (by omega)
end Go.Proofs.YtlkkajflgpmacaaDoor
