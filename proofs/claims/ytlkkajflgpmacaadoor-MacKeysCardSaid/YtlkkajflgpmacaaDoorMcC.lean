/- The laws of keyed digests: the tags, and derived keys. -/
import Derived.Test.YtlkkajflgpmacaaDoorMcB
set_option linter.unusedVariables false
set_option linter.unusedSimpArgs false
namespace Go.Proofs.YtlkkajflgpmacaaDoor
open Go.RowKit Go.L
abbrev jefe : List UInt8 := [74, 101, 102, 101]
abbrev what_ : List UInt8 := [119, 104, 97, 116, 32, 100, 111, 32, 121, 97, 32, 119, 97, 110, 116, 32, 102, 111, 114, 32, 110, 111, 116, 104, 105, 110, 103, 63]
theorem tag_jefe : (tag jefe what_).getD 0 0 = 91 ∧ (tag jefe what_).getD 1 0 = 220 ∧ (tag jefe what_).getD 31 0 = 67 := by decide +kernel
set_option maxRecDepth 100000 in
theorem lives3_calls : LCalls Tryd.prog 22 [] [kw] (fun r H' => r = bl true ∧ H' = [kw]) := by
  obtain ⟨x, hx⟩ : ∃ x, x = tag jefe what_ := ⟨_, rfl⟩
  have hxl : x.length = 32 := by rw [hx, tag_len]
  have hx0 := tag_jefe
  have hc := tag_calls jefe what_ .unk .unk (by decide) (by decide)
  rw [← hx] at hx0 hc
  clear hx
  refine LCalls.of Tryd.func22 rfl Tryd.ntmps22 Tryd.results22 rfl (fun Rf => ?_)
  refine LW.seq ?_
  refine LW.region ?_
  refine X.u (LU.assignR Is.rfl') rfl ?_
  refine LL.nil (after_code ?_)
  refine LW.seq ?_
  refine LW.region ?_
  refine X.act (X.litO rfl Tryd.underlying22 Tryd.sizeOf5 Tryd.zeroValue5 (ones rfl) rfl (by decide) (by decide) (Elems.cons Is.rfl' (by exact Cells.raw rfl) (Elems.cons Is.rfl' (by exact Cells.raw rfl) (Elems.cons Is.rfl' (by exact Cells.raw rfl) (Elems.cons Is.rfl' (by exact Cells.raw rfl) Elems.nil)))) (by simp) rfl (fun b2 => ?_))
  refine X.act (X.mark (size := 1) 0 rfl rfl Tryd.underlying22 Tryd.underlying5 Is.rfl' (by simp) rfl (Nat.le_refl _) ?_)
  refine X.act (X.litO rfl Tryd.underlying22 Tryd.sizeOf5 Tryd.zeroValue5 (ones rfl) rfl (by decide) (by decide) (Elems.cons Is.rfl' (by exact Cells.raw rfl) (Elems.cons Is.rfl' (by exact Cells.raw rfl) (Elems.cons Is.rfl' (by exact Cells.raw rfl) (Elems.cons Is.rfl' (by exact Cells.raw rfl) (Elems.cons Is.rfl' (by exact Cells.raw rfl) (Elems.cons Is.rfl' (by exact Cells.raw rfl) (Elems.cons Is.rfl' (by exact Cells.raw rfl) (Elems.cons Is.rfl' (by exact Cells.raw rfl) (Elems.cons Is.rfl' (by exact Cells.raw rfl) (Elems.cons Is.rfl' (by exact Cells.raw rfl) (Elems.cons Is.rfl' (by exact Cells.raw rfl) (Elems.cons Is.rfl' (by exact Cells.raw rfl) (Elems.cons Is.rfl' (by exact Cells.raw rfl) (Elems.cons Is.rfl' (by exact Cells.raw rfl) (Elems.cons Is.rfl' (by exact Cells.raw rfl) (Elems.cons Is.rfl' (by exact Cells.raw rfl) (Elems.cons Is.rfl' (by exact Cells.raw rfl) (Elems.cons Is.rfl' (by exact Cells.raw rfl) (Elems.cons Is.rfl' (by exact Cells.raw rfl) (Elems.cons Is.rfl' (by exact Cells.raw rfl) (Elems.cons Is.rfl' (by exact Cells.raw rfl) (Elems.cons Is.rfl' (by exact Cells.raw rfl) (Elems.cons Is.rfl' (by exact Cells.raw rfl) (Elems.cons Is.rfl' (by exact Cells.raw rfl) (Elems.cons Is.rfl' (by exact Cells.raw rfl) (Elems.cons Is.rfl' (by exact Cells.raw rfl) (Elems.cons Is.rfl' (by exact Cells.raw rfl) (Elems.cons Is.rfl' (by exact Cells.raw rfl) Elems.nil)))))))))))))))))))))))))))) (by simp) rfl (fun b4 => ?_))
  refine X.act (X.mark (size := 1) 0 rfl rfl Tryd.underlying22 Tryd.underlying5 Is.rfl' (by simp) rfl (Nat.le_refl _) ?_)
  refine X.act (X.call (hc) Tryd.func23 rfl rfl rfl (by (refine HSub.pick 0 rfl ?_); exact HSub.refl _) (Opds.cons Is.rfl' (Opds.cons Is.rfl' Opds.nil)) ?_)
  rintro r H' ⟨rfl, rfl⟩
  refine X.act (X.alloc rfl Tryd.zeroValue25 (by exact Cells.rawagg (by decide)) (fun b1 => ?_))
  refine X.act (X.store 0 rfl Tryd.sizeOf25 Is.rfl' Is.rfl' (by exact Cells.agg) (by (simp; omega)) (by exact Nat.le_of_ble_eq_true rfl) ?_)
  refine LL.nil (after_code ?_)
  refine LW.seq ?_
  rw [putAt_all (by simp [raws, hxl])]
  refine LW.region ?_
  refine X.u (LU.atA Tryd.underlying25 Tryd.sizeOf5 Is.rfl' Is.rfl' (by omega) (by omega)) rfl ?_
  refine X.u (LU.loadO 0 rfl ⟨Tryd.sizeOf5, Tryd.isAgg5⟩ Is.rfl' (Part.one (map_atN 0 (by omega) (by omega)))) rfl ?_
  refine X.u (LU.weak (LU.eql Is.rfl' Is.rfl') (asB (c := true) rfl (by rw [hx0.1]; rfl))) rfl ?_
  refine X.u (LU.moveR Is.rfl') rfl ?_
  refine X.doT rfl rfl (LU.atA Tryd.underlying25 Tryd.sizeOf5 (by exact Is.rfl') (by exact Is.rfl') (by omega) (by omega)) rfl ?_
  refine X.doT rfl rfl (LU.loadO 0 rfl ⟨Tryd.sizeOf5, Tryd.isAgg5⟩ (by exact Is.rfl') (Part.one (map_atN 1 (by omega) (by omega)))) rfl ?_
  refine X.doT rfl rfl (LU.weak (LU.eql (by exact Is.rfl') (by exact Is.rfl')) (asB (c := true) rfl (by rw [hx0.2.1]; rfl))) rfl ?_
  refine X.u (LU.pickT Is.rfl' (by exact Is.rfl')) rfl ?_
  refine X.u (LU.moveR Is.rfl') rfl ?_
  refine X.doT rfl rfl (LU.atA Tryd.underlying25 Tryd.sizeOf5 (by exact Is.rfl') (by exact Is.rfl') (by omega) (by omega)) rfl ?_
  refine X.doT rfl rfl (LU.loadO 0 rfl ⟨Tryd.sizeOf5, Tryd.isAgg5⟩ (by exact Is.rfl') (Part.one (map_atN 31 (by omega) (by omega)))) rfl ?_
  refine X.doT rfl rfl (LU.weak (LU.eql (by exact Is.rfl') (by exact Is.rfl')) (asB (c := true) rfl (by rw [hx0.2.2]; rfl))) rfl ?_
  refine X.u (LU.pickT Is.rfl' (by exact Is.rfl')) rfl ?_
  refine X.u (LU.assignR Is.rfl') rfl ?_
  refine LL.nil (after_code ?_)
  refine LW.ret (after_end ?_)
  refine X.ret (H' := [kw]) (Res.one (by exact IsR rfl)) (by repeat (first | exact HSub.refl _ | refine HSub.pick 0 rfl ?_ | refine HSub.pick 1 rfl ?_ | refine HSub.pick 2 rfl ?_ | refine HSub.pick 3 rfl ?_ | refine HSub.pick 4 rfl ?_ | refine HSub.drop ?_)) ?_
  exact ⟨rfl, rfl⟩
set_option maxRecDepth 100000 in
theorem tags_calls (key msg : List UInt8) (h1 : key.length < 140737488355328) (h2 : msg.length < 140737488355328) : LCalls Tryd.prog 8 [Bytes key .unk, Bytes msg .unk] [kw] (fun r H' => r = bl true ∧ H' = [kw]) := by
  have htl := tag_len key msg
  refine LCalls.of Tryd.func8 rfl Tryd.ntmps8 Tryd.results8 rfl (fun Rf => ?_)
  refine LW.seq ?_
  refine LW.region ?_
  refine X.u (LU.assignR Is.rfl') rfl ?_
  refine LL.nil (after_code ?_)
  refine LW.seq ?_
  refine LW.seq ?_
  refine LW.region ?_
  refine X.u (LU.moveS Is.rfl') rfl ?_
  refine X.u (LU.lenN Tryd.underlying22 Is.rfl' (by (simp only [Option.getD_some, Option.getD_none, byteEls_length, intEls_length, List.length_append, List.length_cons, List.length_nil, List.length_map, List.length_drop, List.length_take, Int.toNat_natCast]; rfl))) rfl ?_
  refine X.u (LU.moveS Is.rfl') rfl ?_
  refine X.u (LU.lenN Tryd.underlying22 Is.rfl' (by (simp only [Option.getD_some, Option.getD_none, byteEls_length, intEls_length, List.length_append, List.length_cons, List.length_nil, List.length_map, List.length_drop, List.length_take, Int.toNat_natCast]; rfl))) rfl ?_
  refine X.u (LU.addN Is.rfl' Is.rfl' (wrap_i64 (by omega) (by omega))) rfl ?_
  refine X.u (LU.gtr Is.rfl' Is.rfl') rfl ?_
  refine LL.nil (after_code ?_)
  refine X.cond rfl (fun h1 => ?_) (fun h1 => ?_)
  · try have h1 := of_decide_eq_true h1
    refine LW.seq ?_
    refine LW.region ?_
    refine X.u (LU.call1 0 rfl (lives3_calls) Tryd.func22 rfl rfl Opds.nil) rfl ?_
    refine X.u (LU.assignR Is.rfl') rfl ?_
    refine LL.nil (after_code ?_)
    refine LW.ret (ret_code (after_end ?_))
    refine X.ret (H' := [kw]) (Res.one (by exact IsR rfl)) (by exact HSub.refl _) ?_
    exact ⟨rfl, rfl⟩
  · try have h1 := of_decide_eq_false h1
    refine LW.skip (after_code ?_)
    refine LW.seq ?_
    refine LW.region ?_
    refine X.u (LU.lits Tryd.underlying22 Tryd.sizeOf5 Tryd.zeroValue5 (ones rfl) rfl (by decide) (by decide) Elems.nil (by intro e he; cases he) rfl) rfl ?_
    refine X.u (LU.moveS Is.rfl') rfl ?_
    refine X.u (LU.weak (LU.append Tryd.underlying22 (El.of (P := Tryd.prog) (z := (.int .u8 0)) (size := 1) (bytes := 1) rfl rfl rfl) Is.rfl' Is.rfl' (SrcL.slice Tryd.underlying22 (by decide) (by exact byteEls_size _)) (by simp only [Option.getD_some, Option.getD_none, byteEls_length, intEls_length, List.length_append, List.length_cons, List.length_nil, List.length_map, List.length_drop, List.length_take, Int.toNat_natCast]; omega) (by simp only [Option.getD_some, Option.getD_none, byteEls_length, intEls_length, List.length_append, List.length_cons, List.length_nil, List.length_map, List.length_drop, List.length_take, Int.toNat_natCast]; omega)) (asS (fs := byteEls key) rfl (by simp [byteEls]))) rfl ?_
    refine X.u (LU.lits Tryd.underlying22 Tryd.sizeOf5 Tryd.zeroValue5 (ones rfl) rfl (by decide) (by decide) Elems.nil (by intro e he; cases he) rfl) rfl ?_
    refine X.u (LU.moveS Is.rfl') rfl ?_
    refine X.u (LU.weak (LU.append Tryd.underlying22 (El.of (P := Tryd.prog) (z := (.int .u8 0)) (size := 1) (bytes := 1) rfl rfl rfl) Is.rfl' Is.rfl' (SrcL.slice Tryd.underlying22 (by decide) (by exact byteEls_size _)) (by simp only [Option.getD_some, Option.getD_none, byteEls_length, intEls_length, List.length_append, List.length_cons, List.length_nil, List.length_map, List.length_drop, List.length_take, Int.toNat_natCast]; omega) (by simp only [Option.getD_some, Option.getD_none, byteEls_length, intEls_length, List.length_append, List.length_cons, List.length_nil, List.length_map, List.length_drop, List.length_take, Int.toNat_natCast]; omega)) (asS (fs := byteEls msg) rfl (by simp [byteEls]))) rfl ?_
    refine X.u (LU.assignS Is.rfl') rfl ?_
    refine X.u (LU.assignS Is.rfl') rfl ?_
    refine LL.nil (after_code ?_)
    refine LW.seq ?_
    refine LW.region ?_
    refine X.u (LU.moveS Is.rfl') rfl ?_
    refine X.u (LU.moveS Is.rfl') rfl ?_
    refine X.u (LU.call1 0 rfl (tag_calls key msg .unk .unk (by omega) (by omega)) Tryd.func23 rfl rfl (Opds.cons Is.rfl' (Opds.cons Is.rfl' Opds.nil))) rfl ?_
    refine X.u (LU.moveS Is.rfl') rfl ?_
    refine X.u (LU.moveS Is.rfl') rfl ?_
    refine X.u (LU.call (rtag_calls key msg .unk .unk (by omega) (by omega)) Tryd.func24 rfl rfl (Opds.cons Is.rfl' (Opds.cons Is.rfl' Opds.nil))) rfl ?_
    refine X.u (LU.weak (LU.eqlArr Tryd.underlying25 Tryd.underlying5 Tryd.sizeOf5 Tryd.eqGuardType25 Is.rfl' Is.rfl' (by (simp; done)) (by (simp; done))) (asB (c := true) rfl (by simp))) rfl ?_
    refine X.u (LU.moveR Is.rfl') rfl ?_
    refine X.doT rfl rfl (LU.moveS (by exact Is.rfl')) rfl ?_
    refine X.doT rfl rfl (LU.tostr Tryd.underlying22 Tryd.underlying5 Tryd.underlying9 (by exact Is.rfl')) rfl ?_
    refine X.doT rfl rfl (LU.moveS (by exact Is.rfl')) rfl ?_
    refine X.doT rfl rfl (LU.tostr Tryd.underlying22 Tryd.underlying5 Tryd.underlying9 (by exact Is.rfl')) rfl ?_
    refine X.doT rfl rfl (LU.weak (LU.streqN (by exact Is.rfl') (by exact Is.rfl')) (asB (c := true) rfl (by simp))) rfl ?_
    refine X.u (LU.pickT Is.rfl' (by exact Is.rfl')) rfl ?_
    refine X.u (LU.moveR Is.rfl') rfl ?_
    refine X.doT rfl rfl (LU.moveS (by exact Is.rfl')) rfl ?_
    refine X.doT rfl rfl (LU.tostr Tryd.underlying22 Tryd.underlying5 Tryd.underlying9 (by exact Is.rfl')) rfl ?_
    refine X.doT rfl rfl (LU.moveS (by exact Is.rfl')) rfl ?_
    refine X.doT rfl rfl (LU.tostr Tryd.underlying22 Tryd.underlying5 Tryd.underlying9 (by exact Is.rfl')) rfl ?_
    refine X.doT rfl rfl (LU.weak (LU.streqN (by exact Is.rfl') (by exact Is.rfl')) (asB (c := true) rfl (by simp))) rfl ?_
    refine X.u (LU.pickT Is.rfl' (by exact Is.rfl')) rfl ?_
    refine X.u (LU.moveR Is.rfl') rfl ?_
    refine X.doT rfl rfl (LU.call1 0 rfl (lives3_calls) Tryd.func22 rfl rfl Opds.nil) rfl ?_
    refine X.u (LU.pickT Is.rfl' (by exact Is.rfl')) rfl ?_
    refine X.u (LU.assignR Is.rfl') rfl ?_
    refine LL.nil (after_code ?_)
    refine LW.ret (after_end ?_)
    refine X.ret (H' := [kw]) (Res.one (by exact IsR rfl)) (by exact HSub.refl _) ?_
    exact ⟨rfl, rfl⟩
set_option maxRecDepth 100000 in
theorem derives_calls (key label : List UInt8) (h1 : key.length < 140737488355328) (h2 : label.length < 140737488355328) : LCalls Tryd.prog 10 [Bytes key .unk, Str label] [kw] (fun r H' => r = bl true ∧ H' = [kw]) := by
  have htl := tag_len key (label ++ [1])
  refine LCalls.of Tryd.func10 rfl Tryd.ntmps10 Tryd.results10 rfl (fun Rf => ?_)
  refine LW.seq ?_
  refine LW.region ?_
  refine X.u (LU.assignR Is.rfl') rfl ?_
  refine LL.nil (after_code ?_)
  refine LW.seq ?_
  refine LW.seq ?_
  refine LW.region ?_
  refine X.u (LU.moveS Is.rfl') rfl ?_
  refine X.u (LU.lenN Tryd.underlying22 Is.rfl' (by (simp only [Option.getD_some, Option.getD_none, byteEls_length, intEls_length, List.length_append, List.length_cons, List.length_nil, List.length_map, List.length_drop, List.length_take, Int.toNat_natCast]; rfl))) rfl ?_
  refine X.u (LU.moveR Is.rfl') rfl ?_
  refine X.u (LU.strlenN Tryd.underlying9 Is.rfl') rfl ?_
  refine X.u (LU.addN Is.rfl' Is.rfl' (wrap_i64 (by omega) (by omega))) rfl ?_
  refine X.u (LU.gtr Is.rfl' Is.rfl') rfl ?_
  refine LL.nil (after_code ?_)
  refine X.cond rfl (fun h1 => ?_) (fun h1 => ?_)
  · try have h1 := of_decide_eq_true h1
    refine LW.seq ?_
    refine LW.region ?_
    refine X.u (LU.call1 0 rfl (lives3_calls) Tryd.func22 rfl rfl Opds.nil) rfl ?_
    refine X.u (LU.assignR Is.rfl') rfl ?_
    refine LL.nil (after_code ?_)
    refine LW.ret (ret_code (after_end ?_))
    refine X.ret (H' := [kw]) (Res.one (by exact IsR rfl)) (by exact HSub.refl _) ?_
    exact ⟨rfl, rfl⟩
  · try have h1 := of_decide_eq_false h1
    refine LW.skip (after_code ?_)
    refine LW.seq ?_
    refine LW.region ?_
    refine X.u (LU.moveS Is.rfl') rfl ?_
    refine X.u (LU.moveR Is.rfl') rfl ?_
    refine X.act (X.call (derive_calls key label .unk (by omega) (by omega)) Tryd.func25 rfl rfl rfl (by (refine HSub.pick 0 rfl ?_); exact HSub.refl _) (Opds.cons Is.rfl' (Opds.cons Is.rfl' Opds.nil)) ?_)
    rintro r H' ⟨rfl, rfl⟩
    refine X.u (LU.moveS Is.rfl') rfl ?_
    refine X.u (LU.moveR Is.rfl') rfl ?_
    refine X.u (LU.call (rderive_calls key label .unk (by omega) (by omega)) Tryd.func26 rfl rfl (Opds.cons Is.rfl' (Opds.cons Is.rfl' Opds.nil))) rfl ?_
    refine X.u (LU.weak (LU.eqlArr Tryd.underlying25 Tryd.underlying5 Tryd.sizeOf5 Tryd.eqGuardType25 Is.rfl' Is.rfl' (by (simp; done)) (by (simp; done))) (asB (c := true) rfl (by simp))) rfl ?_
    refine X.u (LU.moveR Is.rfl') rfl ?_
    refine X.doT rfl rfl (LU.moveS (by exact Is.rfl')) rfl ?_
    refine X.doT rfl rfl (LU.moveR (by exact Is.rfl')) rfl ?_
    refine X.actG rfl rfl (X.call (derive_calls key label .unk (by omega) (by omega)) Tryd.func25 rfl rfl rfl (by (refine HSub.pick 0 rfl ?_); exact HSub.refl _) (Opds.cons (by exact Is.rfl') (Opds.cons (by exact Is.rfl') Opds.nil)) ?_)
    rintro r H' ⟨rfl, rfl⟩
    refine X.doT rfl rfl (LU.moveS (by exact Is.rfl')) rfl ?_
    refine X.doT rfl rfl (LU.moveR (by exact Is.rfl')) rfl ?_
    refine X.actG rfl rfl (X.tobytes rfl Tryd.underlying9 Tryd.underlying22 Tryd.underlying5 (by exact Is.rfl') (fun b25 o25 c25 => ?_))
    refine X.weak (t := 25) (v := Bytes label (.tok b25 o25 c25)) (Is.of (rfl)) ?_
    refine X.doT rfl rfl (LU.lits Tryd.underlying22 Tryd.sizeOf5 Tryd.zeroValue5 (ones rfl) rfl (by decide) (by decide) (Elems.cons (by exact Is.rfl') (by exact Cells.raw rfl) Elems.nil) (by simp) rfl) rfl ?_
    refine X.actG rfl rfl (X.append 0 rfl rfl Tryd.underlying22 (El.of (P := Tryd.prog) (z := (.int .u8 0)) (size := 1) (bytes := 1) rfl rfl rfl) (by exact Is.rfl') (by exact Is.rfl') (SrcL.slice Tryd.underlying22 (by decide) (by (intro e he; simp [chunks] at he; simp [he]; done))) (by simp only [Option.getD_some, Option.getD_none, byteEls_length, intEls_length, List.length_append, List.length_cons, List.length_nil, List.length_map, List.length_drop, List.length_take, Int.toNat_natCast]; omega) (by simp only [Option.getD_some, Option.getD_none, byteEls_length, intEls_length, List.length_append, List.length_cons, List.length_nil, List.length_map, List.length_drop, List.length_take, Int.toNat_natCast]; omega) (fun b27 o27 c27 => ?_))
    refine X.weak (t := 27) (v := Bytes (label ++ [1]) (.tok b27 o27 c27)) (Is.of (snoc8 label 1 1 rfl _)) ?_
    refine X.actG rfl rfl (X.call (tag_calls key (label ++ [1]) .unk (.tok b27 o27 c27) (by omega) (by simp; omega)) Tryd.func23 rfl rfl rfl (by (refine HSub.pick 1 rfl ?_); exact HSub.refl _) (Opds.cons (by exact Is.rfl') (Opds.cons (by exact Is.rfl') Opds.nil)) ?_)
    rintro r H' ⟨rfl, rfl⟩
    refine X.doT rfl rfl (LU.weak (LU.eqlArr Tryd.underlying25 Tryd.underlying5 Tryd.sizeOf5 Tryd.eqGuardType25 (by exact Is.rfl') (by exact Is.rfl') (by (simp; done)) (by (simp; done))) (asB (c := true) rfl (by simp))) rfl ?_
    refine X.u (LU.pickT Is.rfl' (by exact Is.rfl')) rfl ?_
    refine X.u (LU.moveR Is.rfl') rfl ?_
    refine X.doT rfl rfl (LU.call1 0 rfl (lives3_calls) Tryd.func22 rfl rfl Opds.nil) rfl ?_
    refine X.u (LU.pickT Is.rfl' (by exact Is.rfl')) rfl ?_
    refine X.u (LU.assignR Is.rfl') rfl ?_
    refine LL.nil (after_code ?_)
    refine LW.ret (after_end ?_)
    refine X.ret (H' := [kw]) (Res.one (by exact IsR rfl)) (by repeat (first | exact HSub.refl _ | refine HSub.pick 0 rfl ?_ | refine HSub.pick 1 rfl ?_ | refine HSub.pick 2 rfl ?_ | refine HSub.pick 3 rfl ?_ | refine HSub.pick 4 rfl ?_ | refine HSub.drop ?_)) ?_
    exact ⟨rfl, rfl⟩
theorem MacTags_row (x0 x1 : List (List LV)) (h0 : ∀ c ∈ x0, QInt .u8 c) (h1 : x0.length * 1 ≤ reachBytes) (h2 : ∀ c ∈ x1, QInt .u8 c) (h3 : x1.length * 1 ≤ reachBytes) : LCalls Tryd.prog 8 [.sl 1 x0 .unk, .sl 1 x1 .unk] [kw] (fun r H' => r = bl true ∧ H' = [kw]) := by
  obtain ⟨a, rfl⟩ := decode_bytes h0
  obtain ⟨b, rfl⟩ := decode_bytes h2
  rw [byteEls_length] at h1 h3
  have hr := reachBytes_lt
  exact tags_calls a b (by omega) (by omega)
theorem MacDerives_row (x0 : List (List LV)) (s : List UInt8) (h0 : ∀ c ∈ x0, QInt .u8 c) (h1 : x0.length * 1 ≤ reachBytes) (h2 : s.length ≤ reachBytes) : LCalls Tryd.prog 10 [.sl 1 x0 .unk, Str s] [kw] (fun r H' => r = bl true ∧ H' = [kw]) := by
  obtain ⟨l, rfl⟩ := decode_bytes h0
  rw [byteEls_length] at h1
  have hr := reachBytes_lt
  exact derives_calls l s (by omega) (by omega)
end Go.Proofs.YtlkkajflgpmacaaDoor
