/- Any bytes have the digest that the document defines. -/
import Derived.Test.YtlkkajflgpmacaaDoorHsI
import Derived.Test.YtlkkajflgpmacaaDoorLogP
set_option linter.unusedVariables false
set_option linter.unusedSimpArgs false
namespace Go.Proofs.YtlkkajflgpmacaaDoor
open Go.RowKit Go.L
set_option maxRecDepth 100000 in
theorem sums_calls (b : List UInt8) : LCalls Tryd.prog 3 [Bytes b .unk] [kw] (fun r H' => r = bl true ∧ H' = [kw]) := by
  refine LCalls.of Tryd.func3 rfl Tryd.ntmps3 Tryd.results3 rfl (fun Rf => ?_)
  refine LW.seq ?_
  refine LW.region ?_
  refine X.u (LU.assignR Is.rfl') rfl ?_
  refine LL.nil (after_code ?_)
  refine LW.seq ?_
  refine LW.seq ?_
  refine LW.region ?_
  refine X.u (LU.moveS Is.rfl') rfl ?_
  refine X.u (LU.lenN Tryd.underlying22 Is.rfl' (by (simp only [Option.getD_some, Option.getD_none, byteEls_length, intEls_length, List.length_append, List.length_cons, List.length_nil, List.length_map, List.length_drop, List.length_take, Int.toNat_natCast]; rfl))) rfl ?_
  refine X.u (LU.gtr Is.rfl' Is.rfl') rfl ?_
  refine LL.nil (after_code ?_)
  refine X.cond rfl (fun h1 => ?_) (fun h1 => ?_)
  · try have h1 := of_decide_eq_true h1
    refine LW.seq ?_
    refine LW.region ?_
    refine X.u (LU.call1 0 rfl (lives_calls) Tryd.func13 rfl rfl Opds.nil) rfl ?_
    refine X.u (LU.assignR Is.rfl') rfl ?_
    refine LL.nil (after_code ?_)
    refine LW.ret (ret_code (after_end ?_))
    refine X.ret (H' := [kw]) (Res.one (by exact IsR rfl)) (by exact HSub.refl _) ?_
    exact ⟨rfl, rfl⟩
  · try have h1 := of_decide_eq_false h1
    refine LW.skip (after_code ?_)
    refine LW.seq ?_
    refine LW.region ?_
    refine X.u (LU.lits Tryd.underlying22 Tryd.sizeOf5 Tryd.zeroValue5 (ones rfl) rfl (by decide) (by decide) Elems.nil (by intro e he; cases he) rfl) rfl ?_
    refine X.u (LU.moveS Is.rfl') rfl ?_
    refine X.u (LU.weak (LU.append Tryd.underlying22 (El.of (P := Tryd.prog) (z := (.int .u8 0)) (size := 1) (bytes := 1) rfl rfl rfl) Is.rfl' Is.rfl' (SrcL.slice Tryd.underlying22 (by decide) (by exact byteEls_size _)) (by simp only [Option.getD_some, Option.getD_none, byteEls_length, intEls_length, List.length_append, List.length_cons, List.length_nil, List.length_map, List.length_drop, List.length_take, Int.toNat_natCast]; omega) (by simp only [Option.getD_some, Option.getD_none, byteEls_length, intEls_length, List.length_append, List.length_cons, List.length_nil, List.length_map, List.length_drop, List.length_take, Int.toNat_natCast]; omega)) (asS (fs := byteEls b) rfl (by simp [byteEls]))) rfl ?_
    refine X.u (LU.assignS Is.rfl') rfl ?_
    refine LL.nil (after_code ?_)
    refine LW.seq ?_
    have hc := hash_calls b .unk (by omega)
    have hd := refhash_calls b .unk (by omega)
    obtain ⟨x, hx⟩ : ∃ x, x = sha b := ⟨_, rfl⟩
    have hxl : x.length = 32 := by rw [hx, sha_len]
    rw [← hx] at hc hd
    refine LW.region ?_
    refine X.u (LU.moveS Is.rfl') rfl ?_
    refine X.u (LU.call1 0 rfl (hc) Tryd.func14 rfl rfl (Opds.cons Is.rfl' Opds.nil)) rfl ?_
    refine X.u (LU.moveS Is.rfl') rfl ?_
    refine X.u (LU.call (hd) Tryd.func15 rfl rfl (Opds.cons Is.rfl' Opds.nil)) rfl ?_
    refine X.u (LU.weak (LU.eqlArr Tryd.underlying25 Tryd.underlying5 Tryd.sizeOf5 Tryd.eqGuardType25 Is.rfl' Is.rfl' (by assumption) (by assumption)) (asB (c := true) rfl (by exact decide_eq_true rfl))) rfl ?_
    refine X.u (LU.moveR Is.rfl') rfl ?_
    refine X.doT rfl rfl (LU.moveS (by exact Is.rfl')) rfl ?_
    refine X.doT rfl rfl (LU.tostr Tryd.underlying22 Tryd.underlying5 Tryd.underlying9 (by exact Is.rfl')) rfl ?_
    refine X.doT rfl rfl (LU.moveS (by exact Is.rfl')) rfl ?_
    refine X.doT rfl rfl (LU.tostr Tryd.underlying22 Tryd.underlying5 Tryd.underlying9 (by exact Is.rfl')) rfl ?_
    refine X.doT rfl rfl (LU.weak (LU.streq (by exact Is.rfl') (by exact Is.rfl')) (asB (c := true) rfl (by simp))) rfl ?_
    refine X.u (LU.pickT Is.rfl' (by exact Is.rfl')) rfl ?_
    refine X.u (LU.moveR Is.rfl') rfl ?_
    refine X.doT rfl rfl (LU.call1 0 rfl (lives_calls) Tryd.func13 rfl rfl Opds.nil) rfl ?_
    refine X.u (LU.pickT Is.rfl' (by exact Is.rfl')) rfl ?_
    refine X.u (LU.assignR Is.rfl') rfl ?_
    refine LL.nil (after_code ?_)
    refine LW.ret (after_end ?_)
    refine X.ret (H' := [kw]) (Res.one (by exact IsR rfl)) (by exact HSub.refl _) ?_
    exact ⟨rfl, rfl⟩
theorem HashSums_row (x0 : List (List LV)) (h0 : ∀ c ∈ x0, QInt .u8 c) (h1 : x0.length * 1 ≤ reachBytes) : LCalls Tryd.prog 3 [.sl 1 x0 .unk] [kw] (fun r H' => r = bl true ∧ H' = [kw]) := by
  obtain ⟨l, rfl⟩ := decode_bytes h0
  exact sums_calls l
end Go.Proofs.YtlkkajflgpmacaaDoor
