/- Any bytes are told to the base 16, and any text is read so, or refused: the law. -/
import Derived.Test.YtlkkajflgpmacaaDoorHsP
set_option linter.unusedVariables false
set_option linter.unusedSimpArgs false
namespace Go.Proofs.YtlkkajflgpmacaaDoor
open Go.RowKit Go.L
theorem unL_len (s : List UInt8) : (unL s).length ≤ s.length := by
  unfold unL unR
  split
  · simp
  · split
    · simp [outs_len]; omega
    · simp
set_option maxRecDepth 100000 in
theorem hexlaw_calls (b s : List UInt8) (hbb : b.length < 140737488355328) (hss : s.length < 140737488355328) : LCalls Tryd.prog 11 [Bytes b .unk, Str s] [kw] (fun r H' => r = bl true ∧ H' = [kw]) := by
  have hback := unR_hexB b
  have hlb := hexB_len b
  have hls := unL_len s
  have hk : unE s = 0 → hexB (unL s) = s := fun h => by
    unfold unE at h
    unfold unL
    cases hu : unR s with
    | none => rw [hu] at h; simp at h
    | some l => rw [Option.getD_some]; exact hexB_unR hu
  refine LCalls.of Tryd.func11 rfl Tryd.ntmps11 Tryd.results11 rfl (fun Rf => ?_)
  refine LW.seq ?_
  refine LW.region ?_
  refine X.u (LU.assignR Is.rfl') rfl ?_
  refine LL.nil (after_code ?_)
  refine LW.seq ?_
  refine LW.seq ?_
  refine LW.region ?_
  refine X.u (LU.moveS Is.rfl') rfl ?_
  refine X.u (LU.lenN Tryd.underlying22 Is.rfl' (by (simp only [Option.getD_some, Option.getD_none, byteEls_length, intEls_length, List.length_append, List.length_cons, List.length_nil, List.length_map, List.length_drop, List.length_take, Int.toNat_natCast]; rfl))) rfl ?_
  refine X.u (LU.moveR Is.rfl') rfl ?_
  refine X.u (LU.strlenN Tryd.underlying9 Is.rfl') rfl ?_
  refine X.u (LU.addN Is.rfl' Is.rfl' (wrap_i64 (by omega) (by omega))) rfl ?_
  refine X.u (LU.gtr Is.rfl' Is.rfl') rfl ?_
  refine LL.nil (after_code ?_)
  refine X.cond rfl (fun h1 => ?_) (fun h1 => ?_)
  · try have h1 := of_decide_eq_true h1
    refine LW.seq ?_
    refine LW.region ?_
    refine X.u (LU.call1 0 rfl (lives_calls) Tryd.func13 rfl rfl Opds.nil) rfl ?_
    refine X.u (LU.assignR Is.rfl') rfl ?_
    refine LL.nil (after_code ?_)
    refine LW.ret (ret_code (after_end ?_))
    refine X.ret (H' := [kw]) (Res.one (by exact IsR rfl)) (by exact HSub.refl _) ?_
    exact ⟨rfl, rfl⟩
  · try have h1 := of_decide_eq_false h1
    refine LW.skip (after_code ?_)
    refine LW.seq ?_
    refine LW.region ?_
    refine X.u (LU.moveR Is.rfl') rfl ?_
    refine X.u (LU.call (unhex_calls s (by omega)) Tryd.func27 rfl rfl (Opds.cons Is.rfl' Opds.nil)) rfl ?_
    refine X.u (LU.moveT Is.rfl') rfl ?_
    refine X.u (LU.extract Is.rfl' rfl) rfl ?_
    refine X.u (LU.extract Is.rfl' rfl) rfl ?_
    refine X.u (LU.assignS Is.rfl') rfl ?_
    refine X.u (LU.assignR Is.rfl') rfl ?_
    refine LL.nil (after_code ?_)
    refine LW.seq ?_
    refine LW.region ?_
    refine X.u (LU.moveR Is.rfl') rfl ?_
    refine X.u (LU.call (runhex_calls s (by omega)) Tryd.func28 rfl rfl (Opds.cons Is.rfl' Opds.nil)) rfl ?_
    refine X.u (LU.moveT Is.rfl') rfl ?_
    refine X.u (LU.extract Is.rfl' rfl) rfl ?_
    refine X.u (LU.extract Is.rfl' rfl) rfl ?_
    refine X.u (LU.assignS Is.rfl') rfl ?_
    refine X.u (LU.assignR Is.rfl') rfl ?_
    refine LL.nil (after_code ?_)
    refine LW.seq ?_
    refine LW.region ?_
    refine X.u (LU.moveS Is.rfl') rfl ?_
    refine X.u (LU.call (hex_calls b .unk (by omega)) Tryd.func16 rfl rfl (Opds.cons Is.rfl' Opds.nil)) rfl ?_
    refine X.u (LU.call (unhex_calls (hexB b) (by omega)) Tryd.func27 rfl rfl (Opds.cons Is.rfl' Opds.nil)) rfl ?_
    refine X.u (LU.moveT Is.rfl') rfl ?_
    refine X.u (LU.extract Is.rfl' rfl) rfl ?_
    refine X.u (LU.extract Is.rfl' rfl) rfl ?_
    refine X.u (LU.assignS Is.rfl') rfl ?_
    refine X.u (LU.assignR Is.rfl') rfl ?_
    refine LL.nil (after_code ?_)
    refine LW.seq ?_
    refine LW.region ?_
    refine X.u (LU.moveS Is.rfl') rfl ?_
    refine X.u (LU.call (hex_calls b .unk (by omega)) Tryd.func16 rfl rfl (Opds.cons Is.rfl' Opds.nil)) rfl ?_
    refine X.u (LU.moveS Is.rfl') rfl ?_
    refine X.u (LU.call (rhex_calls b (by omega)) Tryd.func29 rfl rfl (Opds.cons Is.rfl' Opds.nil)) rfl ?_
    refine X.u (LU.weak (LU.streqN Is.rfl' Is.rfl') (asB (c := true) rfl (by simp))) rfl ?_
    refine X.u (LU.moveR Is.rfl') rfl ?_
    refine X.doT rfl rfl (LU.moveS (by exact Is.rfl')) rfl ?_
    refine X.doT rfl rfl (LU.tostr Tryd.underlying22 Tryd.underlying5 Tryd.underlying9 (by exact Is.rfl')) rfl ?_
    refine X.doT rfl rfl (LU.moveS (by exact Is.rfl')) rfl ?_
    refine X.doT rfl rfl (LU.tostr Tryd.underlying22 Tryd.underlying5 Tryd.underlying9 (by exact Is.rfl')) rfl ?_
    refine X.doT rfl rfl (LU.weak (LU.streqN (by exact Is.rfl') (by exact Is.rfl')) (asB (c := true) rfl (by simp))) rfl ?_
    refine X.u (LU.pickT Is.rfl' (by exact Is.rfl')) rfl ?_
    refine X.u (LU.moveR Is.rfl') rfl ?_
    refine X.doT rfl rfl (LU.moveR (by exact Is.rfl')) rfl ?_
    refine X.doT rfl rfl (LU.moveR (by exact Is.rfl')) rfl ?_
    refine X.doT rfl rfl (LU.weak (LU.eql (by exact Is.rfl') (by exact Is.rfl')) (asB (c := true) rfl (by simp))) rfl ?_
    refine X.u (LU.pickT Is.rfl' (by exact Is.rfl')) rfl ?_
    refine X.u (LU.moveR Is.rfl') rfl ?_
    refine X.doT rfl rfl (LU.moveR (by exact Is.rfl')) rfl ?_
    refine X.doT rfl rfl (LU.weak (LU.eql (by exact Is.rfl') (by exact Is.rfl')) (asB (c := true) rfl (by unfold unE; rw [hback]; rfl))) rfl ?_
    refine X.u (LU.pickT Is.rfl' (by exact Is.rfl')) rfl ?_
    refine X.u (LU.moveR Is.rfl') rfl ?_
    refine X.doT rfl rfl (LU.moveS (by exact Is.rfl')) rfl ?_
    refine X.doT rfl rfl (LU.tostr Tryd.underlying22 Tryd.underlying5 Tryd.underlying9 (by exact Is.rfl')) rfl ?_
    refine X.doT rfl rfl (LU.moveS (by exact Is.rfl')) rfl ?_
    refine X.doT rfl rfl (LU.tostr Tryd.underlying22 Tryd.underlying5 Tryd.underlying9 (by exact Is.rfl')) rfl ?_
    refine X.doT rfl rfl (LU.weak (LU.streqN (by exact Is.rfl') (by exact Is.rfl')) (asB (c := true) rfl (by unfold unL; rw [hback]; simp))) rfl ?_
    refine X.u (LU.pickT Is.rfl' (by exact Is.rfl')) rfl ?_
    refine X.u (LU.moveR Is.rfl') rfl ?_
    refine X.doT rfl rfl (LU.moveR (by exact Is.rfl')) rfl ?_
    refine X.doT rfl rfl (LU.neq (by exact Is.rfl') (by exact Is.rfl')) rfl ?_
    refine X.doT rfl rfl (LU.moveR (by exact Is.rfl')) rfl ?_
    refine X.gF rfl rfl (fun hg => LU.moveS (by exact Is.rfl')) rfl ?_
    refine X.gF rfl rfl (fun hg => LU.call (hex_calls (unL s) .unk (by omega)) Tryd.func16 rfl rfl (Opds.cons (by exact Is.whenN hg) Opds.nil)) rfl ?_
    refine X.gF rfl rfl (fun hg => LU.moveR (by exact Is.rfl')) rfl ?_
    refine X.gF rfl rfl (fun hg => LU.streqN (by exact Is.whenN hg) (by exact Is.whenN hg)) rfl ?_
    refine X.doT rfl rfl (LU.weak (LU.pickOr (by exact Is.rfl') (by exact Is.rfl') (fun hq => (by exact Is.whenN hq))) (asB (c := true) rfl (by rw [Bool.or_eq_true]; by_cases h0 : unE s = 0; exact .inr (decide_eq_true (hk h0)); exact .inl (by simpa using h0)))) rfl ?_
    refine X.u (LU.pickT Is.rfl' (by exact Is.rfl')) rfl ?_
    refine X.u (LU.moveR Is.rfl') rfl ?_
    refine X.doT rfl rfl (LU.call1 0 rfl (lives_calls) Tryd.func13 rfl rfl Opds.nil) rfl ?_
    refine X.u (LU.pickT Is.rfl' (by exact Is.rfl')) rfl ?_
    refine X.u (LU.assignR Is.rfl') rfl ?_
    refine LL.nil (after_code ?_)
    refine LW.ret (after_end ?_)
    refine X.ret (H' := [kw]) (Res.one (by exact IsR rfl)) (by exact HSub.refl _) ?_
    exact ⟨rfl, rfl⟩
theorem HashHex_row (x0 : List (List LV)) (s : List UInt8) (h0 : ∀ c ∈ x0, QInt .u8 c) (h1 : x0.length * 1 ≤ reachBytes) (h2 : s.length ≤ reachBytes) : LCalls Tryd.prog 11 [.sl 1 x0 .unk, Str s] [kw] (fun r H' => r = bl true ∧ H' = [kw]) := by
  obtain ⟨l, rfl⟩ := decode_bytes h0
  rw [byteEls_length] at h1
  have hr := reachBytes_lt
  exact hexlaw_calls l s (by omega) (by omega)
end Go.Proofs.YtlkkajflgpmacaaDoor
