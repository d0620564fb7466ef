/- Chains told, held, loaded; what the document notes; what is looked at. -/
import Derived.Test.YtpcfpkfchoelcaaDoorAuE
set_option linter.unusedVariables false
set_option linter.unusedSimpArgs false
namespace Go.Proofs.YtpcfpkfchoelcaaDoor
open Go.RowKit Go.L
attribute [local irreducible] LL LW LO LP LA
set_option maxRecDepth 100000 in
theorem verify_calls (l : List Ent) (k : Cap) (hl : l.length < 140737488355328) (hok : ∀ e ∈ l, EntOk e) : LCalls Tryd.prog 13 [.sl 36 (ents l) k] [kw] (fun r H' => r = i64 (verL l) ∧ H' = [kw]) := by
  refine LCalls.of Tryd.func13 rfl Tryd.ntmps13 Tryd.results13 rfl (fun Rf => ?_)
  refine LW.seq ?_
  refine LW.region ?_
  refine X.u (LU.assignR Is.rfl') rfl ?_
  refine LL.nil (after_code ?_)
  refine LW.seq ?_
  refine LW.region ?_
  refine X.u (LU.moveS Is.rfl') rfl ?_
  refine X.act (X.call (replay_calls l k hl hok) Tryd.func25 rfl rfl rfl (by (refine HSub.pick 0 rfl ?_); exact HSub.refl _) (Opds.cons Is.rfl' Opds.nil) ?_)
  rintro r H' ⟨g, hv, b, o, c, m, hh, hm, rfl, hm2, rfl⟩
  refine X.u (LU.moveT Is.rfl') rfl ?_
  refine X.u (LU.extract Is.rfl' rfl) rfl ?_
  refine X.u (LU.extract Is.rfl' rfl) rfl ?_
  refine X.u (LU.assignR Is.rfl') rfl ?_
  refine X.u (LU.assignR Is.rfl') rfl ?_
  refine LL.nil (after_code ?_)
  refine LW.seq ?_
  refine LW.region ?_
  refine X.u (LU.moveR Is.rfl') rfl ?_
  refine X.u (LU.assignR Is.rfl') rfl ?_
  refine LL.nil (after_code ?_)
  refine LW.ret (after_end ?_)
  refine X.ret (H' := [kw]) (Res.one (by exact IsR rfl)) (by repeat (first | exact HSub.refl _ | refine HSub.pick 2 rfl ?_ | refine HSub.drop ?_)) ?_
  exact ⟨rfl, rfl⟩
def holdsB (l : List Ent) (h : List UInt8) : Bool := decide (verL l < 0) && decide (headE l = h)
set_option maxRecDepth 100000 in
theorem holds_calls (l : List Ent) (k : Cap) (h : List UInt8) (hl : l.length < 140737488355328) (hok : ∀ e ∈ l, EntOk e) (hh32 : h.length = 32) : LCalls Tryd.prog 12 [.sl 36 (ents l) k, H32 h] [kw] (fun r H' => r = bl (holdsB l h) ∧ H' = [kw]) := by
  refine LCalls.of Tryd.func12 rfl Tryd.ntmps12 Tryd.results12 rfl (fun Rf => ?_)
  refine LW.seq ?_
  refine LW.region ?_
  refine X.act (X.box rfl Is.rfl' (by exact Cells.agg) (fun b3 => ?_))
  refine X.u (LU.assignR Is.rfl') rfl ?_
  refine LL.nil (after_code ?_)
  refine LW.seq ?_
  refine LW.region ?_
  refine X.u (LU.moveS Is.rfl') rfl ?_
  refine X.act (X.call (replay_calls l k hl hok) Tryd.func25 rfl rfl rfl (by (refine HSub.pick 1 rfl ?_); exact HSub.refl _) (Opds.cons Is.rfl' Opds.nil) ?_)
  rintro r H' ⟨g, hv, b, o, c, m, hh, hm, rfl, hm2, rfl⟩
  refine X.u (LU.moveT Is.rfl') rfl ?_
  refine X.u (LU.extract Is.rfl' rfl) rfl ?_
  refine X.u (LU.extract Is.rfl' rfl) rfl ?_
  refine X.u (LU.assignR Is.rfl') rfl ?_
  refine X.u (LU.assignR Is.rfl') rfl ?_
  refine LL.nil (after_code ?_)
  refine LW.seq ?_
  refine X.drawM 9 rfl (by kernel_rfl) rfl ?_
  refine QD.u (LU.moveR Is.rfl') rfl ?_
  refine QD.u (LU.lss Is.rfl' Is.rfl') rfl ?_
  refine QD.u (LU.moveR Is.rfl') rfl ?_
  refine QD.gT rfl rfl (fun hg => LU.moveR (by exact Is.rfl')) rfl ?_
  refine QD.gT rfl rfl (fun hg => LU.callP (show List.Perm _ ([lg g (l.take m) hv b o c, kw] ++ (.tail b o c :: .cells b3 26 (u8s h) :: Rf)) from (List.Perm.cons _ (List.Perm.swap _ _ _))) (head_calls g (l.take m) hv b o c hh) Tryd.func18 rfl rfl (Opds.cons (by exact Is.whenE hg) Opds.nil)) rfl ?_
  refine QD.gT rfl rfl (fun hg => LU.loadO 3 rfl ⟨Tryd.sizeOf26, Tryd.isAgg26⟩ (by exact Is.rfl') (Part.whole (by (simp; omega)))) rfl ?_
  refine QD.gT rfl rfl (fun hg => LU.eqlH (headE_len _) hh32 (by exact Is.whenE hg) (by exact Is.whenE hg)) rfl ?_
  refine QD.u (LU.pickAnd Is.rfl' (fun hq => (by exact Is.whenE hq)) Is.rfl') rfl ?_
  refine QD.u (LU.assignR Is.rfl') rfl ?_
  refine QD.nil ?_
  refine LL.nil (after_code ?_)
  refine LW.ret (after_end ?_)
  refine X.ret (H' := [kw]) (Res.one (by exact IsR rfl)) (by repeat (first | exact HSub.refl _ | refine HSub.pick 2 rfl ?_ | refine HSub.drop ?_)) ?_
  refine ⟨congrArg bl ?_, rfl⟩
  unfold holdsB
  by_cases hv0 : verL l < 0
  · rw [hm2 hv0, List.take_length]
  · rw [decide_eq_false hv0]; rfl
set_option maxRecDepth 100000 in
theorem load_calls (l : List Ent) (k : Cap) (hl : l.length < 140737488355328) (hok : ∀ e ∈ l, EntOk e) : LCalls Tryd.prog 21 [.sl 36 (ents l) k] [kw] (fun r H' => (∃ g hv b o c, verL l < 0 ∧ HeadOk hv l ∧ l.length ≤ 4096 ∧ r = .tup [pt g, i64 0] ∧ H' = [lg g l hv b o c, .tail b o c, kw]) ∨ (0 ≤ verL l ∧ r = .tup [.raw (.pointer none), i64 80] ∧ H' = [kw])) := by
  refine LCalls.of Tryd.func21 rfl Tryd.ntmps21 Tryd.results21 rfl (fun Rf => ?_)
  refine LW.seq ?_
  refine LW.region ?_
  refine X.u (LU.assignR Is.rfl') rfl ?_
  refine X.u (LU.assignR Is.rfl') rfl ?_
  refine LL.nil (after_code ?_)
  refine LW.seq ?_
  refine LW.region ?_
  refine X.u (LU.moveS Is.rfl') rfl ?_
  refine X.act (X.call (replay_calls l k hl hok) Tryd.func25 rfl rfl rfl (by (refine HSub.pick 0 rfl ?_); exact HSub.refl _) (Opds.cons Is.rfl' Opds.nil) ?_)
  rintro r H' ⟨g, hv, b, o, c, m, hh, hm, rfl, hm2, rfl⟩
  refine X.u (LU.moveT Is.rfl') rfl ?_
  refine X.u (LU.extract Is.rfl' rfl) rfl ?_
  refine X.u (LU.extract Is.rfl' rfl) rfl ?_
  refine X.u (LU.assignR Is.rfl') rfl ?_
  refine X.u (LU.assignR Is.rfl') rfl ?_
  refine LL.nil (after_code ?_)
  refine LW.seq ?_
  refine LW.seq ?_
  refine LW.region ?_
  refine X.u (LU.moveR Is.rfl') rfl ?_
  refine X.u (LU.geq Is.rfl' Is.rfl') rfl ?_
  refine LL.nil (after_code ?_)
  refine X.cond rfl (fun h2 => ?_) (fun h2 => ?_)
  · try have h2 := of_decide_eq_true h2
    refine LW.seq ?_
    refine LW.region ?_
    refine X.u (LU.assignR Is.rfl') rfl ?_
    refine X.u (LU.assignR Is.rfl') rfl ?_
    refine LL.nil (after_code ?_)
    refine LW.ret (ret_code (after_end ?_))
    refine X.ret (H' := [kw]) (Res.two (by exact IsR rfl) (by exact IsR rfl)) (by repeat (first | exact HSub.refl _ | refine HSub.pick 2 rfl ?_ | refine HSub.drop ?_)) ?_
    exact .inr ⟨h2, rfl, rfl⟩
  · try have h2 := of_decide_eq_false h2
    have hm3 := hm2 (by omega)
    rw [hm3, List.take_length]
    rw [hm3, List.take_length] at hh
    rw [hm3] at hm
    refine LW.skip (after_code ?_)
    refine LW.seq ?_
    refine LW.region ?_
    refine X.u (LU.moveR Is.rfl') rfl ?_
    refine X.u (LU.assignR Is.rfl') rfl ?_
    refine X.u (LU.assignR Is.rfl') rfl ?_
    refine LL.nil (after_code ?_)
    refine LW.ret (after_end ?_)
    refine X.ret (H' := [lg g l hv b o c, .tail b o c, kw]) (Res.two (by exact IsR rfl) (by exact IsR rfl)) (by repeat (exact HSub.refl _)) ?_
    exact .inl ⟨g, hv, b, o, c, by omega, hh, hm, rfl, rfl⟩
set_option maxRecDepth 100000 in
theorem fresh_calls (l : List Ent) (k : Cap) (hl : l.length * 200 < 140737488355328) (hlo : PrevOk l) : LCalls Tryd.prog 10 [.sl 36 (ents l) k] [] (fun r H' => r = .sl 36 (ents l) .unk ∧ H' = []) := by
  have hsz := ents_size hlo
  refine LCalls.of Tryd.func10 rfl Tryd.ntmps10 Tryd.results10 rfl (fun Rf => ?_)
  refine LW.seq ?_
  refine LW.region ?_
  refine X.u (LU.assign (Is.nil 36)) rfl ?_
  refine LL.nil (after_code ?_)
  refine LW.seq ?_
  refine LW.region ?_
  refine X.u (LU.lits Tryd.underlying22 Tryd.sizeOf28 Tryd.zeroValue28 (ones rfl) rfl (by decide) (by decide) Elems.nil (by intro e he; cases he) rfl) rfl ?_
  refine X.u (LU.moveS Is.rfl') rfl ?_
  refine X.u (LU.weak (LU.append Tryd.underlying22 (El.of (P := Tryd.prog) (z := (.agg #[(.int .i64 0), (.int .i64 0), (.string ByteArray.empty), (.string ByteArray.empty), (.int .u8 0), (.int .u8 0), (.int .u8 0), (.int .u8 0), (.int .u8 0), (.int .u8 0), (.int .u8 0), (.int .u8 0), (.int .u8 0), (.int .u8 0), (.int .u8 0), (.int .u8 0), (.int .u8 0), (.int .u8 0), (.int .u8 0), (.int .u8 0), (.int .u8 0), (.int .u8 0), (.int .u8 0), (.int .u8 0), (.int .u8 0), (.int .u8 0), (.int .u8 0), (.int .u8 0), (.int .u8 0), (.int .u8 0), (.int .u8 0), (.int .u8 0), (.int .u8 0), (.int .u8 0), (.int .u8 0), (.int .u8 0)])) (size := 36) (bytes := 80) rfl rfl rfl) Is.rfl' Is.rfl' (SrcL.slice Tryd.underlying22 (by decide) hsz) (by simp only [Option.getD_some, Option.getD_none, byteEls_length, intEls_length, List.length_append, List.length_cons, List.length_nil, List.length_map, List.length_drop, List.length_take, Int.toNat_natCast]; omega) (by simp only [Option.getD_some, Option.getD_none, byteEls_length, intEls_length, List.length_append, List.length_cons, List.length_nil, List.length_map, List.length_drop, List.length_take, Int.toNat_natCast]; omega)) (Is.of (y := .sl 36 (ents l) .unk) (rfl))) rfl ?_
  refine X.u (LU.assignS Is.rfl') rfl ?_
  refine LL.nil (after_code ?_)
  refine LW.ret (after_end ?_)
  refine X.ret (H' := []) (Res.one (by exact IsS rfl)) (by repeat (exact HSub.refl _)) ?_
  exact ⟨rfl, rfl⟩
set_option maxHeartbeats 2000000 in
set_option maxRecDepth 100000 in
theorem rappend_calls (es : List Ent) (k : Cap) (tick : Int) (who what : List UInt8) (hel : es.length ≤ 4096) (hok : ∀ e ∈ es, EntOk e) (ht1 : -9223372036854775808 ≤ tick) (ht2 : tick < 9223372036854775808) : LCalls Tryd.prog 22 [.sl 36 (ents es) k, i64 tick, Str who, Str what] [] (fun r H' => r = .tup [.sl 36 (ents (addE es tick who what)) .unk, .agg (entL (nxtE es tick who what)), i64 (errN es tick who what)] ∧ H' = []) := by
  have hes : PrevOk es := fun e he => (hok e he).2.2.2.2
  have hsz := ents_size hes
  have hhd := rhead_calls es k (by omega) hok
  have hhl := headE_len es
  obtain ⟨D, hD⟩ : ∃ D, D = headE es := ⟨_, rfl⟩
  have hN : errN es tick who what = 0 → nxtE es tick who what = ⟨(es.length : Int) + 1, tick, who, what, D⟩ := fun h => by rw [(nxtE_ok h).2.1, hD]
  have hZ : errN es tick who what ≠ 0 → nxtE es tick who what = zeroE := fun h => by unfold nxtE; rw [if_neg h]
  have hA0 : errN es tick who what = 0 → addE es tick who what = es ++ [⟨(es.length : Int) + 1, tick, who, what, D⟩] := fun h => by unfold addE; rw [if_pos h, hN h]
  have hA1 : errN es tick who what ≠ 0 → addE es tick who what = es := fun h => by unfold addE; rw [if_neg h]
  have hE : errN es tick who what = if tick < 0 ∨ 1099511627776 < tick ∨ (0 < es.length ∧ tick < (lastE es).tick) then 2 else if 16 < who.length ∨ 512 < what.length ∨ 4096 ≤ es.length then 3 else 0 := rfl
  obtain ⟨N, hNN⟩ : ∃ N, N = nxtE es tick who what := ⟨_, rfl⟩
  obtain ⟨AA, hAA⟩ : ∃ AA, AA = addE es tick who what := ⟨_, rfl⟩
  obtain ⟨E, hEE⟩ : ∃ E, E = errN es tick who what := ⟨_, rfl⟩
  rw [← hD] at hhd hhl
  rw [← hNN, ← hEE] at hN hZ
  rw [← hAA, ← hEE] at hA0 hA1
  rw [← hEE] at hE
  rw [← hNN, ← hAA, ← hEE]
  clear hD hNN hEE hAA
  refine LCalls.of Tryd.func22 rfl Tryd.ntmps22 Tryd.results22 rfl (fun Rf => ?_)
  refine LW.seq ?_
  refine LW.region ?_
  refine X.u (LU.assign (Is.nil 36)) rfl ?_
  refine X.act (X.alloc rfl Tryd.zeroValue28 (by exact Cells.rawagg (by decide)) (fun b9 => ?_))
  refine X.u (LU.assignR Is.rfl') rfl ?_
  refine LL.nil (after_code ?_)
  refine LW.seq ?_
  refine LW.seq ?_
  refine LW.region ?_
  refine X.u (LU.moveR Is.rfl') rfl ?_
  refine X.u (LU.lss Is.rfl' Is.rfl') rfl ?_
  refine X.u (LU.moveR Is.rfl') rfl ?_
  refine X.gF rfl rfl (fun hg => LU.moveR (by exact Is.rfl')) rfl ?_
  refine X.gF rfl rfl (fun hg => LU.gtr (by exact Is.whenN hg) (by exact Is.rfl')) rfl ?_
  refine X.u (LU.pickOr Is.rfl' Is.rfl' (fun hq => (by exact Is.whenN hq))) rfl ?_
  refine X.u (LU.moveR Is.rfl') rfl ?_
  refine X.gF rfl rfl (fun hg => LU.moveS (by exact Is.rfl')) rfl ?_
  refine X.gF rfl rfl (fun hg => LU.lenN Tryd.underlying22 (by exact Is.whenN hg) (by (simp only [Option.getD_some, Option.getD_none, byteEls_length, intEls_length, List.length_append, List.length_cons, List.length_nil, List.length_map, List.length_drop, List.length_take, Int.toNat_natCast]; rfl))) rfl ?_
  refine X.gF rfl rfl (fun hg => LU.gtr (by exact Is.whenN hg) (by exact Is.rfl')) rfl ?_
  refine X.gF rfl rfl (fun hg => LU.moveR (by exact Is.whenN hg)) rfl ?_
  refine X.gT2 rfl rfl (fun hg0 hg => LU.moveR (by exact Is.rfl')) rfl ?_
  refine X.gT2 rfl rfl (fun hg0 hg => LU.moveS (by exact Is.rfl')) rfl ?_
  refine X.gT2 rfl rfl (fun hg0 hg => LU.moveS (by exact Is.rfl')) rfl ?_
  refine X.gT2 rfl rfl (fun hg0 hg => LU.lenN Tryd.underlying22 (by exact Is.whenE (by rw [hg0, hg]; rfl)) (by (simp only [Option.getD_some, Option.getD_none, byteEls_length, intEls_length, List.length_append, List.length_cons, List.length_nil, List.length_map, List.length_drop, List.length_take, Int.toNat_natCast]; rfl))) rfl ?_
  refine X.gT2 rfl rfl (fun hg0 hg => LU.subN (by exact Is.whenE (by rw [hg0, hg]; rfl)) (by exact Is.rfl') (wrap_i64 (by omega) (by omega))) rfl ?_
  refine X.gT2 rfl rfl (fun hg0 hg => LU.at Tryd.underlying22 ⟨Tryd.sizeOf28, Tryd.isAgg28⟩ (by exact Is.whenE (by rw [hg0, hg]; rfl)) (by exact Is.whenE (by rw [hg0, hg]; rfl)) (by (simp only [Bool.or_eq_false_iff, Bool.and_eq_true, Bool.or_eq_true, Bool.and_eq_false_imp, Bool.not_eq_true', Bool.not_eq_false', decide_eq_true_eq, decide_eq_false_iff_not] at hg; omega)) (ents_last (of_decide_eq_true hg)) (by simp)) rfl ?_
  refine X.gT2 rfl rfl (fun hg0 hg => LU.fieldP Tryd.underlying28 rfl ⟨Tryd.sizeOf3, Tryd.isAgg3⟩ (by decide) (by exact Is.whenE (by rw [hg0, hg]; rfl)) (by (simp; done))) rfl ?_
  refine X.gT2 rfl rfl (fun hg0 hg => LU.load ⟨Tryd.sizeOf3, Tryd.isAgg3⟩ (by exact Is.whenE (by rw [hg0, hg]; rfl)) (by (simp; done)) (Part.one rfl)) rfl ?_
  refine X.gT2 rfl rfl (fun hg0 hg => LU.lss (by exact Is.whenE (by rw [hg0, hg]; rfl)) (by exact Is.whenE (by rw [hg0, hg]; rfl))) rfl ?_
  refine X.gF rfl rfl (fun hg => LU.pickAnd (by exact Is.whenN hg) (fun hq => (by exact Is.whenE (by rw [hg, hq]; rfl))) (by exact Is.rfl')) rfl ?_
  refine X.u (LU.pickOr Is.rfl' Is.rfl' (fun hq => (by exact Is.whenN hq))) rfl ?_
  refine LL.nil (after_code ?_)
  refine X.cond rfl (fun h1 => ?_) (fun h1 => ?_)
  · have h2 : tick < 0 ∨ 1099511627776 < tick ∨ (0 < es.length ∧ tick < (lastE es).tick) := by simp only [Bool.or_eq_true, Bool.and_eq_true, decide_eq_true_eq] at h1; omega
    rw [if_pos h2] at hE
    have hz := hZ (by omega)
    have ha := hA1 (by omega)
    refine LW.seq ?_
    refine LW.region ?_
    refine X.u (LU.moveS Is.rfl') rfl ?_
    refine X.u (LU.weak (LU.build (places := #[(0, 1), (1, 1), (2, 1), (3, 1), (4, 32)]) Tryd.underlying28 Tryd.zeroValue28 (ones rfl) (by intro w; simp [Tryd.sizeOf26, Tryd.sizeOf3, Tryd.sizeOf9]) Parts.nil rfl) (Is.of (y := .agg (entL zeroE)) (rfl))) rfl ?_
    refine X.u (LU.assignS Is.rfl') rfl ?_
    refine X.act (X.store 0 rfl Tryd.sizeOf28 Is.rfl' Is.rfl' (by exact Cells.agg) (by rfl) (by exact Nat.le_of_ble_eq_true rfl) ?_)
    refine X.u (LU.assignR Is.rfl') rfl ?_
    refine LL.nil (after_code ?_)
    refine LW.ret (ret_code (after_end ?_))
    rw [putAt_all (by simp [raws, zeroE, zero32])]
    refine X.ret (H' := []) (Res.tct 0 rfl rfl ⟨Tryd.sizeOf28, Tryd.isAgg28⟩ (Part.whole (by rfl)) (IsS rfl) (IsA rfl) (IsR rfl)) (by repeat (first | exact HSub.refl _ | refine HSub.drop ?_)) ?_
    exact ⟨by rw [hz, ha, hE]; try rfl, rfl⟩
  · have h2 : ¬ (tick < 0 ∨ 1099511627776 < tick ∨ (0 < es.length ∧ tick < (lastE es).tick)) := by simp only [Bool.or_eq_false_iff, Bool.and_eq_false_imp, decide_eq_false_iff_not, decide_eq_true_eq] at h1; omega
    rw [if_neg h2] at hE
    refine LW.skip (after_code ?_)
    refine LW.seq ?_
    refine LW.seq ?_
    refine LW.region ?_
    refine X.u (LU.moveR Is.rfl') rfl ?_
    refine X.u (LU.strlenN Tryd.underlying9 Is.rfl') rfl ?_
    refine X.u (LU.gtr Is.rfl' Is.rfl') rfl ?_
    refine X.u (LU.moveR Is.rfl') rfl ?_
    refine X.gF rfl rfl (fun hg => LU.moveR (by exact Is.rfl')) rfl ?_
    refine X.gF rfl rfl (fun hg => LU.strlenN Tryd.underlying9 (by exact Is.whenN hg)) rfl ?_
    refine X.gF rfl rfl (fun hg => LU.gtr (by exact Is.whenN hg) (by exact Is.rfl')) rfl ?_
    refine X.u (LU.pickOr Is.rfl' Is.rfl' (fun hq => (by exact Is.whenN hq))) rfl ?_
    refine X.u (LU.moveR Is.rfl') rfl ?_
    refine X.gF rfl rfl (fun hg => LU.moveS (by exact Is.rfl')) rfl ?_
    refine X.gF rfl rfl (fun hg => LU.lenN Tryd.underlying22 (by exact Is.whenN hg) (by (simp only [Option.getD_some, Option.getD_none, byteEls_length, intEls_length, List.length_append, List.length_cons, List.length_nil, List.length_map, List.length_drop, List.length_take, Int.toNat_natCast]; rfl))) rfl ?_
    refine X.gF rfl rfl (fun hg => LU.geq (by exact Is.whenN hg) (by exact Is.rfl')) rfl ?_
    refine X.u (LU.pickOr Is.rfl' Is.rfl' (fun hq => (by exact Is.whenN hq))) rfl ?_
    refine LL.nil (after_code ?_)
    refine X.cond rfl (fun h3 => ?_) (fun h3 => ?_)
    · have h4 : 16 < who.length ∨ 512 < what.length ∨ 4096 ≤ es.length := by simp only [Bool.or_eq_true, decide_eq_true_eq] at h3; omega
      rw [if_pos h4] at hE
      have hz := hZ (by omega)
      have ha := hA1 (by omega)
      refine LW.seq ?_
      refine LW.region ?_
      refine X.u (LU.moveS Is.rfl') rfl ?_
      refine X.u (LU.weak (LU.build (places := #[(0, 1), (1, 1), (2, 1), (3, 1), (4, 32)]) Tryd.underlying28 Tryd.zeroValue28 (ones rfl) (by intro w; simp [Tryd.sizeOf26, Tryd.sizeOf3, Tryd.sizeOf9]) Parts.nil rfl) (Is.of (y := .agg (entL zeroE)) (rfl))) rfl ?_
      refine X.u (LU.assignS Is.rfl') rfl ?_
      refine X.act (X.store 0 rfl Tryd.sizeOf28 Is.rfl' Is.rfl' (by exact Cells.agg) (by rfl) (by exact Nat.le_of_ble_eq_true rfl) ?_)
      refine X.u (LU.assignR Is.rfl') rfl ?_
      refine LL.nil (after_code ?_)
      refine LW.ret (ret_code (after_end ?_))
      rw [putAt_all (by simp [raws, zeroE, zero32])]
      refine X.ret (H' := []) (Res.tct 0 rfl rfl ⟨Tryd.sizeOf28, Tryd.isAgg28⟩ (Part.whole (by rfl)) (IsS rfl) (IsA rfl) (IsR rfl)) (by repeat (first | exact HSub.refl _ | refine HSub.drop ?_)) ?_
      exact ⟨by rw [hz, ha, hE]; try rfl, rfl⟩
    · have h4 : ¬ (16 < who.length ∨ 512 < what.length ∨ 4096 ≤ es.length) := by simp only [Bool.or_eq_false_iff, decide_eq_false_iff_not] at h3; omega
      rw [if_neg h4] at hE
      have hz := hN (by omega)
      have ha := hA0 (by omega)
      refine LW.skip (after_code ?_)
      refine LW.seq ?_
      refine LW.region ?_
      refine X.u (LU.moveS Is.rfl') rfl ?_
      refine X.u (LU.lenN Tryd.underlying22 Is.rfl' (by (simp only [Option.getD_some, Option.getD_none, byteEls_length, intEls_length, List.length_append, List.length_cons, List.length_nil, List.length_map, List.length_drop, List.length_take, Int.toNat_natCast]; rfl))) rfl ?_
      refine X.u (LU.addN Is.rfl' Is.rfl' (wrap_i64 (by omega) (by omega))) rfl ?_
      refine X.u (LU.moveR Is.rfl') rfl ?_
      refine X.u (LU.moveR Is.rfl') rfl ?_
      refine X.u (LU.moveR Is.rfl') rfl ?_
      refine X.u (LU.moveS Is.rfl') rfl ?_
      refine X.u (LU.call (hhd) Tryd.func11 rfl rfl (Opds.cons Is.rfl' Opds.nil)) rfl ?_
      refine X.u (LU.weak (LU.build (places := #[(0, 1), (1, 1), (2, 1), (3, 1), (4, 32)]) Tryd.underlying28 Tryd.zeroValue28 (ones rfl) (by intro w; simp [Tryd.sizeOf26, Tryd.sizeOf3, Tryd.sizeOf9]) (Parts.cons Is.rfl' (by exact Cells.raw rfl) (Parts.cons Is.rfl' (by exact Cells.raw rfl) (Parts.cons Is.rfl' (by exact Cells.raw rfl) (Parts.cons Is.rfl' (by exact Cells.raw rfl) (Parts.cons Is.rfl' (by exact Cells.agg) Parts.nil))))) (laid_ent (by simp [hhl]) rfl)) (Is.of (y := .agg (entL ⟨(es.length : Int) + 1, tick, who, what, D⟩)) (rfl))) rfl ?_
      refine X.act (X.alloc rfl Tryd.zeroValue28 (by exact Cells.rawagg (by decide)) (fun b11 => ?_))
      refine X.act (X.store 0 rfl Tryd.sizeOf28 Is.rfl' Is.rfl' (by exact Cells.agg) (by (simp; omega)) (by exact Nat.le_of_ble_eq_true rfl) ?_)
      refine LL.nil (after_code ?_)
      refine LW.seq ?_
      rw [← hz]
      refine X.wcells (ys := entL N) (putAt_all (by simp [raws, hz, hhl])) ?_
      have hNl : N.prev.length = 32 := by rw [hz]; exact hhl
      have hz36 : (entL N).length = 36 := by simp [hNl]
      refine LW.invM (m := 8) (γ := Nat × Nat × Nat × Nat × Nat × Nat) [(0, 60), (1, 61), (2, 62), (3, 63), (4, 64), (5, 65), (6, 66), (7, 8)] (fun g_ d => match g_ with | ⟨p2, q2, r2, p5, q5, r5⟩ => match d with | 60 => .sl 36 [] .full | 61 => .sl 36 (ents es) k | 62 => .sl 36 (ents es) (.tok p2 q2 r2) | 63 => .agg (entL N) | 64 => .sl 36 [entL N] .full | 65 => .sl 36 (ents (es ++ [N])) (.tok p5 q5 r5) | 66 => .agg (entL N) | 8 => .sl 36 (ents (es ++ [N])) .unk | _ => .any) (fun g_ f => match g_ with | ⟨p2, q2, r2, p5, q5, r5⟩ => cond (f 5) (.tail p5 q5 r5) (.tail p2 q2 r2) :: .cells b11 28 (entL N) :: .cells b9 28 (entL zeroE) :: Rf) (0, 0, 0, 0, 0, 0) rfl (by kernel_rfl) rfl rfl (HSub.tail0 0 0 0 (Nat.le_refl _) _) ?_ ?_
      · intro i hi f g_ hfi hdir hdown
        obtain ⟨p2, q2, r2, p5, q5, r5⟩ := g_
        have hc : i = 0 ∨ i = 1 ∨ i = 2 ∨ i = 3 ∨ i = 4 ∨ i = 5 ∨ i = 6 ∨ i = 7 := by omega
        rcases hc with rfl | rfl | rfl | rfl | rfl | rfl | rfl | rfl
        · refine ⟨_, rfl, ?_⟩
          refine A.u (LU.lits Tryd.underlying22 Tryd.sizeOf28 Tryd.zeroValue28 (ones rfl) rfl (by decide) (by decide) Elems.nil (by intro e he; cases he) rfl) rfl ?_
          refine ⟨⟨p2, q2, r2, p5, q5, r5⟩, Weaker.mk' ?_ (HSub.refl _)⟩
          refine env_back0 (envS_hit (sl := [(0, 60), (1, 61), (2, 62), (3, 63), (4, 64), (5, 65), (6, 66), (7, 8)]) (j := 0) (d := 60) rfl (fun _ _ h => h))  (envS_next ?_)
          · intro p hp hne; simp only [List.mem_cons, List.not_mem_nil, or_false] at hp; rcases hp with rfl | rfl | rfl | rfl | rfl | rfl | rfl | rfl <;> first | exact absurd rfl hne | exact ⟨rfl, rfl⟩
        · refine ⟨_, rfl, ?_⟩
          refine A.u (LU.moveS Is.rfl') rfl ?_
          refine ⟨⟨p2, q2, r2, p5, q5, r5⟩, Weaker.mk' ?_ (HSub.refl _)⟩
          refine env_back0 (envS_hit (sl := [(0, 60), (1, 61), (2, 62), (3, 63), (4, 64), (5, 65), (6, 66), (7, 8)]) (j := 1) (d := 61) rfl (fun _ _ h => h))  (envS_next ?_)
          · intro p hp hne; simp only [List.mem_cons, List.not_mem_nil, or_false] at hp; rcases hp with rfl | rfl | rfl | rfl | rfl | rfl | rfl | rfl <;> first | exact absurd rfl hne | exact ⟨rfl, rfl⟩
        · have d0 := hdir 0 (List.mem_of_elem_eq_true (by kernel_rfl))
          have d1 := hdir 1 (List.mem_of_elem_eq_true (by kernel_rfl))
          refine ⟨_, rfl, ?_⟩
          have h5 : f 5 = false := Bool.eq_false_iff.2 (fun h => by rw [hdown 5 (by omega) h 2 (List.mem_of_elem_eq_true (by kernel_rfl))] at hfi; cases hfi)
          refine LP.weak (t := 60) (v := .sl 36 [] .full) (envS_is (j := 0) rfl d0) ?_
          refine LP.weak (t := 61) (v := .sl 36 (ents es) k) (envS_is (j := 1) rfl d1) ?_
          refine A.act (X.appendF rfl Tryd.underlying22 (El.of (P := Tryd.prog) (z := (.agg #[(.int .i64 0), (.int .i64 0), (.string ByteArray.empty), (.string ByteArray.empty), (.int .u8 0), (.int .u8 0), (.int .u8 0), (.int .u8 0), (.int .u8 0), (.int .u8 0), (.int .u8 0), (.int .u8 0), (.int .u8 0), (.int .u8 0), (.int .u8 0), (.int .u8 0), (.int .u8 0), (.int .u8 0), (.int .u8 0), (.int .u8 0), (.int .u8 0), (.int .u8 0), (.int .u8 0), (.int .u8 0), (.int .u8 0), (.int .u8 0), (.int .u8 0), (.int .u8 0), (.int .u8 0), (.int .u8 0), (.int .u8 0), (.int .u8 0), (.int .u8 0), (.int .u8 0), (.int .u8 0), (.int .u8 0)])) (size := 36) (bytes := 80) rfl rfl rfl) Is.rfl' Is.rfl' (SrcL.slice Tryd.underlying22 (by decide) hsz) (by simp only [Option.getD_some, Option.getD_none, byteEls_length, intEls_length, List.length_append, List.length_cons, List.length_nil, List.length_map, List.length_drop, List.length_take, Int.toNat_natCast]; omega) (by simp only [Option.getD_some, Option.getD_none, byteEls_length, intEls_length, List.length_append, List.length_cons, List.length_nil, List.length_map, List.length_drop, List.length_take, Int.toNat_natCast]; omega) (fun b62 o62 c62 => ?_))
          refine ⟨(b62, o62, c62, p5, q5, r5), Weaker.mk' ?_ (by show HSub _ (cond (f 5) _ _ :: _); rw [h5]; exact HSub.cons (HSub.drop (HSub.refl _)))⟩
          refine env_back2 (envS_hit (sl := [(0, 60), (1, 61), (2, 62), (3, 63), (4, 64), (5, 65), (6, 66), (7, 8)]) (j := 2) (d := 62) rfl (fun _ _ h => h)) (envS_hit (sl := [(0, 60), (1, 61), (2, 62), (3, 63), (4, 64), (5, 65), (6, 66), (7, 8)]) (j := 1) (d := 61) rfl (fun _ _ h => h)) (envS_hit (sl := [(0, 60), (1, 61), (2, 62), (3, 63), (4, 64), (5, 65), (6, 66), (7, 8)]) (j := 0) (d := 60) rfl (fun _ _ h => h)) (envS_next ?_)
          · intro p hp hne; simp only [List.mem_cons, List.not_mem_nil, or_false] at hp; rcases hp with rfl | rfl | rfl | rfl | rfl | rfl | rfl | rfl <;> first | exact absurd rfl hne | exact ⟨rfl, rfl⟩
        · refine ⟨_, rfl, ?_⟩
          refine A.u (LU.loadO 1 rfl ⟨Tryd.sizeOf28, Tryd.isAgg28⟩ Is.rfl' (Part.whole (by assumption))) rfl ?_
          refine ⟨⟨p2, q2, r2, p5, q5, r5⟩, Weaker.mk' ?_ (HSub.refl _)⟩
          refine env_back0 (envS_hit (sl := [(0, 60), (1, 61), (2, 62), (3, 63), (4, 64), (5, 65), (6, 66), (7, 8)]) (j := 3) (d := 63) rfl (fun _ _ h => h))  (envS_next ?_)
          · intro p hp hne; simp only [List.mem_cons, List.not_mem_nil, or_false] at hp; rcases hp with rfl | rfl | rfl | rfl | rfl | rfl | rfl | rfl <;> first | exact absurd rfl hne | exact ⟨rfl, rfl⟩
        · have d3 := hdir 3 (List.mem_of_elem_eq_true (by kernel_rfl))
          refine ⟨_, rfl, ?_⟩
          refine LP.weak (t := 63) (v := .agg (entL N)) (envS_is (j := 3) rfl d3) ?_
          refine A.u (LU.lits Tryd.underlying22 Tryd.sizeOf28 Tryd.zeroValue28 (ones rfl) rfl (by decide) (by decide) (Elems.cons Is.rfl' (by exact Cells.agg) Elems.nil) (by (simp; assumption)) rfl) rfl ?_
          refine ⟨⟨p2, q2, r2, p5, q5, r5⟩, Weaker.mk' ?_ (HSub.refl _)⟩
          refine env_back1 (envS_hit (sl := [(0, 60), (1, 61), (2, 62), (3, 63), (4, 64), (5, 65), (6, 66), (7, 8)]) (j := 4) (d := 64) rfl (fun _ _ h => h)) (envS_hit (sl := [(0, 60), (1, 61), (2, 62), (3, 63), (4, 64), (5, 65), (6, 66), (7, 8)]) (j := 3) (d := 63) rfl (fun _ _ h => h)) (envS_next ?_)
          · intro p hp hne; simp only [List.mem_cons, List.not_mem_nil, or_false] at hp; rcases hp with rfl | rfl | rfl | rfl | rfl | rfl | rfl | rfl <;> first | exact absurd rfl hne | exact ⟨rfl, rfl⟩
        · have d2 := hdir 2 (List.mem_of_elem_eq_true (by kernel_rfl))
          have d4 := hdir 4 (List.mem_of_elem_eq_true (by kernel_rfl))
          refine ⟨_, rfl, ?_⟩
          refine LP.ghost (H' := .tail p2 q2 r2 :: .cells b11 28 (entL N) :: .cells b9 28 (entL zeroE) :: Rf) (by rw [hfi]; exact HSub.refl _) ?_
          refine LP.weak (t := 62) (v := .sl 36 (ents es) (.tok p2 q2 r2)) (envS_is (j := 2) rfl d2) ?_
          refine LP.weak (t := 64) (v := .sl 36 [entL N] .full) (envS_is (j := 4) rfl d4) ?_
          refine A.act (X.append 0 rfl rfl Tryd.underlying22 (El.of (P := Tryd.prog) (z := (.agg #[(.int .i64 0), (.int .i64 0), (.string ByteArray.empty), (.string ByteArray.empty), (.int .u8 0), (.int .u8 0), (.int .u8 0), (.int .u8 0), (.int .u8 0), (.int .u8 0), (.int .u8 0), (.int .u8 0), (.int .u8 0), (.int .u8 0), (.int .u8 0), (.int .u8 0), (.int .u8 0), (.int .u8 0), (.int .u8 0), (.int .u8 0), (.int .u8 0), (.int .u8 0), (.int .u8 0), (.int .u8 0), (.int .u8 0), (.int .u8 0), (.int .u8 0), (.int .u8 0), (.int .u8 0), (.int .u8 0), (.int .u8 0), (.int .u8 0), (.int .u8 0), (.int .u8 0), (.int .u8 0), (.int .u8 0)])) (size := 36) (bytes := 80) rfl rfl rfl) Is.rfl' Is.rfl' (SrcL.slice Tryd.underlying22 (by decide) (by simp [hNl])) (by simp only [Option.getD_some, Option.getD_none, byteEls_length, intEls_length, List.length_append, List.length_cons, List.length_nil, List.length_map, List.length_drop, List.length_take, Int.toNat_natCast]; omega) (by simp only [Option.getD_some, Option.getD_none, byteEls_length, intEls_length, List.length_append, List.length_cons, List.length_nil, List.length_map, List.length_drop, List.length_take, Int.toNat_natCast]; omega) (fun b65 o65 c65 => ?_))
          refine ⟨(p2, q2, r2, b65, o65, c65), Weaker.mk' ?_ (HSub.refl _)⟩
          refine env_back2 (envS_hit (sl := [(0, 60), (1, 61), (2, 62), (3, 63), (4, 64), (5, 65), (6, 66), (7, 8)]) (j := 5) (d := 65) rfl (Is.of (ents_snoc es N (.tok b65 o65 c65)))) (envS_hit (sl := [(0, 60), (1, 61), (2, 62), (3, 63), (4, 64), (5, 65), (6, 66), (7, 8)]) (j := 4) (d := 64) rfl (fun _ _ h => h)) (envS_hit (sl := [(0, 60), (1, 61), (2, 62), (3, 63), (4, 64), (5, 65), (6, 66), (7, 8)]) (j := 2) (d := 62) rfl (fun _ _ h => h)) (envS_next ?_)
          · intro p hp hne; simp only [List.mem_cons, List.not_mem_nil, or_false] at hp; rcases hp with rfl | rfl | rfl | rfl | rfl | rfl | rfl | rfl <;> first | exact absurd rfl hne | exact ⟨rfl, rfl⟩
        · refine ⟨_, rfl, ?_⟩
          refine A.u (LU.loadO 1 rfl ⟨Tryd.sizeOf28, Tryd.isAgg28⟩ Is.rfl' (Part.whole (by assumption))) rfl ?_
          refine ⟨⟨p2, q2, r2, p5, q5, r5⟩, Weaker.mk' ?_ (HSub.refl _)⟩
          refine env_back0 (envS_hit (sl := [(0, 60), (1, 61), (2, 62), (3, 63), (4, 64), (5, 65), (6, 66), (7, 8)]) (j := 6) (d := 66) rfl (fun _ _ h => h))  (envS_next ?_)
          · intro p hp hne; simp only [List.mem_cons, List.not_mem_nil, or_false] at hp; rcases hp with rfl | rfl | rfl | rfl | rfl | rfl | rfl | rfl <;> first | exact absurd rfl hne | exact ⟨rfl, rfl⟩
        · have d0 := hdir 0 (List.mem_of_elem_eq_true (by kernel_rfl))
          have d1 := hdir 1 (List.mem_of_elem_eq_true (by kernel_rfl))
          have d2 := hdir 2 (List.mem_of_elem_eq_true (by kernel_rfl))
          have d3 := hdir 3 (List.mem_of_elem_eq_true (by kernel_rfl))
          have d4 := hdir 4 (List.mem_of_elem_eq_true (by kernel_rfl))
          have d5 := hdir 5 (List.mem_of_elem_eq_true (by kernel_rfl))
          refine ⟨_, rfl, ?_⟩
          refine LP.weak (t := 65) (v := .sl 36 (ents (es ++ [N])) (.tok p5 q5 r5)) (envS_is (j := 5) rfl d5) ?_
          refine A.u (LU.assignS Is.rfl') rfl ?_
          refine ⟨⟨p2, q2, r2, p5, q5, r5⟩, Weaker.mk' ?_ (HSub.refl _)⟩
          refine env_back1 (envS_hit (sl := [(0, 60), (1, 61), (2, 62), (3, 63), (4, 64), (5, 65), (6, 66), (7, 8)]) (j := 7) (d := 8) rfl (Is.unk)) (envS_hit (sl := [(0, 60), (1, 61), (2, 62), (3, 63), (4, 64), (5, 65), (6, 66), (7, 8)]) (j := 5) (d := 65) rfl (fun _ _ h => h)) (envS_next ?_)
          · intro p hp hne; simp only [List.mem_cons, List.not_mem_nil, or_false] at hp; rcases hp with rfl | rfl | rfl | rfl | rfl | rfl | rfl | rfl <;> first | exact absurd rfl hne | exact ⟨rfl, rfl⟩
      · intro g_ f hf_
        obtain ⟨p2, q2, r2, p5, q5, r5⟩ := g_
        refine X.ghost (H' := .tail p5 q5 r5 :: .cells b11 28 (entL N) :: .cells b9 28 (entL zeroE) :: Rf) (by show HSub (cond (f 5) _ _ :: _) _; rw [hf_ 5 (by omega)]; exact HSub.refl _) ?_
        refine X.act (X.store 2 rfl Tryd.sizeOf28 Is.rfl' Is.rfl' (by exact Cells.agg) (by assumption) (by exact Nat.le_of_ble_eq_true rfl) ?_)
        refine X.u (LU.assignR Is.rfl') rfl ?_
        refine LL.nil (after_code ?_)
        refine LW.ret (after_end ?_)
        rw [putAt_all (by simp [hNl, zeroE, zero32])]
        refine X.ret (H' := []) (Res.tct 0 rfl rfl ⟨Tryd.sizeOf28, Tryd.isAgg28⟩ (Part.whole hz36) (IsS rfl) (IsA rfl) (IsR rfl)) (by repeat (first | exact HSub.refl _ | refine HSub.drop ?_)) ?_
        exact ⟨by rw [ha, hE, hz]; try rfl, rfl⟩
structure Ac where
  tick : Int
  who : List UInt8
  what : List UInt8
  again : Bool
abbrev acL (a : Ac) : List LV := [i64 a.tick, Str a.who, Str a.what, bl a.again]
abbrev acts (l : List Ac) : List (List LV) := l.map acL
theorem acts_at {l : List Ac} {i : Nat} {x : Ac} (h : l[i]? = some x) : (acts l)[(i : Int).toNat]? = some (acL x) := by
  rw [Int.toNat_natCast, List.getElem?_map, h]; rfl
def AcOk (a : Ac) : Prop := (-9223372036854775808 ≤ a.tick ∧ a.tick < 9223372036854775808) ∧ a.who.length ≤ 140737488355328 ∧ a.what.length ≤ 140737488355328
set_option maxRecDepth 100000 in
theorem few_calls (l : List Ac) (k : Cap) (hl : l.length < 140737488355328) (hok : ∀ a ∈ l, AcOk a) : LCalls Tryd.prog 19 [.sl 4 (acts l) k] [] (fun r H' => ∃ fb, r = bl fb ∧ H' = [] ∧ (fb = true → l.length ≤ 60)) := by
  refine LCalls.of Tryd.func19 rfl Tryd.ntmps19 Tryd.results19 rfl (fun Rf => ?_)
  refine LW.seq ?_
  refine LW.region ?_
  refine X.u (LU.assignR Is.rfl') rfl ?_
  refine LL.nil (after_code ?_)
  refine LW.seq ?_
  refine LW.region ?_
  refine X.u (LU.assignR Is.rfl') rfl ?_
  refine LL.nil (after_code ?_)
  refine LW.seq ?_
  refine LW.seq ?_
  refine LW.region ?_
  refine X.u (LU.moveS Is.rfl') rfl ?_
  refine X.u (LU.lenN Tryd.underlying46 Is.rfl' (by (simp only [Option.getD_some, Option.getD_none, byteEls_length, intEls_length, List.length_append, List.length_cons, List.length_nil, List.length_map, List.length_drop, List.length_take, Int.toNat_natCast]; rfl))) rfl ?_
  refine X.u (LU.moveR Is.rfl') rfl ?_
  refine LL.nil (after_code ?_)
  refine LW.block ?_
  refine X.loopK (α := Nat × Nat) (fun ⟨i, n⟩ => [(8, i64 i), (3, i64 (n : Nat))]) [6, 7] (fun ⟨i, n⟩ => Rf) (fun ⟨i, n⟩ => i ≤ l.length ∧ i ≤ n ∧ n ≤ 60) (fun ⟨i, n⟩ => l.length - i) ((0, 0)) (EnvLe.cons (by rfl) (EnvLe.cons (by rfl) (EnvLe.nil))) (by repeat (exact HSub.refl _)) ?_ ?_
  · exact ⟨Nat.zero_le _, Nat.zero_le _, by omega⟩
  · rintro ⟨i, n⟩ hI
    obtain ⟨hi, hin, hn⟩ := hI
    refine LW.seq ?_
    refine LW.region ?_
    refine X.u (LU.lss Is.rfl' Is.rfl') rfl ?_
    refine LL.nil (after_code ?_)
    refine LW.seq ?_
    refine X.cond rfl (fun h3 => ?_) (fun h3 => ?_)
    · try have h3 := of_decide_eq_true h3
      refine LW.skip (after_code ?_)
      refine LW.seq ?_
      refine LW.block ?_
      refine LW.seq ?_
      obtain ⟨x, hx⟩ := at_lt (show i < l.length by omega)
      obtain ⟨hx1, hx2, hx3⟩ := hok x (List.mem_of_getElem? hx)
      refine LW.region ?_
      refine X.u (LU.at Tryd.underlying46 ⟨Tryd.sizeOf35, Tryd.isAgg35⟩ Is.rfl' Is.rfl' (by omega) (acts_at hx) (by simp)) rfl ?_
      refine X.u (LU.load ⟨Tryd.sizeOf35, Tryd.isAgg35⟩ Is.rfl' (by (simp; done)) (Part.whole (by (simp; done)))) rfl ?_
      refine X.act (X.alloc rfl Tryd.zeroValue35 (by exact Cells.rawagg (by decide)) (fun b5 => ?_))
      refine X.act (X.store 0 rfl Tryd.sizeOf35 Is.rfl' Is.rfl' (by exact Cells.agg) (by (simp; done)) (by exact Nat.le_of_ble_eq_true rfl) ?_)
      refine LL.nil (after_code ?_)
      refine LW.seq ?_
      refine X.wcells (ys := acL x) (putAt_all (by simp [raws])) ?_
      refine LW.region ?_
      refine X.u (LU.moveR Is.rfl') rfl ?_
      refine X.u (LU.fieldO Tryd.underlying35 rfl Tryd.sizeOf9 (by decide) Is.rfl') rfl ?_
      refine X.u (LU.loadO 0 rfl ⟨Tryd.sizeOf9, Tryd.isAgg9⟩ Is.rfl' (Part.one rfl)) rfl ?_
      refine X.u (LU.strlenN Tryd.underlying9 Is.rfl') rfl ?_
      refine X.u (LU.fieldO Tryd.underlying35 rfl Tryd.sizeOf9 (by decide) Is.rfl') rfl ?_
      refine X.u (LU.loadO 0 rfl ⟨Tryd.sizeOf9, Tryd.isAgg9⟩ Is.rfl' (Part.one rfl)) rfl ?_
      refine X.u (LU.strlenN Tryd.underlying9 Is.rfl') rfl ?_
      refine X.u (LU.weak (LU.addN Is.rfl' Is.rfl' (wrap_i64 (by omega) (by omega))) (Is.of (y := i64 ((x.who.length + x.what.length : Nat) : Int)) (rfl))) rfl ?_
      refine X.u (LU.weak (LU.quoN Is.rfl' Is.rfl' (by omega) (tdiv_i64 (by omega) (by omega) (by omega))) (Is.of (y := i64 (((x.who.length + x.what.length) / 600 : Nat) : Int)) (rfl))) rfl ?_
      refine X.u (LU.weak (LU.addN Is.rfl' Is.rfl' (wrap_i64 (by omega) (by omega))) (Is.of (y := i64 ((1 + (x.who.length + x.what.length) / 600 : Nat) : Int)) (rfl))) rfl ?_
      refine X.u (LU.weak (LU.addN Is.rfl' Is.rfl' (wrap_i64 (by omega) (by omega))) (Is.of (y := i64 ((n + (1 + (x.who.length + x.what.length) / 600) : Nat) : Int)) (rfl))) rfl ?_
      refine X.u (LU.assignR Is.rfl') rfl ?_
      refine LL.nil (after_code ?_)
      refine LW.seq ?_
      refine LW.region ?_
      refine X.u (LU.moveR Is.rfl') rfl ?_
      refine X.u (LU.gtr Is.rfl' Is.rfl') rfl ?_
      refine LL.nil (after_code ?_)
      refine X.cond rfl (fun h6 => ?_) (fun h6 => ?_)
      · try have h6 := of_decide_eq_true h6
        refine LW.seq ?_
        refine LW.region ?_
        refine X.u (LU.assignR Is.rfl') rfl ?_
        refine LL.nil (after_code ?_)
        refine LW.ret (ret_blk (ret_code (ret_rnd (ret_blk (ret_code (after_end ?_))))))
        refine X.ret (H' := []) (Res.one (by exact IsR rfl)) (by repeat (first | exact HSub.refl _ | refine HSub.drop ?_)) ?_
        exact ⟨false, rfl, rfl, fun h => by cases h⟩
      · try have h6 := of_decide_eq_false h6
        refine LW.skip (after_blk (after_code ?_))
        refine LW.region ?_
        refine X.u (LU.addN Is.rfl' Is.rfl' (wrap_i64 (by omega) (by omega))) rfl ?_
        refine X.u (LU.moveR Is.rfl') rfl ?_
        refine LL.nil (after_rnd ?_)
        refine X.next ((i + 1, n + (1 + (x.who.length + x.what.length) / 600))) rfl (EnvLe.cons (by rfl) (EnvLe.cons (by rfl) (EnvLe.nil))) (Keeps.cons (by exact Eq.trans (b := .sl _ _ _) rfl rfl) (Keeps.cons (by exact Eq.trans (b := .raw _) rfl rfl) (Keeps.nil))) (by repeat (first | exact HSub.refl _ | refine HSub.drop ?_)) ?_ ?_
        · exact ⟨by omega, by omega, by omega⟩
        · (simp; omega)
    · try have h3 := of_decide_eq_false h3
      refine LW.exit (exit_code (exit_rnd (exit_blk (after_code ?_))))
      refine LW.seq ?_
      refine LW.region ?_
      refine X.u (LU.assignR Is.rfl') rfl ?_
      refine LL.nil (after_code ?_)
      refine LW.ret (after_end ?_)
      refine X.ret (H' := []) (Res.one (by exact IsR rfl)) (by repeat (exact HSub.refl _)) ?_
      exact ⟨true, rfl, rfl, fun _ => by omega⟩
end Go.Proofs.YtpcfpkfchoelcaaDoor
