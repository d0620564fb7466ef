/- The document's queue. -/
import Derived.Test.YtpimalihpnfdkaaQuI
import Derived.Test.YtpimalihpnfdkaaLogFm
import Derived.Test.YtpimalihpnfdkaaLogL
set_option linter.unusedVariables false
set_option linter.unusedSimpArgs false
namespace Go.Proofs.Ytpimalihpnfdkaa
open Go.RowKit Go.L
attribute [local irreducible] LL LW LO LP LA
abbrev rq (W : List Int) (E : List Ed) : List LV := [Ints W .unk, .sl 3 (eds E) .unk]
abbrev rqz : List LV := raws [.slice none 0 0, .slice none 0 0]
theorem eds_at {l : List Ed} {i : Nat} {x : Ed} (h : l[i]? = some x) : (eds l)[(i : Int).toNat]? = some (edL x) := by
  rw [Int.toNat_natCast, List.getElem?_map, h]; rfl
theorem take_snocE {l : List Ed} {i : Nat} {x : Ed} (h : l[i]? = some x) : l.take (i + 1) = l.take i ++ [x] := by
  obtain ⟨h1, h2⟩ := List.getElem?_eq_some_iff.1 h
  rw [List.take_succ_eq_append_getElem h1, h2]
theorem sl_drop' (l : List Int) (n : Nat) : ((intEls l).drop (Option.getD (some ((n : Nat) : Int)) 0).toNat).take ((Option.getD none ((intEls l).length : Int)).toNat - (Option.getD (some ((n : Nat) : Int)) 0).toNat) = intEls (l.drop n) := by
  simp only [Option.getD_some, Option.getD_none, Int.toNat_natCast]
  rw [List.take_of_length_le (by rw [List.length_drop]; exact Nat.le_refl _)]
  simp [intEls]
set_option maxRecDepth 100000 in
theorem same21_calls (a b : List Ed) (ka kb : Cap) (ha : a.length < 140737488355328) (hb : b.length < 140737488355328) : LCalls Try.prog 47 [.sl 3 (eds a) ka, .sl 3 (eds b) kb] [] (fun r H' => r = bl (decide (a = b)) ∧ H' = []) := by
  refine LCalls.of Try.func47 rfl Try.ntmps47 Try.results47 rfl (fun Rf => ?_)
  refine LW.seq ?_
  refine LW.region ?_
  refine X.u (LU.assignR Is.rfl') rfl ?_
  refine LL.nil (after_code ?_)
  refine LW.seq ?_
  refine LW.seq ?_
  refine LW.region ?_
  refine X.u (LU.moveS Is.rfl') rfl ?_
  refine X.u (LU.lenN Try.underlying54 Is.rfl' (by (simp only [Option.getD_some, Option.getD_none, byteEls_length, intEls_length, List.length_append, List.length_cons, List.length_nil, List.length_map, List.length_drop, List.length_take, Int.toNat_natCast]; rfl))) rfl ?_
  refine X.u (LU.moveS Is.rfl') rfl ?_
  refine X.u (LU.lenN Try.underlying54 Is.rfl' (by (simp only [Option.getD_some, Option.getD_none, byteEls_length, intEls_length, List.length_append, List.length_cons, List.length_nil, List.length_map, List.length_drop, List.length_take, Int.toNat_natCast]; rfl))) rfl ?_
  refine X.u (LU.neq Is.rfl' Is.rfl') rfl ?_
  refine LL.nil (after_code ?_)
  refine X.cond rfl (fun h1 => ?_) (fun h1 => ?_)
  · have h1 : a.length ≠ b.length := by simp only [Bool.not_eq_true', decide_eq_false_iff_not, List.length_map] at h1; omega
    refine LW.seq ?_
    refine LW.region ?_
    refine X.u (LU.assignR Is.rfl') rfl ?_
    refine LL.nil (after_code ?_)
    refine LW.ret (ret_code (after_end ?_))
    refine X.ret (H' := []) (Res.one (by exact IsR rfl)) (by repeat (exact HSub.refl _)) ?_
    exact ⟨by rw [decide_eq_false (fun h => h1 (by rw [h]))], rfl⟩
  · have h1 : a.length = b.length := by simp only [Bool.not_eq_false', decide_eq_true_eq, List.length_map] at h1; omega
    refine LW.skip (after_code ?_)
    refine LW.seq ?_
    refine LW.seq ?_
    refine LW.region ?_
    refine X.u (LU.assignR Is.rfl') rfl ?_
    refine LL.nil (after_code ?_)
    refine LW.block ?_
    refine X.loopK (α := Nat) (fun i => [(5, i64 i)]) [0, 1] (fun _ => _) (fun i => i ≤ a.length ∧ a.take i = b.take i) (fun i => a.length - i) (0) (EnvLe.cons (by rfl) (EnvLe.nil)) (HSub.refl _) ?_ ?_
    · exact ⟨Nat.zero_le _, by simp⟩
    · rintro i hI
      obtain ⟨hk, htk⟩ := hI
      refine LW.seq ?_
      refine LW.seq ?_
      refine LW.region ?_
      refine X.u (LU.moveR Is.rfl') rfl ?_
      refine X.u (LU.moveS Is.rfl') rfl ?_
      refine X.u (LU.lenN Try.underlying54 Is.rfl' (by (simp only [Option.getD_some, Option.getD_none, byteEls_length, intEls_length, List.length_append, List.length_cons, List.length_nil, List.length_map, List.length_drop, List.length_take, Int.toNat_natCast]; rfl))) rfl ?_
      refine X.u (LU.lss Is.rfl' Is.rfl') rfl ?_
      refine LL.nil (after_code ?_)
      refine X.cond rfl (fun h4 => ?_) (fun h4 => ?_)
      · try have h4 := of_decide_eq_true h4
        refine LW.skip (after_code ?_)
        refine LW.seq ?_
        refine LW.block ?_
        refine LW.seq ?_
        obtain ⟨x, hx⟩ := at_lt (show i < a.length by omega)
        obtain ⟨y, hy⟩ := at_lt (show i < b.length by omega)
        refine X.drawM 9 rfl (by kernel_rfl) rfl ?_
        refine QD.u (LU.moveS Is.rfl') rfl ?_
        refine QD.u (LU.moveR Is.rfl') rfl ?_
        refine QD.u (LU.at Try.underlying54 ⟨Try.sizeOf58, Try.isAgg58⟩ Is.rfl' Is.rfl' (by omega) (eds_at hx) (by simp)) rfl ?_
        refine QD.u (LU.load ⟨Try.sizeOf58, Try.isAgg58⟩ Is.rfl' (by (simp; done)) (Part.whole (by (simp; done)))) rfl ?_
        refine QD.u (LU.moveS Is.rfl') rfl ?_
        refine QD.u (LU.moveR Is.rfl') rfl ?_
        refine QD.u (LU.at Try.underlying54 ⟨Try.sizeOf58, Try.isAgg58⟩ Is.rfl' Is.rfl' (by omega) (eds_at hy) (by simp)) rfl ?_
        refine QD.u (LU.load ⟨Try.sizeOf58, Try.isAgg58⟩ Is.rfl' (by (simp; done)) (Part.whole (by (simp; done)))) rfl ?_
        refine QD.u (LU.neqA Is.rfl' Is.rfl' (RawL.cons (RawL.cons (RawL.cons (RawL.nil)))) (RawL.cons (RawL.cons (RawL.cons (RawL.nil)))) Try.eqGuardType58 rfl (EqR.struct Try.underlying58 Try.stoodInHeld58 (EqFs.cons rfl (part_one Try.isAgg3 rfl) (part_one Try.isAgg3 rfl) (EqR.int Try.underlying3) (EqFs.cons rfl (part_one Try.isAgg3 rfl) (part_one Try.isAgg3 rfl) (EqR.int Try.underlying3) (EqFs.one rfl (part_one Try.isAgg26 rfl) (part_one Try.isAgg26 rfl) (EqR.int Try.underlying26)))))) rfl ?_
        refine QD.nil ?_
        refine LL.nil (after_code ?_)
        refine X.cond rfl (fun h6 => ?_) (fun h6 => ?_)
        · have hxy : x ≠ y := by rintro rfl; simp at h6
          refine LW.seq ?_
          refine LW.region ?_
          refine X.u (LU.assignR Is.rfl') rfl ?_
          refine LL.nil (after_code ?_)
          refine LW.ret (ret_blk (ret_code (ret_rnd (ret_blk (ret_code (after_end ?_))))))
          refine X.ret (H' := []) (Res.one (by exact IsR rfl)) (by repeat (exact HSub.refl _)) ?_
          exact ⟨by rw [decide_eq_false (fun h => by rw [h, hy] at hx; exact hxy (Option.some.inj hx).symm)], rfl⟩
        · have hxy : x = y := by (obtain ⟨x1, x2, x3⟩ := x; obtain ⟨y1, y2, y3⟩ := y; simpa using h6)
          refine LW.skip (after_blk (after_code ?_))
          refine LW.region ?_
          refine X.u (LU.moveR Is.rfl') rfl ?_
          refine X.u (LU.addN Is.rfl' Is.rfl' (wrap_i64 (by omega) (by omega))) rfl ?_
          refine X.u (LU.assignR Is.rfl') rfl ?_
          refine LL.nil (after_rnd ?_)
          refine X.next (i + 1) rfl (EnvLe.cons (by rfl) (EnvLe.nil)) (Keeps.cons (by exact Eq.trans (b := .sl _ _ _) rfl rfl) (Keeps.cons (by exact Eq.trans (b := .sl _ _ _) rfl rfl) (Keeps.nil))) (HSub.refl _) ?_ ?_
          · exact ⟨by omega, by rw [take_snocE hx, take_snocE hy, htk, hxy]⟩
          · omega
      · try have h4 := of_decide_eq_false h4
        refine LW.exit (exit_code (exit_rnd (exit_blk (after_code ?_))))
        refine LW.seq ?_
        refine LW.region ?_
        refine X.u (LU.assignR Is.rfl') rfl ?_
        refine LL.nil (after_code ?_)
        refine LW.ret (after_end ?_)
        refine X.ret (H' := []) (Res.one (by exact IsR rfl)) (by repeat (exact HSub.refl _)) ?_
        exact ⟨by rw [decide_eq_true (by rw [List.take_of_length_le (by omega), List.take_of_length_le (by omega)] at htk; exact htk)], rfl⟩
set_option maxRecDepth 100000 in
theorem rplace_calls (W : List Int) (E : List Ed) (id : Int) (hl : W.length < 140737488355328) : LCalls Try.prog 51 [.agg (rq W E), i64 id] [] (fun r H' => r = i64 (idx W id) ∧ H' = []) := by
  refine LCalls.of Try.func51 rfl Try.ntmps51 Try.results51 rfl (fun Rf => ?_)
  refine LW.seq ?_
  refine LW.region ?_
  refine X.act (X.box rfl Is.rfl' (by exact Cells.agg) (fun b2 => ?_))
  refine X.u (LU.assignR Is.rfl') rfl ?_
  refine LL.nil (after_code ?_)
  refine LW.seq ?_
  refine LW.seq ?_
  refine LW.region ?_
  refine X.u (LU.assignR Is.rfl') rfl ?_
  refine LL.nil (after_code ?_)
  refine LW.block ?_
  refine X.loopK (α := Nat) (fun i => [(5, i64 i)]) [1, 2] (fun _ => _) (fun i => i ≤ W.length ∧ ∀ j, j < i → id ≠ W.getD j 0) (fun i => W.length - i) (0) (EnvLe.cons (by rfl) (EnvLe.nil)) (HSub.refl _) ?_ ?_
  · exact ⟨Nat.zero_le _, fun j hj => by omega⟩
  · rintro i hI
    obtain ⟨hi, hf⟩ := hI
    refine LW.seq ?_
    refine LW.seq ?_
    refine LW.region ?_
    refine X.u (LU.moveR Is.rfl') rfl ?_
    refine X.u (LU.fieldO Try.underlying68 rfl Try.sizeOf24 (by decide) Is.rfl') rfl ?_
    refine X.u (LU.loadO 0 rfl ⟨Try.sizeOf24, Try.isAgg24⟩ Is.rfl' (Part.one rfl)) rfl ?_
    refine X.u (LU.lenN Try.underlying24 Is.rfl' (by (simp only [Option.getD_some, Option.getD_none, byteEls_length, intEls_length, List.length_append, List.length_cons, List.length_nil, List.length_map, List.length_drop, List.length_take, Int.toNat_natCast]; rfl))) rfl ?_
    refine X.u (LU.lss Is.rfl' Is.rfl') rfl ?_
    refine LL.nil (after_code ?_)
    refine X.cond rfl (fun h2 => ?_) (fun h2 => ?_)
    · try have h2 := of_decide_eq_true h2
      refine LW.skip (after_code ?_)
      refine LW.seq ?_
      refine LW.block ?_
      refine LW.seq ?_
      obtain ⟨x, hx⟩ := at_lt (show i < W.length by omega)
      refine LW.region ?_
      refine X.u (LU.fieldO Try.underlying68 rfl Try.sizeOf24 (by decide) Is.rfl') rfl ?_
      refine X.u (LU.loadO 0 rfl ⟨Try.sizeOf24, Try.isAgg24⟩ Is.rfl' (Part.one rfl)) rfl ?_
      refine X.u (LU.moveR Is.rfl') rfl ?_
      refine X.u (LU.at Try.underlying24 ⟨Try.sizeOf3, Try.isAgg3⟩ Is.rfl' Is.rfl' (by omega) (ints_at hx) (by simp)) rfl ?_
      refine X.u (LU.load ⟨Try.sizeOf3, Try.isAgg3⟩ Is.rfl' (by (simp; done)) (Part.one rfl)) rfl ?_
      refine X.u (LU.moveR Is.rfl') rfl ?_
      refine X.u (LU.eql Is.rfl' Is.rfl') rfl ?_
      refine LL.nil (after_code ?_)
      refine X.cond rfl (fun h4 => ?_) (fun h4 => ?_)
      · have hne : x = id := by simpa using h4
        refine LW.seq ?_
        refine LW.region ?_
        refine X.u (LU.moveR Is.rfl') rfl ?_
        refine X.u (LU.assignR Is.rfl') rfl ?_
        refine LL.nil (after_code ?_)
        refine LW.ret (ret_blk (ret_code (ret_rnd (ret_blk (ret_code (after_end ?_))))))
        refine X.ret (H' := []) (Res.one (by exact IsR rfl)) (by repeat (first | exact HSub.refl _ | refine HSub.drop ?_)) ?_
        exact ⟨by rw [idx_some (by omega) hf (by rw [List.getD_eq_getElem?_getD, hx]; exact hne.symm)]; try rfl, rfl⟩
      · have hne : x ≠ id := by simpa using h4
        refine LW.skip (after_blk (after_code ?_))
        refine LW.region ?_
        refine X.u (LU.moveR Is.rfl') rfl ?_
        refine X.u (LU.addN Is.rfl' Is.rfl' (wrap_i64 (by omega) (by omega))) rfl ?_
        refine X.u (LU.assignR Is.rfl') rfl ?_
        refine LL.nil (after_rnd ?_)
        refine X.next (i + 1) rfl (EnvLe.cons (by rfl) (EnvLe.nil)) (Keeps.cons (by exact Eq.trans (b := .raw _) rfl rfl) (Keeps.cons (by exact Eq.trans (b := .raw _) rfl rfl) (Keeps.nil))) (HSub.refl _) ?_ ?_
        · refine ⟨by omega, fun j hj => ?_⟩
          by_cases hji : j = i
          · rw [hji, List.getD_eq_getElem?_getD, hx]; exact fun h => hne h.symm
          · exact hf j (by omega)
        · omega
    · try have h2 := of_decide_eq_false h2
      refine LW.exit (exit_code (exit_rnd (exit_blk (after_code ?_))))
      refine LW.seq ?_
      refine LW.region ?_
      refine X.u (LU.assignR Is.rfl') rfl ?_
      refine LL.nil (after_code ?_)
      refine LW.ret (after_end ?_)
      refine X.ret (H' := []) (Res.one (by exact IsR rfl)) (by repeat (first | exact HSub.refl _ | refine HSub.drop ?_)) ?_
      exact ⟨by rw [idx_none fun j hj => hf j (by omega)]; try rfl, rfl⟩
set_option maxRecDepth 100000 in
theorem rput_calls (W : List Int) (E : List Ed) (id : Int) (hl : W.length ≤ 64) : LCalls Try.prog 44 [.agg (rq W E), i64 id] [] (fun r H' => r = .tup [.agg (rq (putW W id) E), i64 (idxP W id)] ∧ H' = []) := by
  have hE : idxP W id = if id < 1 then 2 else if 0 ≤ idx W id then 110 else if 64 ≤ W.length then 3 else 0 := rfl
  have hW0 : idxP W id = 0 → putW W id = W ++ [id] := fun h => by unfold putW; rw [if_pos h]
  have hW1 : idxP W id ≠ 0 → putW W id = W := fun h => by unfold putW; rw [if_neg h]
  refine LCalls.of Try.func44 rfl Try.ntmps44 Try.results44 rfl (fun Rf => ?_)
  refine LW.seq ?_
  refine LW.region ?_
  refine X.act (X.box rfl Is.rfl' (by exact Cells.agg) (fun b2 => ?_))
  refine X.act (X.alloc rfl Try.zeroValue68 (by exact Cells.rawagg (by decide)) (fun b4 => ?_))
  refine X.u (LU.assignR Is.rfl') rfl ?_
  refine LL.nil (after_code ?_)
  refine LW.seq ?_
  refine LW.seq ?_
  refine LW.region ?_
  refine X.u (LU.moveR Is.rfl') rfl ?_
  refine X.u (LU.lss Is.rfl' Is.rfl') rfl ?_
  refine LL.nil (after_code ?_)
  refine X.cond rfl (fun h1 => ?_) (fun h1 => ?_)
  · try have h1 := of_decide_eq_true h1
    refine LW.seq ?_
    refine LW.region ?_
    refine X.u (LU.loadO 1 rfl ⟨Try.sizeOf68, Try.isAgg68⟩ Is.rfl' (Part.whole (by (simp; done)))) rfl ?_
    refine X.act (X.store 0 rfl Try.sizeOf68 Is.rfl' Is.rfl' (by exact Cells.agg) (by (simp; done)) (by exact Nat.le_of_ble_eq_true rfl) ?_)
    refine X.u (LU.assignR Is.rfl') rfl ?_
    refine LL.nil (after_code ?_)
    refine LW.ret (ret_code (after_end ?_))
    refine X.ret (H' := []) (by exact Res.cell2 0 rfl rfl ⟨Try.sizeOf68, Try.isAgg68⟩ (Part.whole (by rfl)) (by exact IsA rfl) (by exact IsR rfl)) (by repeat (first | exact HSub.refl _ | refine HSub.drop ?_)) ?_
    have hz : idxP W id = 2 := by rw [hE, if_pos h1]
    exact ⟨by rw [hz, hW1 (by omega)]; rfl, rfl⟩
  · try have h1 := of_decide_eq_false h1
    refine LW.skip (after_code ?_)
    refine LW.seq ?_
    refine LW.seq ?_
    refine LW.region ?_
    refine X.u (LU.loadO 1 rfl ⟨Try.sizeOf68, Try.isAgg68⟩ Is.rfl' (Part.whole (by (simp; done)))) rfl ?_
    refine X.u (LU.moveR Is.rfl') rfl ?_
    refine X.u (LU.call (rplace_calls W E id (by omega)) Try.func51 rfl rfl (Opds.cons Is.rfl' (Opds.cons Is.rfl' Opds.nil))) rfl ?_
    refine X.u (LU.geq Is.rfl' Is.rfl') rfl ?_
    refine LL.nil (after_code ?_)
    refine X.cond rfl (fun h3 => ?_) (fun h3 => ?_)
    · try have h3 := of_decide_eq_true h3
      refine LW.seq ?_
      refine LW.region ?_
      refine X.u (LU.loadO 1 rfl ⟨Try.sizeOf68, Try.isAgg68⟩ Is.rfl' (Part.whole (by (simp; done)))) rfl ?_
      refine X.act (X.store 0 rfl Try.sizeOf68 Is.rfl' Is.rfl' (by exact Cells.agg) (by (simp; done)) (by exact Nat.le_of_ble_eq_true rfl) ?_)
      refine X.u (LU.assignR Is.rfl') rfl ?_
      refine LL.nil (after_code ?_)
      refine LW.ret (ret_code (after_end ?_))
      refine X.ret (H' := []) (by exact Res.cell2 0 rfl rfl ⟨Try.sizeOf68, Try.isAgg68⟩ (Part.whole (by rfl)) (by exact IsA rfl) (by exact IsR rfl)) (by repeat (first | exact HSub.refl _ | refine HSub.drop ?_)) ?_
      have hz : idxP W id = 110 := by rw [hE, if_neg h1, if_pos h3]
      exact ⟨by rw [hz, hW1 (by omega)]; rfl, rfl⟩
    · try have h3 := of_decide_eq_false h3
      refine LW.skip (after_code ?_)
      refine LW.seq ?_
      refine LW.seq ?_
      refine LW.region ?_
      refine X.u (LU.fieldO Try.underlying68 rfl Try.sizeOf24 (by decide) Is.rfl') rfl ?_
      refine X.u (LU.loadO 1 rfl ⟨Try.sizeOf24, Try.isAgg24⟩ Is.rfl' (Part.one rfl)) rfl ?_
      refine X.u (LU.lenN Try.underlying24 Is.rfl' (by (simp only [Option.getD_some, Option.getD_none, byteEls_length, intEls_length, List.length_append, List.length_cons, List.length_nil, List.length_map, List.length_drop, List.length_take, Int.toNat_natCast]; rfl))) rfl ?_
      refine X.u (LU.geq Is.rfl' Is.rfl') rfl ?_
      refine LL.nil (after_code ?_)
      refine X.cond rfl (fun h5 => ?_) (fun h5 => ?_)
      · try have h5 := of_decide_eq_true h5
        refine LW.seq ?_
        refine LW.region ?_
        refine X.u (LU.loadO 1 rfl ⟨Try.sizeOf68, Try.isAgg68⟩ Is.rfl' (Part.whole (by (simp; done)))) rfl ?_
        refine X.act (X.store 0 rfl Try.sizeOf68 Is.rfl' Is.rfl' (by exact Cells.agg) (by (simp; done)) (by exact Nat.le_of_ble_eq_true rfl) ?_)
        refine X.u (LU.assignR Is.rfl') rfl ?_
        refine LL.nil (after_code ?_)
        refine LW.ret (ret_code (after_end ?_))
        refine X.ret (H' := []) (by exact Res.cell2 0 rfl rfl ⟨Try.sizeOf68, Try.isAgg68⟩ (Part.whole (by rfl)) (by exact IsA rfl) (by exact IsR rfl)) (by repeat (first | exact HSub.refl _ | refine HSub.drop ?_)) ?_
        have hz : idxP W id = 3 := by rw [hE, if_neg h1, if_neg h3, if_pos (by omega)]
        exact ⟨by rw [hz, hW1 (by omega)]; rfl, rfl⟩
      · try have h5 := of_decide_eq_false h5
        refine LW.skip (after_code ?_)
        refine LW.seq ?_
        refine LW.region ?_
        refine X.u (LU.lits Try.underlying24 Try.sizeOf3 Try.zeroValue3 (ones rfl) rfl (by decide) (by decide) Elems.nil (by intro e he; cases he) rfl) rfl ?_
        refine X.u (LU.fieldO Try.underlying68 rfl Try.sizeOf24 (by decide) Is.rfl') rfl ?_
        refine X.u (LU.loadO 1 rfl ⟨Try.sizeOf24, Try.isAgg24⟩ Is.rfl' (Part.one rfl)) rfl ?_
        refine X.act (X.appendF rfl Try.underlying24 (El.of (P := Try.prog) (z := (.int .i64 0)) (size := 1) (bytes := 8) rfl rfl rfl) Is.rfl' Is.rfl' (SrcL.slice Try.underlying24 (by decide) (by exact intEls_size _)) (by simp only [Option.getD_some, Option.getD_none, byteEls_length, intEls_length, List.length_append, List.length_cons, List.length_nil, List.length_map, List.length_drop, List.length_take, Int.toNat_natCast]; omega) (by simp only [Option.getD_some, Option.getD_none, byteEls_length, intEls_length, List.length_append, List.length_cons, List.length_nil, List.length_map, List.length_drop, List.length_take, Int.toNat_natCast]; omega) (fun b22 o22 c22 => ?_))
        refine X.weak (t := 22) (v := Ints W (.tok b22 o22 c22)) (Is.of (rfl)) ?_
        refine X.u (LU.moveR Is.rfl') rfl ?_
        refine X.u (LU.lits Try.underlying24 Try.sizeOf3 Try.zeroValue3 (ones rfl) rfl (by decide) (by decide) (Elems.cons Is.rfl' (by exact Cells.raw rfl) Elems.nil) (by (simp; done)) rfl) rfl ?_
        refine X.act (X.append 0 rfl rfl Try.underlying24 (El.of (P := Try.prog) (z := (.int .i64 0)) (size := 1) (bytes := 8) rfl rfl rfl) Is.rfl' Is.rfl' (SrcL.slice Try.underlying24 (by decide) (by (intro e he; simp [chunks] at he; simp [he]; done))) (by simp only [Option.getD_some, Option.getD_none, byteEls_length, intEls_length, List.length_append, List.length_cons, List.length_nil, List.length_map, List.length_drop, List.length_take, Int.toNat_natCast]; omega) (by simp only [Option.getD_some, Option.getD_none, byteEls_length, intEls_length, List.length_append, List.length_cons, List.length_nil, List.length_map, List.length_drop, List.length_take, Int.toNat_natCast]; omega) (fun b25 o25 c25 => X.weak (t := 25) (Is.of (y := Ints (W ++ [id]) (.tok b25 o25 c25)) (congrArg (fun z => LV.sl 1 z (.tok b25 o25 c25)) (intEls_append W [id]).symm)) ?_))
        refine X.u (LU.fieldO Try.underlying68 rfl Try.sizeOf24 (by decide) Is.rfl') rfl ?_
        refine X.act (X.store 2 rfl Try.sizeOf24 Is.rfl' Is.rfl' (by exact Cells.sl) (by (simp; done)) (by (simp; done)) ?_)
        refine LL.nil (after_code ?_)
        refine LW.seq ?_
        refine X.wghost (HSub.trans (B := .cells b2 68 [Ints (W ++ [id]) (.tok b25 o25 c25), .sl 3 (eds E) .unk] :: .cells b4 68 rqz :: Rf) (by repeat (first | exact HSub.refl _ | refine HSub.pick 0 rfl ?_ | refine HSub.pick 1 rfl ?_ | refine HSub.drop ?_)) (HSub.cell 0 rfl Is.unk)) ?_
        refine LW.region ?_
        refine X.u (LU.loadO 0 rfl ⟨Try.sizeOf68, Try.isAgg68⟩ Is.rfl' (Part.whole (by (simp; done)))) rfl ?_
        refine X.act (X.store 1 rfl Try.sizeOf68 Is.rfl' Is.rfl' (by exact Cells.agg) (by (simp; done)) (by exact Nat.le_of_ble_eq_true rfl) ?_)
        refine X.u (LU.assignR Is.rfl') rfl ?_
        refine LL.nil (after_code ?_)
        refine LW.ret (after_end ?_)
        refine X.ret (H' := []) (by exact Res.cell2 0 rfl rfl ⟨Try.sizeOf68, Try.isAgg68⟩ (Part.whole (by rfl)) (by exact IsA rfl) (by exact IsR rfl)) (by repeat (first | exact HSub.refl _ | refine HSub.drop ?_)) ?_
        have hz : idxP W id = 0 := by rw [hE, if_neg h1, if_neg h3, if_neg (by omega)]
        exact ⟨by rw [hz, hW0 hz]; rfl, rfl⟩
set_option maxHeartbeats 1000000 in
set_option maxRecDepth 100000 in
theorem rend_calls (W : List Int) (E : List Ed) (id how why : Int) (i : Nat) (hl : W.length ≤ 1000) (he : E.length ≤ 3000000000000) (hx : W[i]? = some id) (hi : idx W id = i) : LCalls Try.prog 66 [.agg (rq W E), i64 id, i64 how, i64 why] [] (fun r H' => r = .agg (rq (W.eraseIdx i) (E ++ [(id, how, why)])) ∧ H' = []) := by
  have hil := (List.getElem?_eq_some_iff.1 hx).1
  have hp := rplace_calls W E id (by omega)
  rw [hi] at hp
  have hsz := eds_size E
  refine LCalls.of Try.func66 rfl Try.ntmps66 Try.results66 rfl (fun Rf => ?_)
  refine LW.seq ?_
  refine LW.region ?_
  refine X.act (X.box rfl Is.rfl' (by exact Cells.agg) (fun b4 => ?_))
  refine X.act (X.alloc rfl Try.zeroValue68 (by exact Cells.rawagg (by decide)) (fun b8 => ?_))
  refine LL.nil (after_code ?_)
  refine LW.seq ?_
  refine LW.region ?_
  refine X.u (LU.loadO 1 rfl ⟨Try.sizeOf68, Try.isAgg68⟩ Is.rfl' (Part.whole (by (simp; done)))) rfl ?_
  refine X.u (LU.moveR Is.rfl') rfl ?_
  refine X.u (LU.call (hp) Try.func51 rfl rfl (Opds.cons Is.rfl' (Opds.cons Is.rfl' Opds.nil))) rfl ?_
  refine X.u (LU.assignR Is.rfl') rfl ?_
  refine LL.nil (after_code ?_)
  refine LW.seq ?_
  refine LW.invM (m := 13) (γ := Nat × Nat × Nat × Nat × Nat × Nat) [(0, 13), (1, 14), (2, 15), (3, 16), (4, 17), (5, 18), (6, 19), (7, 20), (8, 21), (9, 22), (10, 23), (11, 24), (12, 25)] (fun g_ d => match g_ with | ⟨p2, q2, r2, p5, q5, r5⟩ => match d with | 13 => .sl 1 [] .full | 14 => .raw (.pointer (some ⟨b4, 0, none⟩)) | 15 => Ints W .unk | 16 => i64 (i : Nat) | 17 => Ints (W.take i) .unk | 18 => Ints (W.take i) (.tok p2 q2 r2) | 19 => .raw (.pointer (some ⟨b4, 0, none⟩)) | 20 => Ints W .unk | 21 => i64 (i : Nat) | 22 => i64 ((i + 1 : Nat) : Int) | 23 => Ints (W.drop (i + 1)) .unk | 24 => Ints (W.eraseIdx i) (.tok p5 q5 r5) | 25 => .raw (.pointer (some ⟨b4, 0, none⟩)) | _ => .any) (fun g_ f => match g_ with | ⟨p2, q2, r2, p5, q5, r5⟩ => cond (f 11) (.tail p5 q5 r5) (.tail p2 q2 r2) :: .cells b8 68 rqz :: .cells b4 68 (rq W E) :: Rf) (0, 0, 0, 0, 0, 0) rfl (by kernel_rfl) rfl rfl (HSub.tail0 0 0 0 (Nat.le_refl _) _) ?_ ?_
  · intro i hi f g_ hfi hdir hdown
    obtain ⟨p2, q2, r2, p5, q5, r5⟩ := g_
    have hc : i = 0 ∨ i = 1 ∨ i = 2 ∨ i = 3 ∨ i = 4 ∨ i = 5 ∨ i = 6 ∨ i = 7 ∨ i = 8 ∨ i = 9 ∨ i = 10 ∨ i = 11 ∨ i = 12 := by omega
    rcases hc with rfl | rfl | rfl | rfl | rfl | rfl | rfl | rfl | rfl | rfl | rfl | rfl | rfl
    · refine ⟨_, rfl, ?_⟩
      refine A.u (LU.lits Try.underlying24 Try.sizeOf3 Try.zeroValue3 (ones rfl) rfl (by decide) (by decide) Elems.nil (by intro e he; cases he) rfl) rfl ?_
      refine ⟨⟨p2, q2, r2, p5, q5, r5⟩, Weaker.mk' ?_ (HSub.refl _)⟩
      refine env_back0 (envS_hit (sl := [(0, 13), (1, 14), (2, 15), (3, 16), (4, 17), (5, 18), (6, 19), (7, 20), (8, 21), (9, 22), (10, 23), (11, 24), (12, 25)]) (j := 0) (d := 13) rfl (fun _ _ h => h))  (envS_next ?_)
      · intro p hp hne; simp only [List.mem_cons, List.not_mem_nil, or_false] at hp; rcases hp with rfl | rfl | rfl | rfl | rfl | rfl | rfl | rfl | rfl | rfl | rfl | rfl | rfl <;> first | exact absurd rfl hne | exact ⟨rfl, rfl⟩
    · refine ⟨_, rfl, ?_⟩
      refine A.u (LU.fieldO Try.underlying68 rfl Try.sizeOf24 (by decide) Is.rfl') rfl ?_
      refine ⟨⟨p2, q2, r2, p5, q5, r5⟩, Weaker.mk' ?_ (HSub.refl _)⟩
      refine env_back0 (envS_hit (sl := [(0, 13), (1, 14), (2, 15), (3, 16), (4, 17), (5, 18), (6, 19), (7, 20), (8, 21), (9, 22), (10, 23), (11, 24), (12, 25)]) (j := 1) (d := 14) rfl (fun _ _ h => h))  (envS_next ?_)
      · intro p hp hne; simp only [List.mem_cons, List.not_mem_nil, or_false] at hp; rcases hp with rfl | rfl | rfl | rfl | rfl | rfl | rfl | rfl | rfl | rfl | rfl | rfl | rfl <;> first | exact absurd rfl hne | exact ⟨rfl, rfl⟩
    · have d1 := hdir 1 (List.mem_of_elem_eq_true (by kernel_rfl))
      refine ⟨_, rfl, ?_⟩
      refine LP.weak (t := 14) (v := .raw (.pointer (some ⟨b4, 0, none⟩))) (envS_is (j := 1) rfl d1) ?_
      refine A.u (LU.loadO 2 rfl ⟨Try.sizeOf24, Try.isAgg24⟩ Is.rfl' (Part.one rfl)) rfl ?_
      refine ⟨⟨p2, q2, r2, p5, q5, r5⟩, Weaker.mk' ?_ (HSub.refl _)⟩
      refine env_back1 (envS_hit (sl := [(0, 13), (1, 14), (2, 15), (3, 16), (4, 17), (5, 18), (6, 19), (7, 20), (8, 21), (9, 22), (10, 23), (11, 24), (12, 25)]) (j := 2) (d := 15) rfl (fun _ _ h => h)) (envS_hit (sl := [(0, 13), (1, 14), (2, 15), (3, 16), (4, 17), (5, 18), (6, 19), (7, 20), (8, 21), (9, 22), (10, 23), (11, 24), (12, 25)]) (j := 1) (d := 14) rfl (fun _ _ h => h)) (envS_next ?_)
      · intro p hp hne; simp only [List.mem_cons, List.not_mem_nil, or_false] at hp; rcases hp with rfl | rfl | rfl | rfl | rfl | rfl | rfl | rfl | rfl | rfl | rfl | rfl | rfl <;> first | exact absurd rfl hne | exact ⟨rfl, rfl⟩
    · refine ⟨_, rfl, ?_⟩
      refine A.u (LU.moveR Is.rfl') rfl ?_
      refine ⟨⟨p2, q2, r2, p5, q5, r5⟩, Weaker.mk' ?_ (HSub.refl _)⟩
      refine env_back0 (envS_hit (sl := [(0, 13), (1, 14), (2, 15), (3, 16), (4, 17), (5, 18), (6, 19), (7, 20), (8, 21), (9, 22), (10, 23), (11, 24), (12, 25)]) (j := 3) (d := 16) rfl (fun _ _ h => h))  (envS_next ?_)
      · intro p hp hne; simp only [List.mem_cons, List.not_mem_nil, or_false] at hp; rcases hp with rfl | rfl | rfl | rfl | rfl | rfl | rfl | rfl | rfl | rfl | rfl | rfl | rfl <;> first | exact absurd rfl hne | exact ⟨rfl, rfl⟩
    · have d2 := hdir 2 (List.mem_of_elem_eq_true (by kernel_rfl))
      have d3 := hdir 3 (List.mem_of_elem_eq_true (by kernel_rfl))
      refine ⟨_, rfl, ?_⟩
      refine LP.weak (t := 15) (v := Ints W .unk) (envS_is (j := 2) rfl d2) ?_
      refine LP.weak (t := 16) (v := i64 (i : Nat)) (envS_is (j := 3) rfl d3) ?_
      refine A.u (LU.weak (LU.slice (lo := none) (hi := some _) (l := none) (h := some ((i : Nat) : Int)) Try.sizeOf3 (by decide) Try.underlying24 Is.rfl' trivial ⟨_, Is.rfl'⟩ (by simp) (by simp) (by simp only [Option.getD_some, Option.getD_none, intEls_length]; omega) .unk (.inl rfl)) (Is.of (y := Ints (W.take i) .unk) (congrArg (fun z => LV.sl 1 z .unk) (by simp [intEls])))) rfl ?_
      refine ⟨⟨p2, q2, r2, p5, q5, r5⟩, Weaker.mk' ?_ (HSub.refl _)⟩
      refine env_back2 (envS_hit (sl := [(0, 13), (1, 14), (2, 15), (3, 16), (4, 17), (5, 18), (6, 19), (7, 20), (8, 21), (9, 22), (10, 23), (11, 24), (12, 25)]) (j := 4) (d := 17) rfl (fun _ _ h => h)) (envS_hit (sl := [(0, 13), (1, 14), (2, 15), (3, 16), (4, 17), (5, 18), (6, 19), (7, 20), (8, 21), (9, 22), (10, 23), (11, 24), (12, 25)]) (j := 3) (d := 16) rfl (fun _ _ h => h)) (envS_hit (sl := [(0, 13), (1, 14), (2, 15), (3, 16), (4, 17), (5, 18), (6, 19), (7, 20), (8, 21), (9, 22), (10, 23), (11, 24), (12, 25)]) (j := 2) (d := 15) rfl (fun _ _ h => h)) (envS_next ?_)
      · intro p hp hne; simp only [List.mem_cons, List.not_mem_nil, or_false] at hp; rcases hp with rfl | rfl | rfl | rfl | rfl | rfl | rfl | rfl | rfl | rfl | rfl | rfl | rfl <;> first | exact absurd rfl hne | exact ⟨rfl, rfl⟩
    · have d0 := hdir 0 (List.mem_of_elem_eq_true (by kernel_rfl))
      have d4 := hdir 4 (List.mem_of_elem_eq_true (by kernel_rfl))
      refine ⟨_, rfl, ?_⟩
      have h8 : f 11 = false := Bool.eq_false_iff.2 (fun h => by rw [hdown 11 (by omega) h 5 (List.mem_of_elem_eq_true (by kernel_rfl))] at hfi; cases hfi)
      refine LP.weak (t := 13) (v := .sl 1 [] .full) (envS_is (j := 0) rfl d0) ?_
      refine LP.weak (t := 17) (v := Ints (W.take i) .unk) (envS_is (j := 4) rfl d4) ?_
      refine A.act (X.appendF rfl Try.underlying24 (El.of (P := Try.prog) (z := (.int .i64 0)) (size := 1) (bytes := 8) rfl rfl rfl) Is.rfl' Is.rfl' (SrcL.slice Try.underlying24 (by decide) (by exact intEls_size _)) (by simp only [Option.getD_some, Option.getD_none, byteEls_length, intEls_length, List.length_append, List.length_cons, List.length_nil, List.length_map, List.length_drop, List.length_take, Int.toNat_natCast]; omega) (by simp only [Option.getD_some, Option.getD_none, byteEls_length, intEls_length, List.length_append, List.length_cons, List.length_nil, List.length_map, List.length_drop, List.length_take, Int.toNat_natCast]; omega) (fun b18 o18 c18 => ?_))
      refine ⟨(b18, o18, c18, p5, q5, r5), Weaker.mk' ?_ (by show HSub _ (cond (f 11) _ _ :: _); rw [h8]; exact HSub.cons (HSub.drop (HSub.refl _)))⟩
      refine env_back2 (envS_hit (sl := [(0, 13), (1, 14), (2, 15), (3, 16), (4, 17), (5, 18), (6, 19), (7, 20), (8, 21), (9, 22), (10, 23), (11, 24), (12, 25)]) (j := 5) (d := 18) rfl (fun _ _ h => h)) (envS_hit (sl := [(0, 13), (1, 14), (2, 15), (3, 16), (4, 17), (5, 18), (6, 19), (7, 20), (8, 21), (9, 22), (10, 23), (11, 24), (12, 25)]) (j := 4) (d := 17) rfl (fun _ _ h => h)) (envS_hit (sl := [(0, 13), (1, 14), (2, 15), (3, 16), (4, 17), (5, 18), (6, 19), (7, 20), (8, 21), (9, 22), (10, 23), (11, 24), (12, 25)]) (j := 0) (d := 13) rfl (fun _ _ h => h)) (envS_next ?_)
      · intro p hp hne; simp only [List.mem_cons, List.not_mem_nil, or_false] at hp; rcases hp with rfl | rfl | rfl | rfl | rfl | rfl | rfl | rfl | rfl | rfl | rfl | rfl | rfl <;> first | exact absurd rfl hne | exact ⟨rfl, rfl⟩
    · refine ⟨_, rfl, ?_⟩
      refine A.u (LU.fieldO Try.underlying68 rfl Try.sizeOf24 (by decide) Is.rfl') rfl ?_
      refine ⟨⟨p2, q2, r2, p5, q5, r5⟩, Weaker.mk' ?_ (HSub.refl _)⟩
      refine env_back0 (envS_hit (sl := [(0, 13), (1, 14), (2, 15), (3, 16), (4, 17), (5, 18), (6, 19), (7, 20), (8, 21), (9, 22), (10, 23), (11, 24), (12, 25)]) (j := 6) (d := 19) rfl (fun _ _ h => h))  (envS_next ?_)
      · intro p hp hne; simp only [List.mem_cons, List.not_mem_nil, or_false] at hp; rcases hp with rfl | rfl | rfl | rfl | rfl | rfl | rfl | rfl | rfl | rfl | rfl | rfl | rfl <;> first | exact absurd rfl hne | exact ⟨rfl, rfl⟩
    · have d6 := hdir 6 (List.mem_of_elem_eq_true (by kernel_rfl))
      refine ⟨_, rfl, ?_⟩
      refine LP.weak (t := 19) (v := .raw (.pointer (some ⟨b4, 0, none⟩))) (envS_is (j := 6) rfl d6) ?_
      refine A.u (LU.loadO 2 rfl ⟨Try.sizeOf24, Try.isAgg24⟩ Is.rfl' (Part.one rfl)) rfl ?_
      refine ⟨⟨p2, q2, r2, p5, q5, r5⟩, Weaker.mk' ?_ (HSub.refl _)⟩
      refine env_back1 (envS_hit (sl := [(0, 13), (1, 14), (2, 15), (3, 16), (4, 17), (5, 18), (6, 19), (7, 20), (8, 21), (9, 22), (10, 23), (11, 24), (12, 25)]) (j := 7) (d := 20) rfl (fun _ _ h => h)) (envS_hit (sl := [(0, 13), (1, 14), (2, 15), (3, 16), (4, 17), (5, 18), (6, 19), (7, 20), (8, 21), (9, 22), (10, 23), (11, 24), (12, 25)]) (j := 6) (d := 19) rfl (fun _ _ h => h)) (envS_next ?_)
      · intro p hp hne; simp only [List.mem_cons, List.not_mem_nil, or_false] at hp; rcases hp with rfl | rfl | rfl | rfl | rfl | rfl | rfl | rfl | rfl | rfl | rfl | rfl | rfl <;> first | exact absurd rfl hne | exact ⟨rfl, rfl⟩
    · refine ⟨_, rfl, ?_⟩
      refine A.u (LU.moveR Is.rfl') rfl ?_
      refine ⟨⟨p2, q2, r2, p5, q5, r5⟩, Weaker.mk' ?_ (HSub.refl _)⟩
      refine env_back0 (envS_hit (sl := [(0, 13), (1, 14), (2, 15), (3, 16), (4, 17), (5, 18), (6, 19), (7, 20), (8, 21), (9, 22), (10, 23), (11, 24), (12, 25)]) (j := 8) (d := 21) rfl (fun _ _ h => h))  (envS_next ?_)
      · intro p hp hne; simp only [List.mem_cons, List.not_mem_nil, or_false] at hp; rcases hp with rfl | rfl | rfl | rfl | rfl | rfl | rfl | rfl | rfl | rfl | rfl | rfl | rfl <;> first | exact absurd rfl hne | exact ⟨rfl, rfl⟩
    · have d8 := hdir 8 (List.mem_of_elem_eq_true (by kernel_rfl))
      refine ⟨_, rfl, ?_⟩
      refine LP.weak (t := 21) (v := i64 (i : Nat)) (envS_is (j := 8) rfl d8) ?_
      refine A.u (LU.weak (LU.addN Is.rfl' Is.rfl' (wrap_i64 (by omega) (by omega))) (Is.of (y := i64 ((i + 1 : Nat) : Int)) (rfl))) rfl ?_
      refine ⟨⟨p2, q2, r2, p5, q5, r5⟩, Weaker.mk' ?_ (HSub.refl _)⟩
      refine env_back1 (envS_hit (sl := [(0, 13), (1, 14), (2, 15), (3, 16), (4, 17), (5, 18), (6, 19), (7, 20), (8, 21), (9, 22), (10, 23), (11, 24), (12, 25)]) (j := 9) (d := 22) rfl (fun _ _ h => h)) (envS_hit (sl := [(0, 13), (1, 14), (2, 15), (3, 16), (4, 17), (5, 18), (6, 19), (7, 20), (8, 21), (9, 22), (10, 23), (11, 24), (12, 25)]) (j := 8) (d := 21) rfl (fun _ _ h => h)) (envS_next ?_)
      · intro p hp hne; simp only [List.mem_cons, List.not_mem_nil, or_false] at hp; rcases hp with rfl | rfl | rfl | rfl | rfl | rfl | rfl | rfl | rfl | rfl | rfl | rfl | rfl <;> first | exact absurd rfl hne | exact ⟨rfl, rfl⟩
    · have d7 := hdir 7 (List.mem_of_elem_eq_true (by kernel_rfl))
      have d9 := hdir 9 (List.mem_of_elem_eq_true (by kernel_rfl))
      refine ⟨_, rfl, ?_⟩
      refine LP.weak (t := 20) (v := Ints W .unk) (envS_is (j := 7) rfl d7) ?_
      refine LP.weak (t := 22) (v := i64 ((i + 1 : Nat) : Int)) (envS_is (j := 9) rfl d9) ?_
      refine A.u (LU.weak (LU.slice (lo := some _) (hi := none) (l := some ((i + 1 : Nat) : Int)) (h := none) Try.sizeOf3 (by decide) Try.underlying24 Is.rfl' ⟨_, Is.rfl'⟩ trivial (by simp; omega) (by simp only [Option.getD_some, Option.getD_none, intEls_length]; omega) (by simp) .unk (.inl rfl)) (Is.of (y := Ints (W.drop (i + 1)) .unk) (congrArg (fun z => LV.sl 1 z .unk) (sl_drop' W (i + 1))))) rfl ?_
      refine ⟨⟨p2, q2, r2, p5, q5, r5⟩, Weaker.mk' ?_ (HSub.refl _)⟩
      refine env_back2 (envS_hit (sl := [(0, 13), (1, 14), (2, 15), (3, 16), (4, 17), (5, 18), (6, 19), (7, 20), (8, 21), (9, 22), (10, 23), (11, 24), (12, 25)]) (j := 10) (d := 23) rfl (fun _ _ h => h)) (envS_hit (sl := [(0, 13), (1, 14), (2, 15), (3, 16), (4, 17), (5, 18), (6, 19), (7, 20), (8, 21), (9, 22), (10, 23), (11, 24), (12, 25)]) (j := 9) (d := 22) rfl (fun _ _ h => h)) (envS_hit (sl := [(0, 13), (1, 14), (2, 15), (3, 16), (4, 17), (5, 18), (6, 19), (7, 20), (8, 21), (9, 22), (10, 23), (11, 24), (12, 25)]) (j := 7) (d := 20) rfl (fun _ _ h => h)) (envS_next ?_)
      · intro p hp hne; simp only [List.mem_cons, List.not_mem_nil, or_false] at hp; rcases hp with rfl | rfl | rfl | rfl | rfl | rfl | rfl | rfl | rfl | rfl | rfl | rfl | rfl <;> first | exact absurd rfl hne | exact ⟨rfl, rfl⟩
    · have d5 := hdir 5 (List.mem_of_elem_eq_true (by kernel_rfl))
      have d10 := hdir 10 (List.mem_of_elem_eq_true (by kernel_rfl))
      refine ⟨_, rfl, ?_⟩
      refine LP.ghost (H' := .tail p2 q2 r2 :: .cells b8 68 rqz :: .cells b4 68 (rq W E) :: Rf) (by rw [hfi]; exact HSub.refl _) ?_
      refine LP.weak (t := 18) (v := Ints (W.take i) (.tok p2 q2 r2)) (envS_is (j := 5) rfl d5) ?_
      refine LP.weak (t := 23) (v := Ints (W.drop (i + 1)) .unk) (envS_is (j := 10) rfl d10) ?_
      refine A.act (X.append 0 rfl rfl Try.underlying24 (El.of (P := Try.prog) (z := (.int .i64 0)) (size := 1) (bytes := 8) rfl rfl rfl) Is.rfl' Is.rfl' (SrcL.slice Try.underlying24 (by decide) (by exact intEls_size _)) (by simp only [Option.getD_some, Option.getD_none, byteEls_length, intEls_length, List.length_append, List.length_cons, List.length_nil, List.length_map, List.length_drop, List.length_take, Int.toNat_natCast]; omega) (by simp only [Option.getD_some, Option.getD_none, byteEls_length, intEls_length, List.length_append, List.length_cons, List.length_nil, List.length_map, List.length_drop, List.length_take, Int.toNat_natCast]; omega) (fun b24 o24 c24 => ?_))
      refine ⟨(p2, q2, r2, b24, o24, c24), Weaker.mk' ?_ (HSub.refl _)⟩
      refine env_back2 (envS_hit (sl := [(0, 13), (1, 14), (2, 15), (3, 16), (4, 17), (5, 18), (6, 19), (7, 20), (8, 21), (9, 22), (10, 23), (11, 24), (12, 25)]) (j := 11) (d := 24) rfl (Is.of (congrArg (fun z => LV.sl 1 z (.tok b24 o24 c24)) ((intEls_append _ _).symm.trans (congrArg intEls (List.eraseIdx_eq_take_drop_succ ..).symm))))) (envS_hit (sl := [(0, 13), (1, 14), (2, 15), (3, 16), (4, 17), (5, 18), (6, 19), (7, 20), (8, 21), (9, 22), (10, 23), (11, 24), (12, 25)]) (j := 10) (d := 23) rfl (fun _ _ h => h)) (envS_hit (sl := [(0, 13), (1, 14), (2, 15), (3, 16), (4, 17), (5, 18), (6, 19), (7, 20), (8, 21), (9, 22), (10, 23), (11, 24), (12, 25)]) (j := 5) (d := 18) rfl (fun _ _ h => h)) (envS_next ?_)
      · intro p hp hne; simp only [List.mem_cons, List.not_mem_nil, or_false] at hp; rcases hp with rfl | rfl | rfl | rfl | rfl | rfl | rfl | rfl | rfl | rfl | rfl | rfl | rfl <;> first | exact absurd rfl hne | exact ⟨rfl, rfl⟩
    · have d0 := hdir 0 (List.mem_of_elem_eq_true (by kernel_rfl))
      have d1 := hdir 1 (List.mem_of_elem_eq_true (by kernel_rfl))
      have d2 := hdir 2 (List.mem_of_elem_eq_true (by kernel_rfl))
      have d3 := hdir 3 (List.mem_of_elem_eq_true (by kernel_rfl))
      have d4 := hdir 4 (List.mem_of_elem_eq_true (by kernel_rfl))
      have d5 := hdir 5 (List.mem_of_elem_eq_true (by kernel_rfl))
      have d6 := hdir 6 (List.mem_of_elem_eq_true (by kernel_rfl))
      have d7 := hdir 7 (List.mem_of_elem_eq_true (by kernel_rfl))
      have d8 := hdir 8 (List.mem_of_elem_eq_true (by kernel_rfl))
      have d9 := hdir 9 (List.mem_of_elem_eq_true (by kernel_rfl))
      have d10 := hdir 10 (List.mem_of_elem_eq_true (by kernel_rfl))
      have d11 := hdir 11 (List.mem_of_elem_eq_true (by kernel_rfl))
      refine ⟨_, rfl, ?_⟩
      refine A.u (LU.fieldO Try.underlying68 rfl Try.sizeOf24 (by decide) Is.rfl') rfl ?_
      refine ⟨⟨p2, q2, r2, p5, q5, r5⟩, Weaker.mk' ?_ (HSub.refl _)⟩
      refine env_back0 (envS_hit (sl := [(0, 13), (1, 14), (2, 15), (3, 16), (4, 17), (5, 18), (6, 19), (7, 20), (8, 21), (9, 22), (10, 23), (11, 24), (12, 25)]) (j := 12) (d := 25) rfl (fun _ _ h => h))  (envS_next ?_)
      · intro p hp hne; simp only [List.mem_cons, List.not_mem_nil, or_false] at hp; rcases hp with rfl | rfl | rfl | rfl | rfl | rfl | rfl | rfl | rfl | rfl | rfl | rfl | rfl <;> first | exact absurd rfl hne | exact ⟨rfl, rfl⟩
  · intro g_ f hf_
    obtain ⟨p2, q2, r2, p5, q5, r5⟩ := g_
    refine X.ghost (H' := .tail p5 q5 r5 :: .cells b8 68 rqz :: .cells b4 68 (rq W E) :: Rf) (by show HSub (cond (f 11) _ _ :: _) _; rw [hf_ 11 (by omega)]; exact HSub.refl _) ?_
    refine X.act (X.store 2 rfl Try.sizeOf24 Is.rfl' Is.rfl' (by exact Cells.sl) (by (simp; done)) (by (simp; done)) ?_)
    refine LL.nil (after_code ?_)
    refine LW.seq ?_
    refine LW.region ?_
    refine X.u (LU.lits Try.underlying54 Try.sizeOf58 Try.zeroValue58 (ones rfl) rfl (by decide) (by decide) Elems.nil (by intro e he; cases he) rfl) rfl ?_
    refine X.u (LU.fieldO Try.underlying68 rfl Try.sizeOf54 (by decide) Is.rfl') rfl ?_
    refine X.u (LU.loadO 0 rfl ⟨Try.sizeOf54, Try.isAgg54⟩ Is.rfl' (Part.one rfl)) rfl ?_
    refine X.act (X.appendF rfl Try.underlying54 (El.of (P := Try.prog) (z := (.agg #[(.int .i64 0), (.int .i64 0), (.int .i64 0)])) (size := 3) (bytes := 24) rfl rfl rfl) Is.rfl' Is.rfl' (SrcL.slice Try.underlying54 (by decide) hsz) (by simp only [Option.getD_some, Option.getD_none, byteEls_length, intEls_length, List.length_append, List.length_cons, List.length_nil, List.length_map, List.length_drop, List.length_take, Int.toNat_natCast]; omega) (by simp only [Option.getD_some, Option.getD_none, byteEls_length, intEls_length, List.length_append, List.length_cons, List.length_nil, List.length_map, List.length_drop, List.length_take, Int.toNat_natCast]; omega) (fun b29 o29 c29 => ?_))
    refine X.weak (t := 29) (v := .sl 3 (eds E) (.tok b29 o29 c29)) (Is.of (rfl)) ?_
    refine X.u (LU.moveR Is.rfl') rfl ?_
    refine X.u (LU.moveR Is.rfl') rfl ?_
    refine X.u (LU.moveR Is.rfl') rfl ?_
    refine X.u (LU.weak (LU.build (places := #[(0, 1), (1, 1), (2, 1)]) Try.underlying58 Try.zeroValue58 (ones rfl) (by intro w; simp [Try.sizeOf26, Try.sizeOf3]) (Parts.cons Is.rfl' (by exact Cells.raw rfl) (Parts.cons Is.rfl' (by exact Cells.raw rfl) (Parts.cons Is.rfl' (by exact Cells.raw rfl) Parts.nil))) rfl) (Is.of (y := .agg (edL (id, how, why))) (rfl))) rfl ?_
    refine X.u (LU.lits Try.underlying54 Try.sizeOf58 Try.zeroValue58 (ones rfl) rfl (by decide) (by decide) (Elems.cons Is.rfl' (by exact Cells.agg) Elems.nil) (by (simp; done)) rfl) rfl ?_
    refine X.act (X.append 0 rfl rfl Try.underlying54 (El.of (P := Try.prog) (z := (.agg #[(.int .i64 0), (.int .i64 0), (.int .i64 0)])) (size := 3) (bytes := 24) rfl rfl rfl) Is.rfl' Is.rfl' (SrcL.slice Try.underlying54 (by decide) (by simp)) (by simp only [Option.getD_some, Option.getD_none, byteEls_length, intEls_length, List.length_append, List.length_cons, List.length_nil, List.length_map, List.length_drop, List.length_take, Int.toNat_natCast]; omega) (by simp only [Option.getD_some, Option.getD_none, byteEls_length, intEls_length, List.length_append, List.length_cons, List.length_nil, List.length_map, List.length_drop, List.length_take, Int.toNat_natCast]; omega) (fun b35 o35 c35 => X.weak (t := 35) (Is.of (y := .sl 3 (eds (E ++ [(id, how, why)])) (.tok b35 o35 c35)) (eds_snoc E (id, how, why) (.tok b35 o35 c35))) ?_))
    refine X.u (LU.fieldO Try.underlying68 rfl Try.sizeOf54 (by decide) Is.rfl') rfl ?_
    refine X.act (X.store 1 rfl Try.sizeOf54 Is.rfl' Is.rfl' (by exact Cells.sl) (by (simp; done)) (by exact Nat.le_of_ble_eq_true rfl) ?_)
    refine LL.nil (after_code ?_)
    refine LW.seq ?_
    refine X.wghost (HSub.trans (B := .cells b4 68 [Ints (W.eraseIdx i) (.tok p5 q5 r5), .sl 3 (eds (E ++ [(id, how, why)])) (.tok b35 o35 c35)] :: .cells b8 68 rqz :: Rf) (by repeat (first | exact HSub.refl _ | refine HSub.pick 0 rfl ?_ | refine HSub.pick 2 rfl ?_ | refine HSub.drop ?_)) (HSub.trans (HSub.cell 0 rfl Is.unk) (HSub.cell 1 rfl Is.unk))) ?_
    refine LW.region ?_
    refine X.u (LU.loadO 0 rfl ⟨Try.sizeOf68, Try.isAgg68⟩ Is.rfl' (Part.whole (by (simp; done)))) rfl ?_
    refine X.act (X.store 1 rfl Try.sizeOf68 Is.rfl' Is.rfl' (by exact Cells.agg) (by (simp; done)) (by exact Nat.le_of_ble_eq_true rfl) ?_)
    refine LL.nil (after_code ?_)
    refine LW.ret (after_end ?_)
    refine X.ret (H' := []) (by exact Res.cell1 0 rfl rfl ⟨Try.sizeOf68, Try.isAgg68⟩ (Part.whole (by rfl)) (by exact IsA rfl)) (by repeat (first | exact HSub.refl _ | refine HSub.drop ?_)) ?_
    exact ⟨rfl, rfl⟩
theorem idx_zero {W : List Int} {x : Int} (h : W[0]? = some x) : idx W x = (0 : Nat) := idx_some (List.getElem?_eq_some_iff.1 h).1 (fun j hj => by omega) (by rw [List.getD_eq_getElem?_getD, h]; rfl)
set_option maxRecDepth 100000 in
theorem rdrop_calls (W : List Int) (E : List Ed) (id : Int) (hl : W.length ≤ 1000) (he : E.length ≤ 3000000000000) : LCalls Try.prog 45 [.agg (rq W E), i64 id] [] (fun r H' => r = .tup [.agg (rq (dropW W id) (dropE W E id)), i64 (dropP W id)] ∧ H' = []) := by
  refine LCalls.of Try.func45 rfl Try.ntmps45 Try.results45 rfl (fun Rf => ?_)
  refine LW.seq ?_
  refine LW.region ?_
  refine X.act (X.box rfl Is.rfl' (by exact Cells.agg) (fun b2 => ?_))
  refine X.act (X.alloc rfl Try.zeroValue68 (by exact Cells.rawagg (by decide)) (fun b4 => ?_))
  refine X.u (LU.assignR Is.rfl') rfl ?_
  refine LL.nil (after_code ?_)
  refine LW.seq ?_
  refine LW.seq ?_
  refine LW.region ?_
  refine X.u (LU.loadO 1 rfl ⟨Try.sizeOf68, Try.isAgg68⟩ Is.rfl' (Part.whole (by (simp; done)))) rfl ?_
  refine X.u (LU.moveR Is.rfl') rfl ?_
  refine X.u (LU.call (rplace_calls W E id (by omega)) Try.func51 rfl rfl (Opds.cons Is.rfl' (Opds.cons Is.rfl' Opds.nil))) rfl ?_
  refine X.u (LU.lss Is.rfl' Is.rfl') rfl ?_
  refine LL.nil (after_code ?_)
  refine X.cond rfl (fun h1 => ?_) (fun h1 => ?_)
  · have h1 := of_decide_eq_true h1
    have hP : dropP W id = 111 := by unfold dropP; rw [if_pos h1]
    have hW : dropW W id = W := by unfold dropW; rw [if_pos h1]
    have hE : dropE W E id = E := by unfold dropE; rw [if_pos h1]
    refine LW.seq ?_
    refine LW.region ?_
    refine X.u (LU.loadO 1 rfl ⟨Try.sizeOf68, Try.isAgg68⟩ Is.rfl' (Part.whole (by (simp; done)))) rfl ?_
    refine X.act (X.store 0 rfl Try.sizeOf68 Is.rfl' Is.rfl' (by exact Cells.agg) (by (simp; done)) (by exact Nat.le_of_ble_eq_true rfl) ?_)
    refine X.u (LU.assignR Is.rfl') rfl ?_
    refine LL.nil (after_code ?_)
    refine LW.ret (ret_code (after_end ?_))
    refine X.ret (H' := []) (by exact Res.cell2 0 rfl rfl ⟨Try.sizeOf68, Try.isAgg68⟩ (Part.whole (by rfl)) (by exact IsA rfl) (by exact IsR rfl)) (by repeat (first | exact HSub.refl _ | refine HSub.drop ?_)) ?_
    exact ⟨by rw [hP, hW, hE]; rfl, rfl⟩
  · have h1 : ¬ idx W id < 0 := by simpa using h1
    obtain ⟨i, hi, hx⟩ := idx_spec (l := W) (v := id) (by omega)
    have hP : dropP W id = 0 := by unfold dropP; rw [if_neg h1]
    have hW : dropW W id = W.eraseIdx i := by unfold dropW; rw [if_neg h1, hi, Int.toNat_natCast]
    have hE : dropE W E id = E ++ [(id, 2, 201)] := by unfold dropE; rw [if_neg h1]
    refine LW.skip (after_code ?_)
    refine LW.seq ?_
    refine LW.region ?_
    refine X.u (LU.loadO 1 rfl ⟨Try.sizeOf68, Try.isAgg68⟩ Is.rfl' (Part.whole (by (simp; done)))) rfl ?_
    refine X.u (LU.moveR Is.rfl') rfl ?_
    refine X.u (LU.call (rend_calls W E id 2 201 i hl he hx hi) Try.func66 rfl rfl (Opds.cons Is.rfl' (Opds.cons Is.rfl' (Opds.cons Is.rfl' (Opds.cons Is.rfl' Opds.nil))))) rfl ?_
    refine X.act (X.store 0 rfl Try.sizeOf68 Is.rfl' Is.rfl' (by exact Cells.agg) (by (simp; done)) (by exact Nat.le_of_ble_eq_true rfl) ?_)
    refine X.u (LU.assignR Is.rfl') rfl ?_
    refine LL.nil (after_code ?_)
    refine LW.ret (after_end ?_)
    refine X.ret (H' := []) (by exact Res.cell2 0 rfl rfl ⟨Try.sizeOf68, Try.isAgg68⟩ (Part.whole (by rfl)) (by exact IsA rfl) (by exact IsR rfl)) (by repeat (first | exact HSub.refl _ | refine HSub.drop ?_)) ?_
    exact ⟨by rw [hP, hW, hE]; rfl, rfl⟩
set_option maxRecDepth 100000 in
theorem rstep_nil (E : List Ed) (an : Int) : LCalls Try.prog 46 [.agg (rq [] E), i64 an] [] (fun r H' => r = .tup [.agg (rq [] E), .agg (edL (0, 0, 0)), i64 111] ∧ H' = []) := by
  refine LCalls.of Try.func46 rfl Try.ntmps46 Try.results46 rfl (fun Rf => ?_)
  refine LW.seq ?_
  refine LW.region ?_
  refine X.act (X.box rfl Is.rfl' (by exact Cells.agg) (fun b2 => ?_))
  refine X.act (X.alloc rfl Try.zeroValue68 (by exact Cells.rawagg (by decide)) (fun b4 => ?_))
  refine X.act (X.alloc rfl Try.zeroValue58 (by exact Cells.rawagg (by decide)) (fun b5 => ?_))
  refine X.u (LU.assignR Is.rfl') rfl ?_
  refine LL.nil (after_code ?_)
  refine LW.seq ?_
  refine LW.seq ?_
  refine LW.region ?_
  refine X.u (LU.fieldO Try.underlying68 rfl Try.sizeOf24 (by decide) Is.rfl') rfl ?_
  refine X.u (LU.loadO 2 rfl ⟨Try.sizeOf24, Try.isAgg24⟩ Is.rfl' (Part.one rfl)) rfl ?_
  refine X.u (LU.lenN Try.underlying24 Is.rfl' (by (simp only [Option.getD_some, Option.getD_none, byteEls_length, intEls_length, List.length_append, List.length_cons, List.length_nil, List.length_map, List.length_drop, List.length_take, Int.toNat_natCast]; rfl))) rfl ?_
  refine X.u (LU.eql Is.rfl' Is.rfl') rfl ?_
  refine LL.nil (after_code ?_)
  refine X.condT rfl ?_ ?_
  · rfl
  refine LW.seq ?_
  refine LW.region ?_
  refine X.u (LU.loadO 2 rfl ⟨Try.sizeOf68, Try.isAgg68⟩ Is.rfl' (Part.whole (by (simp; done)))) rfl ?_
  refine X.u (LU.build (places := #[(0, 1), (1, 1), (2, 1)]) Try.underlying58 Try.zeroValue58 (ones rfl) (by intro w; simp [Try.sizeOf26, Try.sizeOf3]) Parts.nil rfl) rfl ?_
  refine X.act (X.store 1 rfl Try.sizeOf68 Is.rfl' Is.rfl' (by exact Cells.agg) (by (simp; done)) (by exact Nat.le_of_ble_eq_true rfl) ?_)
  refine X.act (X.store 1 rfl Try.sizeOf58 Is.rfl' Is.rfl' (by exact Cells.agg) (by rfl) (by exact Nat.le_of_ble_eq_true rfl) ?_)
  refine X.u (LU.assignR Is.rfl') rfl ?_
  refine LL.nil (after_code ?_)
  refine LW.ret (ret_code (after_end ?_))
  refine X.ret (H' := []) (by exact Res.cc3 1 0 rfl rfl rfl rfl ⟨Try.sizeOf68, Try.isAgg68⟩ ⟨Try.sizeOf58, Try.isAgg58⟩ (Part.whole rfl) (Part.whole rfl) (IsA rfl) (IsA rfl) (IsR rfl)) (by repeat (first | exact HSub.refl _ | refine HSub.drop ?_)) ?_
  exact ⟨rfl, rfl⟩
set_option maxRecDepth 100000 in
theorem rstep_cons (W : List Int) (E : List Ed) (x an : Int) (hx : W[0]? = some x) (hl : W.length ≤ 1000) (he : E.length ≤ 3000000000000) : LCalls Try.prog 46 [.agg (rq W E), i64 an] [] (fun r H' => r = .tup [.agg (rq (W.eraseIdx 0) (E ++ [(x, outE an, an)])), .agg (edL (x, outE an, an)), i64 0] ∧ H' = []) := by
  have h0 := (List.getElem?_eq_some_iff.1 hx).1
  refine LCalls.of Try.func46 rfl Try.ntmps46 Try.results46 rfl (fun Rf => ?_)
  refine LW.seq ?_
  refine LW.region ?_
  refine X.act (X.box rfl Is.rfl' (by exact Cells.agg) (fun b2 => ?_))
  refine X.act (X.alloc rfl Try.zeroValue68 (by exact Cells.rawagg (by decide)) (fun b4 => ?_))
  refine X.act (X.alloc rfl Try.zeroValue58 (by exact Cells.rawagg (by decide)) (fun b5 => ?_))
  refine X.u (LU.assignR Is.rfl') rfl ?_
  refine LL.nil (after_code ?_)
  refine LW.seq ?_
  refine LW.seq ?_
  refine LW.region ?_
  refine X.u (LU.fieldO Try.underlying68 rfl Try.sizeOf24 (by decide) Is.rfl') rfl ?_
  refine X.u (LU.loadO 2 rfl ⟨Try.sizeOf24, Try.isAgg24⟩ Is.rfl' (Part.one rfl)) rfl ?_
  refine X.u (LU.lenN Try.underlying24 Is.rfl' (by (simp only [Option.getD_some, Option.getD_none, byteEls_length, intEls_length, List.length_append, List.length_cons, List.length_nil, List.length_map, List.length_drop, List.length_take, Int.toNat_natCast]; rfl))) rfl ?_
  refine X.u (LU.eql Is.rfl' Is.rfl') rfl ?_
  refine LL.nil (after_code ?_)
  refine X.condF rfl ?_ ?_
  · exact decide_eq_false (by omega)
  refine LW.skip (after_code ?_)
  refine LW.seq ?_
  refine LW.region ?_
  refine X.u (LU.assignR Is.rfl') rfl ?_
  refine LL.nil (after_code ?_)
  refine X.meetK (α := Int) (fun u => [(7, i64 u)]) [1, 2, 4, 5, 6] (fun u => .cells b2 68 (rq W E) :: .cells b4 68 rqz :: .cells b5 58 (edL (0, 0, 0)) :: Rf) (fun u => u = outE an) ?_ ?_
  · refine LW.seq ?_
    refine LW.region ?_
    refine X.u (LU.moveR Is.rfl') rfl ?_
    refine X.u (LU.eql Is.rfl' Is.rfl') rfl ?_
    refine LL.nil (after_code ?_)
    refine X.cond rfl (fun h4 => ?_) (fun h4 => ?_)
    · try have h4 := of_decide_eq_true h4
      refine LW.region ?_
      refine X.u (LU.assignR Is.rfl') rfl ?_
      refine LL.nil (after_rnd ?_)
      refine X.meets (1) rfl (EnvLe.cons (by rfl) (EnvLe.nil)) (Keeps.cons (by exact Eq.trans (b := .raw _) rfl rfl) (Keeps.cons (by exact Eq.trans (b := .raw _) rfl rfl) (Keeps.cons (by exact Eq.trans (b := .raw _) rfl rfl) (Keeps.cons (by exact Eq.trans (b := .raw _) rfl rfl) (Keeps.cons (by exact Eq.trans (b := .raw _) rfl rfl) (Keeps.nil)))))) (by repeat (first | exact HSub.refl _ | refine HSub.pick 1 rfl ?_ | refine HSub.pick 2 rfl ?_)) ?_
      unfold outE; rw [if_pos h4]
    · try have h4 := of_decide_eq_false h4
      refine LW.skip (after_rnd ?_)
      refine X.meets (2) rfl (EnvLe.cons (by rfl) (EnvLe.nil)) (Keeps.cons (by exact Eq.trans (b := .raw _) rfl rfl) (Keeps.cons (by exact Eq.trans (b := .raw _) rfl rfl) (Keeps.cons (by exact Eq.trans (b := .raw _) rfl rfl) (Keeps.cons (by exact Eq.trans (b := .raw _) rfl rfl) (Keeps.cons (by exact Eq.trans (b := .raw _) rfl rfl) (Keeps.nil)))))) (by repeat (first | exact HSub.refl _ | refine HSub.pick 1 rfl ?_ | refine HSub.pick 2 rfl ?_)) ?_
      unfold outE; rw [if_neg h4]
  · rintro u hI
    have hu := hI
    refine LW.seq ?_
    refine X.drawM 8 rfl (by kernel_rfl) rfl ?_
    refine QD.u (LU.loadO 0 rfl ⟨Try.sizeOf68, Try.isAgg68⟩ Is.rfl' (Part.whole (by (simp; done)))) rfl ?_
    refine QD.u (LU.fieldO Try.underlying68 rfl Try.sizeOf24 (by decide) Is.rfl') rfl ?_
    refine QD.u (LU.loadO 0 rfl ⟨Try.sizeOf24, Try.isAgg24⟩ Is.rfl' (Part.one rfl)) rfl ?_
    refine QD.u (LU.at Try.underlying24 ⟨Try.sizeOf3, Try.isAgg3⟩ Is.rfl' Is.rfl' (by omega) (ints_at hx) (by simp)) rfl ?_
    refine QD.u (LU.load ⟨Try.sizeOf3, Try.isAgg3⟩ Is.rfl' (by (simp; done)) (Part.one rfl)) rfl ?_
    refine QD.u (LU.moveR Is.rfl') rfl ?_
    refine QD.u (LU.moveR Is.rfl') rfl ?_
    refine QD.u (LU.call (rend_calls W E x u an 0 hl he hx (idx_zero hx)) Try.func66 rfl rfl (Opds.cons Is.rfl' (Opds.cons Is.rfl' (Opds.cons Is.rfl' (Opds.cons Is.rfl' Opds.nil))))) rfl ?_
    refine QD.nil ?_
    refine X.act (X.store 0 rfl Try.sizeOf68 Is.rfl' Is.rfl' (by exact Cells.agg) (by (simp; done)) (by (simp; done)) ?_)
    refine LL.nil (after_code ?_)
    refine LW.seq ?_
    refine X.wghost (H' := .cells b4 68 rqz :: .cells b5 58 (edL (0, 0, 0)) :: .cells b2 68 (rq (W.eraseIdx 0) (E ++ [(x, u, an)])) :: Rf) (by repeat (first | exact HSub.refl _ | refine HSub.pick 1 rfl ?_)) ?_
    refine LW.invB (m := 12) (γ := Unit × Unit) [(0, 24), (1, 25), (2, 26), (3, 27), (4, 28), (5, 29), (6, 30), (7, 31), (8, 32), (11, 6)] (fun g_ d => match g_ with | ⟨za, zb⟩ => match d with | 24 => .agg (rq (W.eraseIdx 0) (E ++ [(x, u, an)])) | 25 => .raw (.pointer (some ⟨b2, 1, none⟩)) | 26 => .sl 3 (eds (E ++ [(x, u, an)])) .unk | 27 => .raw (.pointer (some ⟨b2, 1, none⟩)) | 28 => .sl 3 (eds (E ++ [(x, u, an)])) .unk | 29 => i64 ((E.length + 1 : Nat) : Int) | 30 => i64 (E.length : Nat) | 31 => .pin (edL (x, u, an)) | 32 => .agg (edL (x, u, an)) | 6 => i64 0 | _ => .any) (fun g_ f => match g_ with | ⟨za, zb⟩ => .cells b4 68 (cond (f 9) (rq (W.eraseIdx 0) (E ++ [(x, u, an)])) rqz) :: .cells b5 58 (cond (f 10) (edL (x, u, an)) (edL (0, 0, 0))) :: .cells b2 68 (rq (W.eraseIdx 0) (E ++ [(x, u, an)])) :: Rf) ((), ()) rfl (by kernel_rfl) rfl rfl ((HSub.refl _)) ?_ ?_
    · intro i hi f g_ hfi hdir hdown
      obtain ⟨za, zb⟩ := g_
      have hc : i = 0 ∨ i = 1 ∨ i = 2 ∨ i = 3 ∨ i = 4 ∨ i = 5 ∨ i = 6 ∨ i = 7 ∨ i = 8 ∨ i = 9 ∨ i = 10 ∨ i = 11 := by omega
      rcases hc with rfl | rfl | rfl | rfl | rfl | rfl | rfl | rfl | rfl | rfl | rfl | rfl
      · refine ⟨_, rfl, ?_⟩
        refine A.u (LU.loadO 2 rfl ⟨Try.sizeOf68, Try.isAgg68⟩ Is.rfl' (Part.whole (by (simp; done)))) rfl ?_
        refine ⟨⟨za, zb⟩, Weaker.mk' ?_ (HSub.refl _)⟩
        refine env_back0 (envS_hit (sl := [(0, 24), (1, 25), (2, 26), (3, 27), (4, 28), (5, 29), (6, 30), (7, 31), (8, 32), (11, 6)]) (j := 0) (d := 24) rfl (fun _ _ h => h))  (envS_next ?_)
        · intro p hp hne; simp only [List.mem_cons, List.not_mem_nil, or_false] at hp; rcases hp with rfl | rfl | rfl | rfl | rfl | rfl | rfl | rfl | rfl | rfl <;> first | exact absurd rfl hne | exact ⟨rfl, rfl⟩
      · refine ⟨_, rfl, ?_⟩
        refine A.u (LU.fieldO Try.underlying68 rfl Try.sizeOf54 (by decide) Is.rfl') rfl ?_
        refine ⟨⟨za, zb⟩, Weaker.mk' ?_ (HSub.refl _)⟩
        refine env_back0 (envS_hit (sl := [(0, 24), (1, 25), (2, 26), (3, 27), (4, 28), (5, 29), (6, 30), (7, 31), (8, 32), (11, 6)]) (j := 1) (d := 25) rfl (fun _ _ h => h))  (envS_next ?_)
        · intro p hp hne; simp only [List.mem_cons, List.not_mem_nil, or_false] at hp; rcases hp with rfl | rfl | rfl | rfl | rfl | rfl | rfl | rfl | rfl | rfl <;> first | exact absurd rfl hne | exact ⟨rfl, rfl⟩
      · have d1 := hdir 1 (List.mem_of_elem_eq_true (by kernel_rfl))
        refine ⟨_, rfl, ?_⟩
        refine LP.weak (t := 25) (v := .raw (.pointer (some ⟨b2, 1, none⟩))) (envS_is (j := 1) rfl d1) ?_
        refine A.u (LU.loadO 2 rfl ⟨Try.sizeOf54, Try.isAgg54⟩ Is.rfl' (Part.one rfl)) rfl ?_
        refine ⟨⟨za, zb⟩, Weaker.mk' ?_ (HSub.refl _)⟩
        refine env_back1 (envS_hit (sl := [(0, 24), (1, 25), (2, 26), (3, 27), (4, 28), (5, 29), (6, 30), (7, 31), (8, 32), (11, 6)]) (j := 2) (d := 26) rfl (fun _ _ h => h)) (envS_hit (sl := [(0, 24), (1, 25), (2, 26), (3, 27), (4, 28), (5, 29), (6, 30), (7, 31), (8, 32), (11, 6)]) (j := 1) (d := 25) rfl (fun _ _ h => h)) (envS_next ?_)
        · intro p hp hne; simp only [List.mem_cons, List.not_mem_nil, or_false] at hp; rcases hp with rfl | rfl | rfl | rfl | rfl | rfl | rfl | rfl | rfl | rfl <;> first | exact absurd rfl hne | exact ⟨rfl, rfl⟩
      · refine ⟨_, rfl, ?_⟩
        refine A.u (LU.fieldO Try.underlying68 rfl Try.sizeOf54 (by decide) Is.rfl') rfl ?_
        refine ⟨⟨za, zb⟩, Weaker.mk' ?_ (HSub.refl _)⟩
        refine env_back0 (envS_hit (sl := [(0, 24), (1, 25), (2, 26), (3, 27), (4, 28), (5, 29), (6, 30), (7, 31), (8, 32), (11, 6)]) (j := 3) (d := 27) rfl (fun _ _ h => h))  (envS_next ?_)
        · intro p hp hne; simp only [List.mem_cons, List.not_mem_nil, or_false] at hp; rcases hp with rfl | rfl | rfl | rfl | rfl | rfl | rfl | rfl | rfl | rfl <;> first | exact absurd rfl hne | exact ⟨rfl, rfl⟩
      · have d3 := hdir 3 (List.mem_of_elem_eq_true (by kernel_rfl))
        refine ⟨_, rfl, ?_⟩
        refine LP.weak (t := 27) (v := .raw (.pointer (some ⟨b2, 1, none⟩))) (envS_is (j := 3) rfl d3) ?_
        refine A.u (LU.loadO 2 rfl ⟨Try.sizeOf54, Try.isAgg54⟩ Is.rfl' (Part.one rfl)) rfl ?_
        refine ⟨⟨za, zb⟩, Weaker.mk' ?_ (HSub.refl _)⟩
        refine env_back1 (envS_hit (sl := [(0, 24), (1, 25), (2, 26), (3, 27), (4, 28), (5, 29), (6, 30), (7, 31), (8, 32), (11, 6)]) (j := 4) (d := 28) rfl (fun _ _ h => h)) (envS_hit (sl := [(0, 24), (1, 25), (2, 26), (3, 27), (4, 28), (5, 29), (6, 30), (7, 31), (8, 32), (11, 6)]) (j := 3) (d := 27) rfl (fun _ _ h => h)) (envS_next ?_)
        · intro p hp hne; simp only [List.mem_cons, List.not_mem_nil, or_false] at hp; rcases hp with rfl | rfl | rfl | rfl | rfl | rfl | rfl | rfl | rfl | rfl <;> first | exact absurd rfl hne | exact ⟨rfl, rfl⟩
      · have d4 := hdir 4 (List.mem_of_elem_eq_true (by kernel_rfl))
        refine ⟨_, rfl, ?_⟩
        refine LP.weak (t := 28) (v := .sl 3 (eds (E ++ [(x, u, an)])) .unk) (envS_is (j := 4) rfl d4) ?_
        refine A.u (LU.weak (LU.lenN Try.underlying54 Is.rfl' (by (simp only [Option.getD_some, Option.getD_none, byteEls_length, intEls_length, List.length_append, List.length_cons, List.length_nil, List.length_map, List.length_drop, List.length_take, Int.toNat_natCast]; rfl))) (Is.of (y := i64 ((E.length + 1 : Nat) : Int)) (congrArg i64 (by simp)))) rfl ?_
        refine ⟨⟨za, zb⟩, Weaker.mk' ?_ (HSub.refl _)⟩
        refine env_back1 (envS_hit (sl := [(0, 24), (1, 25), (2, 26), (3, 27), (4, 28), (5, 29), (6, 30), (7, 31), (8, 32), (11, 6)]) (j := 5) (d := 29) rfl (fun _ _ h => h)) (envS_hit (sl := [(0, 24), (1, 25), (2, 26), (3, 27), (4, 28), (5, 29), (6, 30), (7, 31), (8, 32), (11, 6)]) (j := 4) (d := 28) rfl (fun _ _ h => h)) (envS_next ?_)
        · intro p hp hne; simp only [List.mem_cons, List.not_mem_nil, or_false] at hp; rcases hp with rfl | rfl | rfl | rfl | rfl | rfl | rfl | rfl | rfl | rfl <;> first | exact absurd rfl hne | exact ⟨rfl, rfl⟩
      · have d5 := hdir 5 (List.mem_of_elem_eq_true (by kernel_rfl))
        refine ⟨_, rfl, ?_⟩
        refine LP.weak (t := 29) (v := i64 ((E.length + 1 : Nat) : Int)) (envS_is (j := 5) rfl d5) ?_
        refine A.u (LU.weak (LU.subN Is.rfl' Is.rfl' (wrap_i64 (by omega) (by omega))) (Is.of (y := i64 (E.length : Nat)) (congrArg i64 (by omega)))) rfl ?_
        refine ⟨⟨za, zb⟩, Weaker.mk' ?_ (HSub.refl _)⟩
        refine env_back1 (envS_hit (sl := [(0, 24), (1, 25), (2, 26), (3, 27), (4, 28), (5, 29), (6, 30), (7, 31), (8, 32), (11, 6)]) (j := 6) (d := 30) rfl (fun _ _ h => h)) (envS_hit (sl := [(0, 24), (1, 25), (2, 26), (3, 27), (4, 28), (5, 29), (6, 30), (7, 31), (8, 32), (11, 6)]) (j := 5) (d := 29) rfl (fun _ _ h => h)) (envS_next ?_)
        · intro p hp hne; simp only [List.mem_cons, List.not_mem_nil, or_false] at hp; rcases hp with rfl | rfl | rfl | rfl | rfl | rfl | rfl | rfl | rfl | rfl <;> first | exact absurd rfl hne | exact ⟨rfl, rfl⟩
      · have d2 := hdir 2 (List.mem_of_elem_eq_true (by kernel_rfl))
        have d6 := hdir 6 (List.mem_of_elem_eq_true (by kernel_rfl))
        refine ⟨_, rfl, ?_⟩
        refine LP.weak (t := 26) (v := .sl 3 (eds (E ++ [(x, u, an)])) .unk) (envS_is (j := 2) rfl d2) ?_
        refine LP.weak (t := 30) (v := i64 (E.length : Nat)) (envS_is (j := 6) rfl d6) ?_
        refine A.u (LU.at Try.underlying54 ⟨Try.sizeOf58, Try.isAgg58⟩ Is.rfl' Is.rfl' (by omega) (eds_at (show (E ++ [(x, u, an)])[E.length]? = some (x, u, an) by simp)) (by simp)) rfl ?_
        refine ⟨⟨za, zb⟩, Weaker.mk' ?_ (HSub.refl _)⟩
        refine env_back2 (envS_hit (sl := [(0, 24), (1, 25), (2, 26), (3, 27), (4, 28), (5, 29), (6, 30), (7, 31), (8, 32), (11, 6)]) (j := 7) (d := 31) rfl (fun _ _ h => h)) (envS_hit (sl := [(0, 24), (1, 25), (2, 26), (3, 27), (4, 28), (5, 29), (6, 30), (7, 31), (8, 32), (11, 6)]) (j := 6) (d := 30) rfl (fun _ _ h => h)) (envS_hit (sl := [(0, 24), (1, 25), (2, 26), (3, 27), (4, 28), (5, 29), (6, 30), (7, 31), (8, 32), (11, 6)]) (j := 2) (d := 26) rfl (fun _ _ h => h)) (envS_next ?_)
        · intro p hp hne; simp only [List.mem_cons, List.not_mem_nil, or_false] at hp; rcases hp with rfl | rfl | rfl | rfl | rfl | rfl | rfl | rfl | rfl | rfl <;> first | exact absurd rfl hne | exact ⟨rfl, rfl⟩
      · have d7 := hdir 7 (List.mem_of_elem_eq_true (by kernel_rfl))
        refine ⟨_, rfl, ?_⟩
        refine LP.weak (t := 31) (v := .pin (edL (x, u, an))) (envS_is (j := 7) rfl d7) ?_
        refine A.u (LU.load ⟨Try.sizeOf58, Try.isAgg58⟩ Is.rfl' (by (simp; done)) (Part.whole (by (simp; done)))) rfl ?_
        refine ⟨⟨za, zb⟩, Weaker.mk' ?_ (HSub.refl _)⟩
        refine env_back1 (envS_hit (sl := [(0, 24), (1, 25), (2, 26), (3, 27), (4, 28), (5, 29), (6, 30), (7, 31), (8, 32), (11, 6)]) (j := 8) (d := 32) rfl (fun _ _ h => h)) (envS_hit (sl := [(0, 24), (1, 25), (2, 26), (3, 27), (4, 28), (5, 29), (6, 30), (7, 31), (8, 32), (11, 6)]) (j := 7) (d := 31) rfl (fun _ _ h => h)) (envS_next ?_)
        · intro p hp hne; simp only [List.mem_cons, List.not_mem_nil, or_false] at hp; rcases hp with rfl | rfl | rfl | rfl | rfl | rfl | rfl | rfl | rfl | rfl <;> first | exact absurd rfl hne | exact ⟨rfl, rfl⟩
      · have d0 := hdir 0 (List.mem_of_elem_eq_true (by kernel_rfl))
        refine ⟨_, rfl, ?_⟩
        refine LP.ghost (H' := .cells b4 68 rqz :: .cells b5 58 (cond (f 10) (edL (x, u, an)) (edL (0, 0, 0))) :: .cells b2 68 (rq (W.eraseIdx 0) (E ++ [(x, u, an)])) :: Rf) (by show HSub (.cells b4 _ (cond (f 9) _ _) :: _) _; rw [hfi]; exact HSub.refl _) ?_
        refine LP.weak (t := 24) (v := .agg (rq (W.eraseIdx 0) (E ++ [(x, u, an)]))) (envS_is (j := 0) rfl d0) ?_
        refine A.act (X.store 0 rfl Try.sizeOf68 Is.rfl' Is.rfl' (by exact Cells.agg) (by (simp; done)) (by exact Nat.le_of_ble_eq_true rfl) ?_)
        refine ⟨⟨za, zb⟩, Weaker.mk' ?_ (by rw [putAt_all (xs := rqz) (ys := (rq (W.eraseIdx 0) (E ++ [(x, u, an)]))) rfl]; show HSub _ (.cells b4 _ (cond true _ _) :: _); exact HSub.refl _)⟩
        refine env_back0 (envS_hit (sl := [(0, 24), (1, 25), (2, 26), (3, 27), (4, 28), (5, 29), (6, 30), (7, 31), (8, 32), (11, 6)]) (j := 0) (d := 24) rfl (fun _ _ h => h)) (envS_next ?_)
        · intro p hp hne; simp only [List.mem_cons, List.not_mem_nil, or_false] at hp; rcases hp with rfl | rfl | rfl | rfl | rfl | rfl | rfl | rfl | rfl | rfl <;> first | exact absurd rfl hne | exact ⟨rfl, rfl⟩
      · have d0 := hdir 0 (List.mem_of_elem_eq_true (by kernel_rfl))
        have d1 := hdir 1 (List.mem_of_elem_eq_true (by kernel_rfl))
        have d2 := hdir 2 (List.mem_of_elem_eq_true (by kernel_rfl))
        have d3 := hdir 3 (List.mem_of_elem_eq_true (by kernel_rfl))
        have d4 := hdir 4 (List.mem_of_elem_eq_true (by kernel_rfl))
        have d5 := hdir 5 (List.mem_of_elem_eq_true (by kernel_rfl))
        have d6 := hdir 6 (List.mem_of_elem_eq_true (by kernel_rfl))
        have d7 := hdir 7 (List.mem_of_elem_eq_true (by kernel_rfl))
        have d8 := hdir 8 (List.mem_of_elem_eq_true (by kernel_rfl))
        have d9 := hdir 9 (List.mem_of_elem_eq_true (by kernel_rfl))
        refine ⟨_, rfl, ?_⟩
        refine LP.ghost (H' := .cells b5 58 (edL (0, 0, 0)) :: .cells b4 68 (cond (f 9) (rq (W.eraseIdx 0) (E ++ [(x, u, an)])) rqz) :: .cells b2 68 (rq (W.eraseIdx 0) (E ++ [(x, u, an)])) :: Rf) (by show HSub (_ :: .cells b5 _ (cond (f 10) _ _) :: _) _; rw [hfi]; exact HSub.pick 1 rfl (HSub.pick 0 rfl (HSub.refl _))) ?_
        refine LP.weak (t := 32) (v := .agg (edL (x, u, an))) (envS_is (j := 8) rfl d8) ?_
        refine A.act (X.store 0 rfl Try.sizeOf58 Is.rfl' Is.rfl' (by exact Cells.agg) (by (simp; done)) (by (simp; done)) ?_)
        refine ⟨⟨za, zb⟩, Weaker.mk' ?_ (by rw [putAt_all (xs := edL (0, 0, 0)) (ys := (edL (x, u, an))) rfl]; show HSub _ (_ :: .cells b5 _ (cond true _ _) :: _); exact HSub.pick 1 rfl (HSub.pick 0 rfl (HSub.refl _)))⟩
        refine env_back0 (envS_hit (sl := [(0, 24), (1, 25), (2, 26), (3, 27), (4, 28), (5, 29), (6, 30), (7, 31), (8, 32), (11, 6)]) (j := 8) (d := 32) rfl (fun _ _ h => h)) (envS_next ?_)
        · intro p hp hne; simp only [List.mem_cons, List.not_mem_nil, or_false] at hp; rcases hp with rfl | rfl | rfl | rfl | rfl | rfl | rfl | rfl | rfl | rfl <;> first | exact absurd rfl hne | exact ⟨rfl, rfl⟩
      · have d0 := hdir 0 (List.mem_of_elem_eq_true (by kernel_rfl))
        have d1 := hdir 1 (List.mem_of_elem_eq_true (by kernel_rfl))
        have d2 := hdir 2 (List.mem_of_elem_eq_true (by kernel_rfl))
        have d3 := hdir 3 (List.mem_of_elem_eq_true (by kernel_rfl))
        have d4 := hdir 4 (List.mem_of_elem_eq_true (by kernel_rfl))
        have d5 := hdir 5 (List.mem_of_elem_eq_true (by kernel_rfl))
        have d6 := hdir 6 (List.mem_of_elem_eq_true (by kernel_rfl))
        have d7 := hdir 7 (List.mem_of_elem_eq_true (by kernel_rfl))
        have d8 := hdir 8 (List.mem_of_elem_eq_true (by kernel_rfl))
        have d9 := hdir 9 (List.mem_of_elem_eq_true (by kernel_rfl))
        have d10 := hdir 10 (List.mem_of_elem_eq_true (by kernel_rfl))
        refine ⟨_, rfl, ?_⟩
        refine A.u (LU.assignR Is.rfl') rfl ?_
        refine ⟨⟨za, zb⟩, Weaker.mk' ?_ (HSub.refl _)⟩
        refine env_back0 (envS_hit (sl := [(0, 24), (1, 25), (2, 26), (3, 27), (4, 28), (5, 29), (6, 30), (7, 31), (8, 32), (11, 6)]) (j := 11) (d := 6) rfl (fun _ _ h => h))  (envS_next ?_)
        · intro p hp hne; simp only [List.mem_cons, List.not_mem_nil, or_false] at hp; rcases hp with rfl | rfl | rfl | rfl | rfl | rfl | rfl | rfl | rfl | rfl <;> first | exact absurd rfl hne | exact ⟨rfl, rfl⟩
    · intro g_ f hf_
      obtain ⟨za, zb⟩ := g_
      refine X.ghost (H' := .cells b4 68 (rq (W.eraseIdx 0) (E ++ [(x, u, an)])) :: .cells b5 58 (edL (x, u, an)) :: .cells b2 68 (rq (W.eraseIdx 0) (E ++ [(x, u, an)])) :: Rf) (by show HSub (.cells b4 _ (cond (f 9) _ _) :: .cells b5 _ (cond (f 10) _ _) :: _) _; rw [hf_ 9 (by omega), hf_ 10 (by omega)]; exact HSub.refl _) ?_
      refine LL.nil (after_code ?_)
      refine LW.ret (after_end ?_)
      refine X.ret (H' := []) (by exact Res.cc3 0 1 rfl rfl rfl rfl ⟨Try.sizeOf68, Try.isAgg68⟩ ⟨Try.sizeOf58, Try.isAgg58⟩ (Part.whole rfl) (Part.whole rfl) (IsA rfl) (IsA rfl) (IsR rfl)) (by repeat (first | exact HSub.refl _ | refine HSub.drop ?_)) ?_
      exact ⟨by rw [hu], rfl⟩
end Go.Proofs.Ytpimalihpnfdkaa
