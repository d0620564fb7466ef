/- The longest prefix; the chapter's examples; which texts are names and paths. -/
import Derived.Test.YtcemodldbfiomaaNmE
set_option linter.unusedVariables false
set_option linter.unusedSimpArgs false
namespace Go.Proofs.Ytcemodldbfiomaa
open Go.RowKit Go.L
attribute [local irreducible] LL LW LO
theorem strEls_atI {l : List (List UInt8)} {j : Int} (h0 : 0 ≤ j) (h : j.toNat < l.length) : (strEls l)[j.toNat]? = some [Str (l.getD j.toNat [])] := by
  have := strEls_at h
  rwa [Int.toNat_natCast] at this
/-- The number of the longest of the first prefixes that cover a path, -1 if none does. -/
def bestN (ps : List (List UInt8)) (s : List UInt8) : Nat → Int
  | 0 => -1
  | i + 1 => if (coversB (ps.getD i []) s && (decide (bestN ps s i < 0) || decide (((ps.getD (bestN ps s i).toNat []).length : Int) < (ps.getD i []).length))) = true then i else bestN ps s i
theorem best_lt (ps : List (List UInt8)) (s : List UInt8) : ∀ i, -1 ≤ bestN ps s i ∧ bestN ps s i < i
  | 0 => by simp [bestN]
  | i + 1 => by
    have := best_lt ps s i
    unfold bestN
    split <;> omega
theorem best_hit {ps : List (List UInt8)} {s : List UInt8} {i : Nat} (h : (coversB (ps.getD i []) s && (decide (bestN ps s i < 0) || decide (((ps.getD (bestN ps s i).toNat []).length : Int) < (ps.getD i []).length))) = true) : bestN ps s (i + 1) = i := by
  rw [bestN, if_pos h]
theorem best_miss {ps : List (List UInt8)} {s : List UInt8} {i : Nat} (h : (coversB (ps.getD i []) s && (decide (bestN ps s i < 0) || decide (((ps.getD (bestN ps s i).toNat []).length : Int) < (ps.getD i []).length))) = false) : bestN ps s (i + 1) = bestN ps s i := by
  rw [bestN, if_neg (by rw [h]; simp)]
set_option maxRecDepth 100000 in
theorem longest_calls (ps : List (List UInt8)) (s : List UInt8) (k : Cap) (hp : ps.length < 1099511627776) : LCalls Try.prog 13 [Strs ps k, Str s] [] (fun r H' => r = i64 (bestN ps s ps.length) ∧ H' = []) := by
  refine LCalls.of Try.func13 rfl Try.ntmps13 Try.results13 rfl (fun Rf => ?_)
  refine LW.seq ?_
  refine LW.region ?_
  refine X.u (LU.assignR Is.rfl') rfl ?_
  refine LL.nil (after_code ?_)
  refine LW.seq ?_
  refine LW.region ?_
  refine X.u (LU.assignR Is.rfl') rfl ?_
  refine LL.nil (after_code ?_)
  refine LW.seq ?_
  refine LW.seq ?_
  refine LW.region ?_
  refine X.u (LU.moveS Is.rfl') rfl ?_
  refine X.u (LU.lenN Try.underlying24 Is.rfl' (by (simp only [Option.getD_some, Option.getD_none, byteEls_length, intEls_length, List.length_append, List.length_cons, List.length_nil, List.length_map, List.length_drop, List.length_take, Int.toNat_natCast]; rfl))) rfl ?_
  refine X.u (LU.moveR Is.rfl') rfl ?_
  refine LL.nil (after_code ?_)
  refine LW.block ?_
  refine X.loopK (α := Nat) (fun i => [(10, i64 i), (5, i64 (bestN ps s i))]) [0, 1, 4, 8, 9] (fun _ => _) (fun i => i ≤ ps.length) (fun i => ps.length - i) (0) (EnvLe.cons (by rfl) (EnvLe.cons (by rfl) (EnvLe.nil))) (HSub.refl _) ?_ ?_
  · exact Nat.zero_le _
  · rintro i hI
    obtain ⟨hb1, hb2⟩ := best_lt ps s i
    refine LW.seq ?_
    refine LW.region ?_
    refine X.u (LU.lss Is.rfl' Is.rfl') rfl ?_
    refine LL.nil (after_code ?_)
    refine LW.seq ?_
    refine X.cond rfl (fun h3 => ?_) (fun h3 => ?_)
    · try have h3 := of_decide_eq_true h3
      refine LW.skip (after_code ?_)
      refine LW.seq ?_
      refine LW.block ?_
      refine LW.seq ?_
      refine LW.region ?_
      refine X.u (LU.moveR Is.rfl') rfl ?_
      refine X.u (LU.at Try.underlying24 ⟨Try.sizeOf9, Try.isAgg9⟩ Is.rfl' Is.rfl' (by omega) (strEls_at (by omega)) (by simp)) rfl ?_
      refine X.u (LU.load ⟨Try.sizeOf9, Try.isAgg9⟩ Is.rfl' (by (simp; done)) (Part.one rfl)) rfl ?_
      refine X.u (LU.assignR Is.rfl') rfl ?_
      refine X.u (LU.assignR Is.rfl') rfl ?_
      refine LL.nil (after_code ?_)
      refine LW.seq ?_
      refine LW.region ?_
      refine X.u (LU.moveR Is.rfl') rfl ?_
      refine X.u (LU.moveR Is.rfl') rfl ?_
      refine X.u (LU.call (covers_calls _ s) Try.func15 rfl rfl (Opds.cons Is.rfl' (Opds.cons Is.rfl' Opds.nil))) rfl ?_
      refine X.u (LU.moveR Is.rfl') rfl ?_
      refine X.gT rfl rfl (fun hg => LU.moveR (by exact Is.rfl')) rfl ?_
      refine X.gT rfl rfl (fun hg => LU.lss (by exact Is.whenE hg) (by exact Is.rfl')) rfl ?_
      refine X.gT rfl rfl (fun hg => LU.moveR (by exact Is.whenE hg)) rfl ?_
      refine X.gF2 rfl rfl (fun hg0 hg => LU.moveR (by exact Is.rfl')) rfl ?_
      refine X.gF2 rfl rfl (fun hg0 hg => LU.strlenN Try.underlying9 (by exact Is.whenE (by rw [hg0, hg]; rfl))) rfl ?_
      refine X.gF2 rfl rfl (fun hg0 hg => LU.moveS (by exact Is.rfl')) rfl ?_
      refine X.gF2 rfl rfl (fun hg0 hg => LU.moveR (by exact Is.rfl')) rfl ?_
      refine X.gF2 rfl rfl (fun hg0 hg => LU.at Try.underlying24 ⟨Try.sizeOf9, Try.isAgg9⟩ (by exact Is.whenE (by rw [hg0, hg]; rfl)) (by exact Is.whenE (by rw [hg0, hg]; rfl)) (by (simp only [Bool.or_eq_false_iff, Bool.and_eq_true, Bool.or_eq_true, Bool.and_eq_false_imp, Bool.not_eq_true', Bool.not_eq_false', decide_eq_true_eq, decide_eq_false_iff_not] at hg; omega)) (strEls_atI (by (simp only [Bool.or_eq_false_iff, Bool.and_eq_true, Bool.or_eq_true, Bool.and_eq_false_imp, Bool.not_eq_true', Bool.not_eq_false', decide_eq_true_eq, decide_eq_false_iff_not] at hg; omega)) (by omega)) (by simp)) rfl ?_
      refine X.gF2 rfl rfl (fun hg0 hg => LU.load ⟨Try.sizeOf9, Try.isAgg9⟩ (by exact Is.whenE (by rw [hg0, hg]; rfl)) (by (simp; done)) (Part.one rfl)) rfl ?_
      refine X.gF2 rfl rfl (fun hg0 hg => LU.strlenN Try.underlying9 (by exact Is.whenE (by rw [hg0, hg]; rfl))) rfl ?_
      refine X.gF2 rfl rfl (fun hg0 hg => LU.gtr (by exact Is.whenE (by rw [hg0, hg]; rfl)) (by exact Is.whenE (by rw [hg0, hg]; rfl))) rfl ?_
      refine X.gT rfl rfl (fun hg => LU.pickOr (by exact Is.whenE hg) (by exact Is.rfl') (fun hq => (by exact Is.whenE (by rw [hg, hq]; rfl)))) rfl ?_
      refine X.u (LU.pickAnd Is.rfl' (fun hq => (by exact Is.whenE hq)) Is.rfl') rfl ?_
      refine LL.nil (after_code ?_)
      refine X.cond rfl (fun h5 => ?_) (fun h5 => ?_)
      · have hb := best_hit h5
        refine LW.region ?_
        refine X.u (LU.moveR Is.rfl') rfl ?_
        refine X.u (LU.assignR Is.rfl') rfl ?_
        refine LL.nil (after_blk (after_code ?_))
        refine LW.region ?_
        refine X.u (LU.addN Is.rfl' Is.rfl' (wrap_i64 (by omega) (by omega))) rfl ?_
        refine X.u (LU.moveR Is.rfl') rfl ?_
        refine LL.nil (after_rnd ?_)
        refine X.next (i + 1) rfl (EnvLe.cons (by rfl) (EnvLe.cons (by exact raw_int (by omega)) (EnvLe.nil))) (Keeps.cons (by exact Eq.trans (b := .sl _ _ _) rfl rfl) (Keeps.cons (by exact Eq.trans (b := .raw _) rfl rfl) (Keeps.cons (by exact Eq.trans (b := .raw _) rfl rfl) (Keeps.cons (by exact Eq.trans (b := .sl _ _ _) rfl rfl) (Keeps.cons (by exact Eq.trans (b := .raw _) rfl rfl) (Keeps.nil)))))) (HSub.refl _) ?_ ?_
        · omega
        · omega
      · have hb := best_miss h5
        refine LW.skip (after_blk (after_code ?_))
        refine LW.region ?_
        refine X.u (LU.addN Is.rfl' Is.rfl' (wrap_i64 (by omega) (by omega))) rfl ?_
        refine X.u (LU.moveR Is.rfl') rfl ?_
        refine LL.nil (after_rnd ?_)
        refine X.next (i + 1) rfl (EnvLe.cons (by rfl) (EnvLe.cons (by exact raw_int (by omega)) (EnvLe.nil))) (Keeps.cons (by exact Eq.trans (b := .sl _ _ _) rfl rfl) (Keeps.cons (by exact Eq.trans (b := .raw _) rfl rfl) (Keeps.cons (by exact Eq.trans (b := .raw _) rfl rfl) (Keeps.cons (by exact Eq.trans (b := .sl _ _ _) rfl rfl) (Keeps.cons (by exact Eq.trans (b := .raw _) rfl rfl) (Keeps.nil)))))) (HSub.refl _) ?_ ?_
        · omega
        · omega
    · try have h3 := of_decide_eq_false h3
      obtain rfl : i = ps.length := by omega
      refine LW.exit (exit_code (exit_rnd (exit_blk (after_code ?_))))
      refine LW.seq ?_
      refine LW.region ?_
      refine X.u (LU.moveR Is.rfl') rfl ?_
      refine X.u (LU.assignR Is.rfl') rfl ?_
      refine LL.nil (after_code ?_)
      refine LW.ret (after_end ?_)
      refine X.ret (H' := []) (Res.one (by exact IsR rfl)) (by repeat (exact HSub.refl _)) ?_
      exact ⟨rfl, rfl⟩
set_option maxRecDepth 100000 in
theorem rlongest_calls (ps : List (List UInt8)) (s : List UInt8) (k : Cap) (hp : ps.length < 1099511627776) : LCalls Try.prog 14 [Strs ps k, Str s] [] (fun r H' => r = i64 (bestN ps s ps.length) ∧ H' = []) := by
  refine LCalls.of Try.func14 rfl Try.ntmps14 Try.results14 rfl (fun Rf => ?_)
  refine LW.seq ?_
  refine LW.region ?_
  refine X.u (LU.assignR Is.rfl') rfl ?_
  refine LL.nil (after_code ?_)
  refine LW.seq ?_
  refine LW.region ?_
  refine X.u (LU.assignR Is.rfl') rfl ?_
  refine LL.nil (after_code ?_)
  refine LW.seq ?_
  refine LW.seq ?_
  refine LW.region ?_
  refine X.u (LU.assignR Is.rfl') rfl ?_
  refine LL.nil (after_code ?_)
  refine LW.block ?_
  refine X.loopK (α := Nat) (fun i => [(6, i64 i), (5, i64 (bestN ps s i))]) [0, 1, 4] (fun _ => _) (fun i => i ≤ ps.length) (fun i => ps.length - i) (0) (EnvLe.cons (by rfl) (EnvLe.cons (by rfl) (EnvLe.nil))) (HSub.refl _) ?_ ?_
  · exact Nat.zero_le _
  · rintro i hI
    obtain ⟨hb1, hb2⟩ := best_lt ps s i
    refine LW.seq ?_
    refine LW.seq ?_
    refine LW.region ?_
    refine X.u (LU.moveR Is.rfl') rfl ?_
    refine X.u (LU.moveS Is.rfl') rfl ?_
    refine X.u (LU.lenN Try.underlying24 Is.rfl' (by (simp only [Option.getD_some, Option.getD_none, byteEls_length, intEls_length, List.length_append, List.length_cons, List.length_nil, List.length_map, List.length_drop, List.length_take, Int.toNat_natCast]; rfl))) rfl ?_
    refine X.u (LU.lss Is.rfl' Is.rfl') rfl ?_
    refine LL.nil (after_code ?_)
    refine X.cond rfl (fun h3 => ?_) (fun h3 => ?_)
    · try have h3 := of_decide_eq_true h3
      refine LW.skip (after_code ?_)
      refine LW.seq ?_
      refine LW.block ?_
      refine LW.seq ?_
      refine X.drawM 23 rfl (by kernel_rfl) rfl ?_
      refine QD.u (LU.moveS Is.rfl') rfl ?_
      refine QD.u (LU.moveR Is.rfl') rfl ?_
      refine QD.u (LU.at Try.underlying24 ⟨Try.sizeOf9, Try.isAgg9⟩ Is.rfl' Is.rfl' (by omega) (strEls_at (by omega)) (by simp)) rfl ?_
      refine QD.u (LU.load ⟨Try.sizeOf9, Try.isAgg9⟩ Is.rfl' (by (simp; done)) (Part.one rfl)) rfl ?_
      refine QD.u (LU.moveR Is.rfl') rfl ?_
      refine QD.u (LU.call (rcovers_calls _ s) Try.func16 rfl rfl (Opds.cons Is.rfl' (Opds.cons Is.rfl' Opds.nil))) rfl ?_
      refine QD.u (LU.moveR Is.rfl') rfl ?_
      refine QD.gT rfl rfl (fun hg => LU.moveR (by exact Is.rfl')) rfl ?_
      refine QD.gT rfl rfl (fun hg => LU.lss (by exact Is.whenE hg) (by exact Is.rfl')) rfl ?_
      refine QD.gT rfl rfl (fun hg => LU.moveR (by exact Is.whenE hg)) rfl ?_
      refine QD.gF2 rfl rfl (fun hg0 hg => LU.moveS (by exact Is.rfl')) rfl ?_
      refine QD.gF2 rfl rfl (fun hg0 hg => LU.moveR (by exact Is.rfl')) rfl ?_
      refine QD.gF2 rfl rfl (fun hg0 hg => LU.at Try.underlying24 ⟨Try.sizeOf9, Try.isAgg9⟩ (by exact Is.whenE (by rw [hg0, hg]; rfl)) (by exact Is.whenE (by rw [hg0, hg]; rfl)) (by omega) (strEls_at (by omega)) (by simp)) rfl ?_
      refine QD.gF2 rfl rfl (fun hg0 hg => LU.load ⟨Try.sizeOf9, Try.isAgg9⟩ (by exact Is.whenE (by rw [hg0, hg]; rfl)) (by (simp; done)) (Part.one rfl)) rfl ?_
      refine QD.gF2 rfl rfl (fun hg0 hg => LU.strlenN Try.underlying9 (by exact Is.whenE (by rw [hg0, hg]; rfl))) rfl ?_
      refine QD.gF2 rfl rfl (fun hg0 hg => LU.moveS (by exact Is.rfl')) rfl ?_
      refine QD.gF2 rfl rfl (fun hg0 hg => LU.moveR (by exact Is.rfl')) rfl ?_
      refine QD.gF2 rfl rfl (fun hg0 hg => LU.at Try.underlying24 ⟨Try.sizeOf9, Try.isAgg9⟩ (by exact Is.whenE (by rw [hg0, hg]; rfl)) (by exact Is.whenE (by rw [hg0, hg]; rfl)) (by (simp only [Bool.or_eq_false_iff, Bool.and_eq_true, Bool.or_eq_true, Bool.and_eq_false_imp, Bool.not_eq_true', Bool.not_eq_false', decide_eq_true_eq, decide_eq_false_iff_not] at hg; omega)) (strEls_atI (by (simp only [Bool.or_eq_false_iff, Bool.and_eq_true, Bool.or_eq_true, Bool.and_eq_false_imp, Bool.not_eq_true', Bool.not_eq_false', decide_eq_true_eq, decide_eq_false_iff_not] at hg; omega)) (by omega)) (by simp)) rfl ?_
      refine QD.gF2 rfl rfl (fun hg0 hg => LU.load ⟨Try.sizeOf9, Try.isAgg9⟩ (by exact Is.whenE (by rw [hg0, hg]; rfl)) (by (simp; done)) (Part.one rfl)) rfl ?_
      refine QD.gF2 rfl rfl (fun hg0 hg => LU.strlenN Try.underlying9 (by exact Is.whenE (by rw [hg0, hg]; rfl))) rfl ?_
      refine QD.gF2 rfl rfl (fun hg0 hg => LU.gtr (by exact Is.whenE (by rw [hg0, hg]; rfl)) (by exact Is.whenE (by rw [hg0, hg]; rfl))) rfl ?_
      refine QD.gT rfl rfl (fun hg => LU.pickOr (by exact Is.whenE hg) (by exact Is.rfl') (fun hq => (by exact Is.whenE (by rw [hg, hq]; rfl)))) rfl ?_
      refine QD.u (LU.pickAnd Is.rfl' (fun hq => (by exact Is.whenE hq)) Is.rfl') rfl ?_
      refine QD.nil ?_
      refine LL.nil (after_code ?_)
      refine X.cond rfl (fun h5 => ?_) (fun h5 => ?_)
      · have hb := best_hit h5
        refine LW.region ?_
        refine X.u (LU.moveR Is.rfl') rfl ?_
        refine X.u (LU.assignR Is.rfl') rfl ?_
        refine LL.nil (after_blk (after_code ?_))
        refine LW.region ?_
        refine X.u (LU.moveR Is.rfl') rfl ?_
        refine X.u (LU.addN Is.rfl' Is.rfl' (wrap_i64 (by omega) (by omega))) rfl ?_
        refine X.u (LU.assignR Is.rfl') rfl ?_
        refine LL.nil (after_rnd ?_)
        refine X.next (i + 1) rfl (EnvLe.cons (by rfl) (EnvLe.cons (by exact raw_int (by omega)) (EnvLe.nil))) (Keeps.cons (by exact Eq.trans (b := .sl _ _ _) rfl rfl) (Keeps.cons (by exact Eq.trans (b := .raw _) rfl rfl) (Keeps.cons (by exact Eq.trans (b := .raw _) rfl rfl) (Keeps.nil)))) (HSub.refl _) ?_ ?_
        · omega
        · omega
      · have hb := best_miss h5
        refine LW.skip (after_blk (after_code ?_))
        refine LW.region ?_
        refine X.u (LU.moveR Is.rfl') rfl ?_
        refine X.u (LU.addN Is.rfl' Is.rfl' (wrap_i64 (by omega) (by omega))) rfl ?_
        refine X.u (LU.assignR Is.rfl') rfl ?_
        refine LL.nil (after_rnd ?_)
        refine X.next (i + 1) rfl (EnvLe.cons (by rfl) (EnvLe.cons (by exact raw_int (by omega)) (EnvLe.nil))) (Keeps.cons (by exact Eq.trans (b := .sl _ _ _) rfl rfl) (Keeps.cons (by exact Eq.trans (b := .raw _) rfl rfl) (Keeps.cons (by exact Eq.trans (b := .raw _) rfl rfl) (Keeps.nil)))) (HSub.refl _) ?_ ?_
        · omega
        · omega
    · try have h3 := of_decide_eq_false h3
      obtain rfl : i = ps.length := by omega
      refine LW.exit (exit_code (exit_rnd (exit_blk (after_code ?_))))
      refine LW.seq ?_
      refine LW.region ?_
      refine X.u (LU.moveR Is.rfl') rfl ?_
      refine X.u (LU.assignR Is.rfl') rfl ?_
      refine LL.nil (after_code ?_)
      refine LW.ret (after_end ?_)
      refine X.ret (H' := []) (Res.one (by exact IsR rfl)) (by repeat (exact HSub.refl _)) ?_
      exact ⟨rfl, rfl⟩
set_option maxRecDepth 100000 in
theorem lives_calls : LCalls Try.prog 8 [] [] (fun r H' => r = bl true ∧ H' = []) := by
  refine LCalls.of Try.func8 rfl Try.ntmps8 Try.results8 rfl (fun Rf => ?_)
  refine LW.seq ?_
  refine LW.region ?_
  refine X.u (LU.assignR Is.rfl') rfl ?_
  refine LL.nil (after_code ?_)
  refine LW.seq ?_
  refine LW.region ?_
  refine X.u (LU.weak (LU.call (covers_calls [97, 47, 98] [97, 47, 98, 47, 99]) Try.func15 rfl rfl (Opds.cons Is.rfl' (Opds.cons Is.rfl' Opds.nil))) (asB (c := true) rfl (by decide +kernel))) rfl ?_
  refine X.u (LU.moveR Is.rfl') rfl ?_
  refine X.doT rfl rfl (LU.weak (LU.call (covers_calls [97, 47, 98] [97, 47, 98, 99]) Try.func15 rfl rfl (Opds.cons (by exact Is.rfl') (Opds.cons (by exact Is.rfl') Opds.nil))) (asB (c := false) rfl (by decide +kernel))) rfl ?_
  refine X.doT rfl rfl (LU.not (by exact Is.rfl')) rfl ?_
  refine X.u (LU.pickT Is.rfl' (by exact Is.rfl')) rfl ?_
  refine X.u (LU.moveR Is.rfl') rfl ?_
  refine X.doT rfl rfl (LU.lits Try.underlying24 Try.sizeOf9 Try.zeroValue9 (ones rfl) rfl (by decide) (by decide) (Elems.cons (by exact Is.rfl') (by exact Cells.raw rfl) (Elems.cons (by exact Is.rfl') (by exact Cells.raw rfl) (Elems.cons (by exact Is.rfl') (by exact Cells.raw rfl) (Elems.cons (by exact Is.rfl') (by exact Cells.raw rfl) Elems.nil)))) (by (simp; done)) rfl) rfl ?_
  refine X.doT rfl rfl (LU.call (longest_calls [[], [97], [97, 47, 98], [97]] [97, 47, 120] .full (by decide)) Try.func13 rfl rfl (Opds.cons (by exact Is.rfl') (Opds.cons (by exact Is.rfl') Opds.nil))) rfl ?_
  refine X.doT rfl rfl (LU.weak (LU.eql (by exact Is.rfl') (by exact Is.rfl')) (asB (c := true) rfl (by decide +kernel))) rfl ?_
  refine X.u (LU.pickT Is.rfl' (by exact Is.rfl')) rfl ?_
  refine X.u (LU.moveR Is.rfl') rfl ?_
  refine X.doT rfl rfl (LU.weak (LU.call (name_calls [97, 45, 49] (by decide)) Try.func9 rfl rfl (Opds.cons (by exact Is.rfl') Opds.nil)) (asB (c := true) rfl (by decide +kernel))) rfl ?_
  refine X.u (LU.pickT Is.rfl' (by exact Is.rfl')) rfl ?_
  refine X.u (LU.moveR Is.rfl') rfl ?_
  refine X.u (LU.pickT Is.rfl' (by exact Is.rfl')) rfl ?_
  refine X.u (LU.moveR Is.rfl') rfl ?_
  refine X.u (LU.pickT Is.rfl' (by exact Is.rfl')) rfl ?_
  refine X.u (LU.moveR Is.rfl') rfl ?_
  refine X.u (LU.pickT Is.rfl' (by exact Is.rfl')) rfl ?_
  refine X.u (LU.assignR Is.rfl') rfl ?_
  refine LL.nil (after_code ?_)
  refine LW.ret (after_end ?_)
  refine X.ret (H' := []) (Res.one (by exact IsR rfl)) (by repeat (exact HSub.refl _)) ?_
  exact ⟨rfl, rfl⟩
set_option maxRecDepth 100000 in
theorem NamesTells_row (s : List UInt8) (hs : s.length ≤ reachBytes) : LCalls Try.prog 3 [Str s] [] (fun r _ => r = .raw (.bool true)) := by
  have hr : reachBytes < 1099511627776 * 1024 := by decide
  refine LCalls.of Try.func3 rfl Try.ntmps3 Try.results3 rfl (fun Rf => ?_)
  refine LW.seq ?_
  refine LW.region ?_
  refine X.u (LU.assignR Is.rfl') rfl ?_
  refine LL.nil (after_code ?_)
  refine LW.seq ?_
  refine LW.seq ?_
  refine LW.region ?_
  refine X.u (LU.moveR Is.rfl') rfl ?_
  refine X.u (LU.strlenN Try.underlying9 Is.rfl') rfl ?_
  refine X.u (LU.gtr Is.rfl' Is.rfl') rfl ?_
  refine LL.nil (after_code ?_)
  refine X.cond rfl (fun h1 => ?_) (fun h1 => ?_)
  · try have h1 := of_decide_eq_true h1
    refine LW.seq ?_
    refine LW.region ?_
    refine X.u (LU.call (lives_calls) Try.func8 rfl rfl Opds.nil) rfl ?_
    refine X.u (LU.assignR Is.rfl') rfl ?_
    refine LL.nil (after_code ?_)
    refine LW.ret (ret_code (after_end ?_))
    refine X.ret (H' := []) (Res.one (by exact IsR rfl)) (by repeat (exact HSub.refl _)) ?_
    exact rfl
  · try have h1 := of_decide_eq_false h1
    refine LW.skip (after_code ?_)
    refine LW.seq ?_
    refine LW.region ?_
    refine X.u (LU.moveR Is.rfl') rfl ?_
    refine X.u (LU.call (name_calls s (by omega)) Try.func9 rfl rfl (Opds.cons Is.rfl' Opds.nil)) rfl ?_
    refine X.u (LU.moveR Is.rfl') rfl ?_
    refine X.u (LU.call (rname_calls s (by omega)) Try.func10 rfl rfl (Opds.cons Is.rfl' Opds.nil)) rfl ?_
    refine X.u (LU.weak (LU.booleq Try.underlying4 Is.rfl' Is.rfl') (asB (c := true) rfl (by simp))) rfl ?_
    refine X.u (LU.moveR Is.rfl') rfl ?_
    refine X.doT rfl rfl (LU.moveR (by exact Is.rfl')) rfl ?_
    refine X.doT rfl rfl (LU.call (path_calls s) Try.func11 rfl rfl (Opds.cons (by exact Is.rfl') Opds.nil)) rfl ?_
    refine X.doT rfl rfl (LU.moveR (by exact Is.rfl')) rfl ?_
    refine X.doT rfl rfl (LU.call (rpath_calls s) Try.func12 rfl rfl (Opds.cons (by exact Is.rfl') Opds.nil)) rfl ?_
    refine X.doT rfl rfl (LU.weak (LU.booleq Try.underlying4 (by exact Is.rfl') (by exact Is.rfl')) (asB (c := true) rfl (by simp))) rfl ?_
    refine X.u (LU.pickT Is.rfl' (by exact Is.rfl')) rfl ?_
    refine X.u (LU.moveR Is.rfl') rfl ?_
    refine X.doT rfl rfl (LU.call (lives_calls) Try.func8 rfl rfl Opds.nil) rfl ?_
    refine X.u (LU.pickT Is.rfl' (by exact Is.rfl')) rfl ?_
    refine X.u (LU.assignR Is.rfl') rfl ?_
    refine LL.nil (after_code ?_)
    refine LW.ret (after_end ?_)
    refine X.ret (H' := []) (Res.one (by exact IsR rfl)) (by repeat (exact HSub.refl _)) ?_
    exact rfl
end Go.Proofs.Ytcemodldbfiomaa
