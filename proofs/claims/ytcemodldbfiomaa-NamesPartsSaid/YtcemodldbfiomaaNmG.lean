/- To cover is an order; the longest prefix is one. -/
import Derived.Test.YtcemodldbfiomaaNmF
set_option linter.unusedVariables false
set_option linter.unusedSimpArgs false
namespace Go.Proofs.Ytcemodldbfiomaa
open Go.RowKit Go.L
attribute [local irreducible] LL LW LO
theorem path_nil : pathB [] = false := by decide
theorem under_trans : ∀ (a b c : List UInt8), under a b = true → under b c = true → under a c = true := fun a b c h1 h2 => by
  rw [under_splits, List.isPrefixOf_iff_prefix] at *
  exact h1.trans h2
theorem under_anti : ∀ (a b : List UInt8), under a b = true → under b a = true → a = b
  | [], [], _, _ => rfl
  | [], d :: b, _, h => by simp [under] at h
  | c :: a, [], h, _ => by simp [under] at h
  | c :: a, d :: b, h1, h2 => by
    simp only [under, Bool.and_eq_true, decide_eq_true_eq] at h1 h2
    rw [h1.1, under_anti a b h1.2 h2.2]
theorem under_self : ∀ (a : List UInt8), under a a = true
  | [] => rfl
  | c :: a => by simp [under, under_self a]
theorem cov_iff {p s : List UInt8} : coversB p s = true ↔ pathB s = true ∧ (p = [] ∨ (pathB p = true ∧ under p s = true)) := by
  simp [coversB]
theorem cov_trans (a b c : List UInt8) : ((coversB a b && coversB b c) && !coversB a c) = false := by
  rw [Bool.eq_false_iff]
  intro h
  simp only [Bool.and_eq_true, Bool.not_eq_true', cov_iff] at h
  obtain ⟨⟨⟨hb, h1⟩, hc, h2⟩, h3⟩ := h
  rw [Bool.eq_false_iff] at h3
  refine h3 (cov_iff.2 ⟨hc, ?_⟩)
  rcases h1 with h1 | ⟨ha, h1⟩
  · exact .inl h1
  · rcases h2 with h2 | ⟨_, h2⟩
    · rw [h2, path_nil] at hb; cases hb
    · exact .inr ⟨ha, under_trans a b c h1 h2⟩
theorem cov_anti (a b : List UInt8) : ((coversB a b && coversB b a) && decide (a ≠ b)) = false := by
  rw [Bool.eq_false_iff]
  intro h
  simp only [Bool.and_eq_true, decide_eq_true_eq, cov_iff] at h
  obtain ⟨⟨⟨hb, h1⟩, ha, h2⟩, h3⟩ := h
  have na : a ≠ [] := fun h => by rw [h, path_nil] at ha; cases ha
  have nb : b ≠ [] := fun h => by rw [h, path_nil] at hb; cases hb
  rcases h1 with h1 | ⟨_, h1⟩
  · exact na h1
  · rcases h2 with h2 | ⟨_, h2⟩
    · exact nb h2
    · exact h3 (under_anti a b h1 h2)
theorem cov_self (a : List UInt8) : coversB a a = pathB a := by
  unfold coversB
  rw [under_self]
  cases h : pathB a <;> simp
theorem cov_nil (a : List UInt8) : coversB [] a = pathB a := by simp [coversB]
set_option maxRecDepth 100000 in
theorem NamesOrder_row (a b c : List UInt8) (ha : a.length ≤ reachBytes) (hb : b.length ≤ reachBytes) (hc : c.length ≤ reachBytes) : LCalls Try.prog 5 [Str a, Str b, Str c] [] (fun r _ => r = .raw (.bool true)) := by
  have hr : reachBytes < 1099511627776 * 1024 := by decide
  refine LCalls.of Try.func5 rfl Try.ntmps5 Try.results5 rfl (fun Rf => ?_)
  refine LW.seq ?_
  refine LW.region ?_
  refine X.u (LU.assignR Is.rfl') rfl ?_
  refine LL.nil (after_code ?_)
  refine LW.seq ?_
  refine LW.seq ?_
  refine LW.region ?_
  refine X.u (LU.moveR Is.rfl') rfl ?_
  refine X.u (LU.strlenN Try.underlying9 Is.rfl') rfl ?_
  refine X.u (LU.moveR Is.rfl') rfl ?_
  refine X.u (LU.strlenN Try.underlying9 Is.rfl') rfl ?_
  refine X.u (LU.addN Is.rfl' Is.rfl' (wrap_i64 (by omega) (by omega))) rfl ?_
  refine X.u (LU.moveR Is.rfl') rfl ?_
  refine X.u (LU.strlenN Try.underlying9 Is.rfl') rfl ?_
  refine X.u (LU.addN Is.rfl' Is.rfl' (wrap_i64 (by omega) (by omega))) rfl ?_
  refine X.u (LU.gtr Is.rfl' Is.rfl') rfl ?_
  refine LL.nil (after_code ?_)
  refine X.cond rfl (fun h1 => ?_) (fun h1 => ?_)
  · try have h1 := of_decide_eq_true h1
    refine LW.seq ?_
    refine LW.region ?_
    refine X.u (LU.call (lives_calls) Try.func8 rfl rfl Opds.nil) rfl ?_
    refine X.u (LU.assignR Is.rfl') rfl ?_
    refine LL.nil (after_code ?_)
    refine LW.ret (ret_code (after_end ?_))
    refine X.ret (H' := []) (Res.one (by exact IsR rfl)) (by repeat (exact HSub.refl _)) ?_
    exact rfl
  · try have h1 := of_decide_eq_false h1
    refine LW.skip (after_code ?_)
    refine LW.seq ?_
    refine LW.seq ?_
    refine LW.region ?_
    refine X.u (LU.moveR Is.rfl') rfl ?_
    refine X.u (LU.moveR Is.rfl') rfl ?_
    refine X.u (LU.call (covers_calls a b) Try.func15 rfl rfl (Opds.cons Is.rfl' (Opds.cons Is.rfl' Opds.nil))) rfl ?_
    refine X.u (LU.moveR Is.rfl') rfl ?_
    refine X.gT rfl rfl (fun hg => LU.moveR (by exact Is.rfl')) rfl ?_
    refine X.gT rfl rfl (fun hg => LU.moveR (by exact Is.rfl')) rfl ?_
    refine X.gT rfl rfl (fun hg => LU.call (covers_calls b c) Try.func15 rfl rfl (Opds.cons (by exact Is.whenE hg) (Opds.cons (by exact Is.whenE hg) Opds.nil))) rfl ?_
    refine X.u (LU.pickAnd Is.rfl' (fun hq => (by exact Is.whenE hq)) Is.rfl') rfl ?_
    refine X.u (LU.moveR Is.rfl') rfl ?_
    refine X.gT rfl rfl (fun hg => LU.moveR (by exact Is.rfl')) rfl ?_
    refine X.gT rfl rfl (fun hg => LU.moveR (by exact Is.rfl')) rfl ?_
    refine X.gT rfl rfl (fun hg => LU.call (covers_calls a c) Try.func15 rfl rfl (Opds.cons (by exact Is.whenE hg) (Opds.cons (by exact Is.whenE hg) Opds.nil))) rfl ?_
    refine X.gT rfl rfl (fun hg => LU.not (by exact Is.whenE hg)) rfl ?_
    refine X.u (LU.pickAnd Is.rfl' (fun hq => (by exact Is.whenE hq)) Is.rfl') rfl ?_
    refine LL.nil (after_code ?_)
    refine X.condF rfl ?_ ?_
    · exact cov_trans a b c
    refine LW.skip (after_code ?_)
    refine LW.seq ?_
    refine LW.seq ?_
    refine LW.region ?_
    refine X.u (LU.moveR Is.rfl') rfl ?_
    refine X.u (LU.moveR Is.rfl') rfl ?_
    refine X.u (LU.call (covers_calls a b) Try.func15 rfl rfl (Opds.cons Is.rfl' (Opds.cons Is.rfl' Opds.nil))) rfl ?_
    refine X.u (LU.moveR Is.rfl') rfl ?_
    refine X.gT rfl rfl (fun hg => LU.moveR (by exact Is.rfl')) rfl ?_
    refine X.gT rfl rfl (fun hg => LU.moveR (by exact Is.rfl')) rfl ?_
    refine X.gT rfl rfl (fun hg => LU.call (covers_calls b a) Try.func15 rfl rfl (Opds.cons (by exact Is.whenE hg) (Opds.cons (by exact Is.whenE hg) Opds.nil))) rfl ?_
    refine X.u (LU.pickAnd Is.rfl' (fun hq => (by exact Is.whenE hq)) Is.rfl') rfl ?_
    refine X.u (LU.moveR Is.rfl') rfl ?_
    refine X.gT rfl rfl (fun hg => LU.moveR (by exact Is.rfl')) rfl ?_
    refine X.gT rfl rfl (fun hg => LU.moveR (by exact Is.rfl')) rfl ?_
    refine X.gT rfl rfl (fun hg => LU.strneN (by exact Is.whenE hg) (by exact Is.whenE hg)) rfl ?_
    refine X.u (LU.pickAnd Is.rfl' (fun hq => (by exact Is.whenE hq)) Is.rfl') rfl ?_
    refine LL.nil (after_code ?_)
    refine X.condF rfl ?_ ?_
    · exact cov_anti a b
    refine LW.skip (after_code ?_)
    refine LW.seq ?_
    refine LW.region ?_
    refine X.u (LU.moveR Is.rfl') rfl ?_
    refine X.u (LU.moveR Is.rfl') rfl ?_
    refine X.u (LU.call (covers_calls a a) Try.func15 rfl rfl (Opds.cons Is.rfl' (Opds.cons Is.rfl' Opds.nil))) rfl ?_
    refine X.u (LU.moveR Is.rfl') rfl ?_
    refine X.u (LU.call (path_calls a) Try.func11 rfl rfl (Opds.cons Is.rfl' Opds.nil)) rfl ?_
    refine X.u (LU.weak (LU.booleq Try.underlying4 Is.rfl' Is.rfl') (asB (c := true) rfl (by rw [cov_self]; simp))) rfl ?_
    refine X.u (LU.moveR Is.rfl') rfl ?_
    refine X.doT rfl rfl (LU.moveR (by exact Is.rfl')) rfl ?_
    refine X.doT rfl rfl (LU.call (covers_calls [] c) Try.func15 rfl rfl (Opds.cons (by exact Is.rfl') (Opds.cons (by exact Is.rfl') Opds.nil))) rfl ?_
    refine X.doT rfl rfl (LU.moveR (by exact Is.rfl')) rfl ?_
    refine X.doT rfl rfl (LU.call (path_calls c) Try.func11 rfl rfl (Opds.cons (by exact Is.rfl') Opds.nil)) rfl ?_
    refine X.doT rfl rfl (LU.weak (LU.booleq Try.underlying4 (by exact Is.rfl') (by exact Is.rfl')) (asB (c := true) rfl (by rw [cov_nil]; simp))) rfl ?_
    refine X.u (LU.pickT Is.rfl' (by exact Is.rfl')) rfl ?_
    refine X.u (LU.moveR Is.rfl') rfl ?_
    refine X.doT rfl rfl (LU.call (lives_calls) Try.func8 rfl rfl Opds.nil) rfl ?_
    refine X.u (LU.pickT Is.rfl' (by exact Is.rfl')) rfl ?_
    refine X.u (LU.assignR Is.rfl') rfl ?_
    refine LL.nil (after_code ?_)
    refine LW.ret (after_end ?_)
    refine X.ret (H' := []) (Res.one (by exact IsR rfl)) (by repeat (exact HSub.refl _)) ?_
    exact rfl
theorem best_max (ps : List (List UInt8)) (s : List UInt8) : ∀ n i, i < n → coversB (ps.getD i []) s = true → 0 ≤ bestN ps s n ∧ (((ps.getD i []).length : Int) < (ps.getD (bestN ps s n).toNat []).length ∨ (((ps.getD i []).length : Int) = (ps.getD (bestN ps s n).toNat []).length ∧ bestN ps s n ≤ i))
  | 0, i, h, _ => absurd h (Nat.not_lt_zero _)
  | n + 1, i, h, hc => by
    have hlt := best_lt ps s n
    by_cases hin : i < n
    · obtain ⟨h0, h1⟩ := best_max ps s n i hin hc
      unfold bestN
      split
      · rename_i hh
        simp only [Bool.and_eq_true, Bool.or_eq_true, decide_eq_true_eq] at hh
        rw [Int.toNat_natCast]
        refine ⟨by omega, .inl ?_⟩
        omega
      · exact ⟨h0, h1⟩
    · obtain rfl : i = n := by omega
      unfold bestN
      split
      · rename_i hh
        rw [Int.toNat_natCast]
        exact ⟨by omega, .inr ⟨rfl, Int.le_refl _⟩⟩
      · rename_i hh
        simp only [hc, Bool.true_and, Bool.or_eq_true, decide_eq_true_eq] at hh
        refine ⟨by omega, ?_⟩
        omega
theorem best_cov (ps : List (List UInt8)) (s : List UInt8) : ∀ n, 0 ≤ bestN ps s n → coversB (ps.getD (bestN ps s n).toNat []) s = true
  | 0, h => by simp [bestN] at h
  | n + 1, h => by
    unfold bestN at h ⊢
    split
    · rename_i hh
      simp only [Bool.and_eq_true] at hh
      rw [Int.toNat_natCast]
      exact hh.1
    · rename_i hh
      rw [if_neg hh] at h
      exact best_cov ps s n h
theorem best_no (ps : List (List UInt8)) (s : List UInt8) {n i : Nat} (h : i < n) : (coversB (ps.getD i []) s && ((decide (bestN ps s n < 0) || decide (((ps.getD (bestN ps s n).toNat []).length : Int) < (ps.getD i []).length)) || (decide (((ps.getD i []).length : Int) = (ps.getD (bestN ps s n).toNat []).length) && decide ((i : Int) < bestN ps s n)))) = false := by
  cases hc : coversB (ps.getD i []) s with
  | false => rfl
  | true =>
    have := best_max ps s n i h hc
    simp only [Bool.true_and, Bool.or_eq_false_iff, Bool.and_eq_false_imp, decide_eq_false_iff_not, decide_eq_true_eq]
    omega
theorem best_end (ps : List (List UInt8)) (s : List UInt8) (n : Nat) : (decide (bestN ps s n < 0) || coversB (ps.getD (bestN ps s n).toNat []) s) = true := by
  by_cases h : bestN ps s n < 0
  · simp [h]
  · rw [best_cov ps s n (by omega)]; simp
set_option maxRecDepth 100000 in
theorem nl_calls (ps : List (List UInt8)) (s : List UInt8) (k : Cap) (hp : ps.length < 1099511627776 * 1024) (hs : s.length ≤ reachBytes) : LCalls Try.prog 4 [Strs ps k, Str s] [] (fun r _ => r = .raw (.bool true)) := by
  have hr : reachBytes < 1099511627776 * 1024 := by decide
  refine LCalls.of Try.func4 rfl Try.ntmps4 Try.results4 rfl (fun Rf => ?_)
  refine LW.seq ?_
  refine LW.region ?_
  refine X.u (LU.assignR Is.rfl') rfl ?_
  refine LL.nil (after_code ?_)
  refine LW.seq ?_
  refine LW.seq ?_
  refine LW.region ?_
  refine X.u (LU.moveS Is.rfl') rfl ?_
  refine X.u (LU.lenN Try.underlying24 Is.rfl' (by (simp only [Option.getD_some, Option.getD_none, byteEls_length, intEls_length, List.length_append, List.length_cons, List.length_nil, List.length_map, List.length_drop, List.length_take, Int.toNat_natCast]; rfl))) rfl ?_
  refine X.u (LU.gtr Is.rfl' Is.rfl') rfl ?_
  refine X.u (LU.moveR Is.rfl') rfl ?_
  refine X.gF rfl rfl (fun hg => LU.moveR (by exact Is.rfl')) rfl ?_
  refine X.gF rfl rfl (fun hg => LU.strlenN Try.underlying9 (by exact Is.whenN hg)) rfl ?_
  refine X.gF rfl rfl (fun hg => LU.gtr (by exact Is.whenN hg) (by exact Is.rfl')) rfl ?_
  refine X.u (LU.pickOr Is.rfl' Is.rfl' (fun hq => (by exact Is.whenN hq))) rfl ?_
  refine LL.nil (after_code ?_)
  refine X.cond rfl (fun h1 => ?_) (fun h1 => ?_)
  · try have h1 := of_decide_eq_true h1
    refine LW.seq ?_
    refine LW.region ?_
    refine X.u (LU.call (lives_calls) Try.func8 rfl rfl Opds.nil) rfl ?_
    refine X.u (LU.assignR Is.rfl') rfl ?_
    refine LL.nil (after_code ?_)
    refine LW.ret (ret_code (after_end ?_))
    refine X.ret (H' := []) (Res.one (by exact IsR rfl)) (by repeat (exact HSub.refl _)) ?_
    exact rfl
  · try have h1 := of_decide_eq_false h1
    refine LW.skip (after_code ?_)
    refine LW.seq ?_
    have hp2 : ps.length ≤ 100 := by simp at h1; omega
    obtain ⟨hb1, hb2⟩ := best_lt ps s ps.length
    refine LW.region ?_
    refine X.u (LU.lits Try.underlying24 Try.sizeOf9 Try.zeroValue9 (ones rfl) rfl (by decide) (by decide) Elems.nil (by intro e he; cases he) rfl) rfl ?_
    refine X.u (LU.moveS Is.rfl') rfl ?_
    refine X.u (LU.append Try.underlying24 (El.of (P := Try.prog) (z := (.string ByteArray.empty)) (size := 1) (bytes := 16) rfl rfl rfl) Is.rfl' Is.rfl' (SrcL.slice Try.underlying24 (by decide) (by simp)) (by simp only [Option.getD_some, Option.getD_none, byteEls_length, intEls_length, List.length_append, List.length_cons, List.length_nil, List.length_map, List.length_drop, List.length_take, Int.toNat_natCast]; omega) (by simp only [Option.getD_some, Option.getD_none, byteEls_length, intEls_length, List.length_append, List.length_cons, List.length_nil, List.length_map, List.length_drop, List.length_take, Int.toNat_natCast]; omega)) rfl ?_
    refine X.u (LU.moveR Is.rfl') rfl ?_
    refine X.u (LU.call (longest_calls ps s _ (by omega)) Try.func13 rfl rfl (Opds.cons Is.rfl' (Opds.cons Is.rfl' Opds.nil))) rfl ?_
    refine X.u (LU.assignR Is.rfl') rfl ?_
    refine LL.nil (after_code ?_)
    refine LW.seq ?_
    refine LW.seq ?_
    refine LW.region ?_
    refine X.u (LU.moveR Is.rfl') rfl ?_
    refine X.u (LU.moveS Is.rfl') rfl ?_
    refine X.u (LU.moveR Is.rfl') rfl ?_
    refine X.u (LU.call (rlongest_calls ps s k (by omega)) Try.func14 rfl rfl (Opds.cons Is.rfl' (Opds.cons Is.rfl' Opds.nil))) rfl ?_
    refine X.u (LU.weak (LU.neq Is.rfl' Is.rfl') (asB (c := false) rfl (by simp))) rfl ?_
    refine X.u (LU.moveR Is.rfl') rfl ?_
    refine X.doF rfl rfl (LU.moveR (by exact Is.rfl')) rfl ?_
    refine X.doF rfl rfl (LU.moveS (by exact Is.rfl')) rfl ?_
    refine X.doF rfl rfl (LU.lenN Try.underlying24 (by exact Is.rfl') (by (simp only [Option.getD_some, Option.getD_none, byteEls_length, intEls_length, List.length_append, List.length_cons, List.length_nil, List.length_map, List.length_drop, List.length_take, Int.toNat_natCast]; rfl))) rfl ?_
    refine X.doF rfl rfl (LU.weak (LU.geq (by exact Is.rfl') (by exact Is.rfl')) (asB (c := false) rfl (by simp; omega))) rfl ?_
    refine X.u (LU.pickF Is.rfl' (by exact Is.rfl')) rfl ?_
    refine X.u (LU.moveR Is.rfl') rfl ?_
    refine X.doF rfl rfl (LU.moveR (by exact Is.rfl')) rfl ?_
    refine X.doF rfl rfl (LU.weak (LU.lss (by exact Is.rfl') (by exact Is.rfl')) (asB (c := false) rfl (by simp; omega))) rfl ?_
    refine X.u (LU.pickF Is.rfl' (by exact Is.rfl')) rfl ?_
    refine LL.nil (after_code ?_)
    refine X.condF rfl ?_ ?_
    · rfl
    refine LW.skip (after_code ?_)
    refine LW.seq ?_
    refine LW.seq ?_
    refine LW.region ?_
    refine X.u (LU.moveS Is.rfl') rfl ?_
    refine X.u (LU.lenN Try.underlying24 Is.rfl' (by (simp only [Option.getD_some, Option.getD_none, byteEls_length, intEls_length, List.length_append, List.length_cons, List.length_nil, List.length_map, List.length_drop, List.length_take, Int.toNat_natCast]; rfl))) rfl ?_
    refine X.u (LU.moveR Is.rfl') rfl ?_
    refine LL.nil (after_code ?_)
    refine LW.block ?_
    refine X.loopK (α := Nat) (fun i => [(39, i64 i)]) [0, 1, 5, 37, 38] (fun _ => _) (fun i => i ≤ ps.length) (fun i => ps.length - i) (0) (EnvLe.cons (by rfl) (EnvLe.nil)) (HSub.refl _) ?_ ?_
    · exact Nat.zero_le _
    · rintro i hI
      refine LW.seq ?_
      refine LW.region ?_
      refine X.u (LU.lss Is.rfl' Is.rfl') rfl ?_
      refine LL.nil (after_code ?_)
      refine LW.seq ?_
      refine X.cond rfl (fun h7 => ?_) (fun h7 => ?_)
      · try have h7 := of_decide_eq_true h7
        refine LW.skip (after_code ?_)
        refine LW.seq ?_
        refine LW.block ?_
        refine LW.seq ?_
        refine LW.region ?_
        refine X.u (LU.moveR Is.rfl') rfl ?_
        refine X.u (LU.at Try.underlying24 ⟨Try.sizeOf9, Try.isAgg9⟩ Is.rfl' Is.rfl' (by omega) (strEls_at (by omega)) (by simp)) rfl ?_
        refine X.u (LU.load ⟨Try.sizeOf9, Try.isAgg9⟩ Is.rfl' (by (simp; done)) (Part.one rfl)) rfl ?_
        refine X.u (LU.assignR Is.rfl') rfl ?_
        refine X.u (LU.assignR Is.rfl') rfl ?_
        refine LL.nil (after_code ?_)
        refine LW.seq ?_
        refine LW.region ?_
        refine X.u (LU.moveR Is.rfl') rfl ?_
        refine X.u (LU.moveR Is.rfl') rfl ?_
        refine X.u (LU.call (covers_calls _ s) Try.func15 rfl rfl (Opds.cons Is.rfl' (Opds.cons Is.rfl' Opds.nil))) rfl ?_
        refine X.u (LU.moveR Is.rfl') rfl ?_
        refine X.gT rfl rfl (fun hg => LU.moveR (by exact Is.rfl')) rfl ?_
        refine X.gT rfl rfl (fun hg => LU.lss (by exact Is.whenE hg) (by exact Is.rfl')) rfl ?_
        refine X.gT rfl rfl (fun hg => LU.moveR (by exact Is.whenE hg)) rfl ?_
        refine X.gF2 rfl rfl (fun hg0 hg => LU.moveR (by exact Is.rfl')) rfl ?_
        refine X.gF2 rfl rfl (fun hg0 hg => LU.strlenN Try.underlying9 (by exact Is.whenE (by rw [hg0, hg]; rfl))) rfl ?_
        refine X.gF2 rfl rfl (fun hg0 hg => LU.moveS (by exact Is.rfl')) rfl ?_
        refine X.gF2 rfl rfl (fun hg0 hg => LU.moveR (by exact Is.rfl')) rfl ?_
        refine X.gF2 rfl rfl (fun hg0 hg => LU.at Try.underlying24 ⟨Try.sizeOf9, Try.isAgg9⟩ (by exact Is.whenE (by rw [hg0, hg]; rfl)) (by exact Is.whenE (by rw [hg0, hg]; rfl)) (by (simp only [Bool.or_eq_false_iff, Bool.and_eq_true, Bool.or_eq_true, Bool.and_eq_false_imp, Bool.not_eq_true', Bool.not_eq_false', decide_eq_true_eq, decide_eq_false_iff_not] at hg; omega)) (strEls_atI (by (simp only [Bool.or_eq_false_iff, Bool.and_eq_true, Bool.or_eq_true, Bool.and_eq_false_imp, Bool.not_eq_true', Bool.not_eq_false', decide_eq_true_eq, decide_eq_false_iff_not] at hg; omega)) (by omega)) (by simp)) rfl ?_
        refine X.gF2 rfl rfl (fun hg0 hg => LU.load ⟨Try.sizeOf9, Try.isAgg9⟩ (by exact Is.whenE (by rw [hg0, hg]; rfl)) (by (simp; done)) (Part.one rfl)) rfl ?_
        refine X.gF2 rfl rfl (fun hg0 hg => LU.strlenN Try.underlying9 (by exact Is.whenE (by rw [hg0, hg]; rfl))) rfl ?_
        refine X.gF2 rfl rfl (fun hg0 hg => LU.gtr (by exact Is.whenE (by rw [hg0, hg]; rfl)) (by exact Is.whenE (by rw [hg0, hg]; rfl))) rfl ?_
        refine X.gT rfl rfl (fun hg => LU.pickOr (by exact Is.whenE hg) (by exact Is.rfl') (fun hq => (by exact Is.whenE (by rw [hg, hq]; rfl)))) rfl ?_
        refine X.gT rfl rfl (fun hg => LU.moveR (by exact Is.whenE hg)) rfl ?_
        refine X.gF2 rfl rfl (fun hg0 hg => LU.moveR (by exact Is.rfl')) rfl ?_
        refine X.gF2 rfl rfl (fun hg0 hg => LU.strlenN Try.underlying9 (by exact Is.whenE (by rw [hg0, hg]; rfl))) rfl ?_
        refine X.gF2 rfl rfl (fun hg0 hg => LU.moveS (by exact Is.rfl')) rfl ?_
        refine X.gF2 rfl rfl (fun hg0 hg => LU.moveR (by exact Is.rfl')) rfl ?_
        refine X.gF2 rfl rfl (fun hg0 hg => LU.at Try.underlying24 ⟨Try.sizeOf9, Try.isAgg9⟩ (by exact Is.whenE (by rw [hg0, hg]; rfl)) (by exact Is.whenE (by rw [hg0, hg]; rfl)) (by (simp only [Bool.or_eq_false_iff, Bool.and_eq_true, Bool.or_eq_true, Bool.and_eq_false_imp, Bool.not_eq_true', Bool.not_eq_false', decide_eq_true_eq, decide_eq_false_iff_not] at hg; omega)) (strEls_atI (by (simp only [Bool.or_eq_false_iff, Bool.and_eq_true, Bool.or_eq_true, Bool.and_eq_false_imp, Bool.not_eq_true', Bool.not_eq_false', decide_eq_true_eq, decide_eq_false_iff_not] at hg; omega)) (by omega)) (by simp)) rfl ?_
        refine X.gF2 rfl rfl (fun hg0 hg => LU.load ⟨Try.sizeOf9, Try.isAgg9⟩ (by exact Is.whenE (by rw [hg0, hg]; rfl)) (by (simp; done)) (Part.one rfl)) rfl ?_
        refine X.gF2 rfl rfl (fun hg0 hg => LU.strlenN Try.underlying9 (by exact Is.whenE (by rw [hg0, hg]; rfl))) rfl ?_
        refine X.gF2 rfl rfl (fun hg0 hg => LU.eql (by exact Is.whenE (by rw [hg0, hg]; rfl)) (by exact Is.whenE (by rw [hg0, hg]; rfl))) rfl ?_
        refine X.gF2 rfl rfl (fun hg0 hg => LU.moveR (by exact Is.whenE (by rw [hg0, hg]; rfl))) rfl ?_
        refine X.gT2 rfl rfl (fun hg0 hg => LU.moveR (by exact Is.rfl')) rfl ?_
        refine X.gT2 rfl rfl (fun hg0 hg => LU.moveR (by exact Is.rfl')) rfl ?_
        refine X.gT2 rfl rfl (fun hg0 hg => LU.lss (by exact Is.whenE (by rw [hg0, hg]; rfl)) (by exact Is.whenE (by rw [hg0, hg]; rfl))) rfl ?_
        refine X.gF2 rfl rfl (fun hg0 hg => LU.pickAnd (by exact Is.whenE (by rw [hg0, hg]; rfl)) (fun hq => (by exact Is.whenE (by rw [hg0, hg, hq]; rfl))) (by exact Is.rfl')) rfl ?_
        refine X.gT rfl rfl (fun hg => LU.pickOr (by exact Is.whenE hg) (by exact Is.rfl') (fun hq => (by exact Is.whenE (by rw [hg, hq]; rfl)))) rfl ?_
        refine X.u (LU.pickAnd Is.rfl' (fun hq => (by exact Is.whenE hq)) Is.rfl') rfl ?_
        refine LL.nil (after_code ?_)
        refine X.cond rfl (fun h9 => ?_) (fun h9 => ?_)
        · rw [best_no ps s (by omega)] at h9; cases h9
        · try have h9 := of_decide_eq_false h9
          refine LW.skip (after_blk (after_code ?_))
          refine LW.region ?_
          refine X.u (LU.addN Is.rfl' Is.rfl' (wrap_i64 (by omega) (by omega))) rfl ?_
          refine X.u (LU.moveR Is.rfl') rfl ?_
          refine LL.nil (after_rnd ?_)
          refine X.next (i + 1) rfl (EnvLe.cons (by rfl) (EnvLe.nil)) (Keeps.cons (by exact Eq.trans (b := .sl _ _ _) rfl rfl) (Keeps.cons (by exact Eq.trans (b := .raw _) rfl rfl) (Keeps.cons (by exact Eq.trans (b := .raw _) rfl rfl) (Keeps.cons (by exact Eq.trans (b := .sl _ _ _) rfl rfl) (Keeps.cons (by exact Eq.trans (b := .raw _) rfl rfl) (Keeps.nil)))))) (HSub.refl _) ?_ ?_
          · omega
          · omega
      · try have h7 := of_decide_eq_false h7
        refine LW.exit (exit_code (exit_rnd (exit_blk (after_code ?_))))
        refine LW.seq ?_
        refine LW.region ?_
        refine X.u (LU.moveR Is.rfl') rfl ?_
        refine X.u (LU.lss Is.rfl' Is.rfl') rfl ?_
        refine X.u (LU.moveR Is.rfl') rfl ?_
        refine X.gF rfl rfl (fun hg => LU.moveS (by exact Is.rfl')) rfl ?_
        refine X.gF rfl rfl (fun hg => LU.moveR (by exact Is.rfl')) rfl ?_
        refine X.gF rfl rfl (fun hg => LU.at Try.underlying24 ⟨Try.sizeOf9, Try.isAgg9⟩ (by exact Is.whenN hg) (by exact Is.whenN hg) (by (simp only [Bool.or_eq_false_iff, Bool.and_eq_true, Bool.or_eq_true, Bool.and_eq_false_imp, Bool.not_eq_true', Bool.not_eq_false', decide_eq_true_eq, decide_eq_false_iff_not] at hg; omega)) (strEls_atI (by (simp only [Bool.or_eq_false_iff, Bool.and_eq_true, Bool.or_eq_true, Bool.and_eq_false_imp, Bool.not_eq_true', Bool.not_eq_false', decide_eq_true_eq, decide_eq_false_iff_not] at hg; omega)) (by (simp only [Bool.or_eq_false_iff, Bool.and_eq_true, Bool.or_eq_true, Bool.and_eq_false_imp, Bool.not_eq_true', Bool.not_eq_false', decide_eq_true_eq, decide_eq_false_iff_not] at hg; omega))) (by simp)) rfl ?_
        refine X.gF rfl rfl (fun hg => LU.load ⟨Try.sizeOf9, Try.isAgg9⟩ (by exact Is.whenN hg) (by (simp; done)) (Part.one rfl)) rfl ?_
        refine X.gF rfl rfl (fun hg => LU.moveR (by exact Is.rfl')) rfl ?_
        refine X.gF rfl rfl (fun hg => LU.call (covers_calls _ s) Try.func15 rfl rfl (Opds.cons (by exact Is.whenN hg) (Opds.cons (by exact Is.whenN hg) Opds.nil))) rfl ?_
        refine X.u (LU.weak (LU.pickOr Is.rfl' Is.rfl' (fun hq => (by exact Is.whenN hq))) (asB (c := true) rfl (by exact best_end ps s _))) rfl ?_
        refine X.u (LU.moveR Is.rfl') rfl ?_
        refine X.doT rfl rfl (LU.call (lives_calls) Try.func8 rfl rfl Opds.nil) rfl ?_
        refine X.u (LU.pickT Is.rfl' (by exact Is.rfl')) rfl ?_
        refine X.u (LU.assignR Is.rfl') rfl ?_
        refine LL.nil (after_code ?_)
        refine LW.ret (after_end ?_)
        refine X.ret (H' := []) (Res.one (by exact IsR rfl)) (by repeat (exact HSub.refl _)) ?_
        exact rfl
end Go.Proofs.Ytcemodldbfiomaa
