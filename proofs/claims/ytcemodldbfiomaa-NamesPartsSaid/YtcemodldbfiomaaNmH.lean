/- A path's parent; just those cover a path that are empty, the path, or cover its parent. -/
import Derived.Test.YtcemodldbfiomaaNmG
import Derived.Test.YtcemodldbfiomaaLogR
set_option linter.unusedVariables false
set_option linter.unusedSimpArgs false
namespace Go.Proofs.Ytcemodldbfiomaa
open Go.RowKit Go.L
attribute [local irreducible] LL LW LO
theorem strs_of : ∀ (es : List (List LV)), (∀ c ∈ es, QStr c) → ∃ ps : List (List UInt8), es = strEls ps ∧ ∀ p ∈ ps, p.length ≤ reachBytes
  | [], _ => ⟨[], rfl, by simp⟩
  | e :: es, h => by
    obtain ⟨l, h1, h2⟩ := h e (by simp)
    obtain ⟨ps, h3, h4⟩ := strs_of es (fun c hc => h c (by simp [hc]))
    exact ⟨l :: ps, by rw [h1, h3]; rfl, by simpa using ⟨h2, h4⟩⟩
theorem NamesLongest_row (es : List (List LV)) (s : List UInt8) (hq : ∀ c ∈ es, QStr c) (hb : es.length * 16 ≤ reachBytes) (hs : s.length ≤ reachBytes) : LCalls Try.prog 4 [.sl 1 es .unk, Str s] [] (fun r _ => r = .raw (.bool true)) := by
  obtain ⟨ps, rfl, _⟩ := strs_of es hq
  have hr : reachBytes < 1099511627776 * 1024 := by decide
  exact nl_calls ps s .unk (by simp at hb; omega) hs
/-- The place of the last slash among the first bytes, -1 if there is none. -/
def lastN (s : List UInt8) : Nat → Int
  | 0 => -1
  | n + 1 => if ((s.getD n 0).toNat : Int) = 47 then n else lastN s n
theorem last_ge (s : List UInt8) : ∀ n, -1 ≤ lastN s n ∧ lastN s n < n
  | 0 => by simp [lastN]
  | n + 1 => by
    have := last_ge s n
    unfold lastN
    split <;> omega
theorem last_none (s : List UInt8) : ∀ n, lastN s n < 0 → ∀ i, i < n → ((s.getD i 0).toNat : Int) ≠ 47
  | 0, _, i, hi => absurd hi (Nat.not_lt_zero _)
  | n + 1, h, i, hi => by
    unfold lastN at h
    split at h
    · omega
    · rename_i hn
      by_cases hin : i < n
      · exact last_none s n h i hin
      · obtain rfl : i = n := by omega
        exact hn
theorem last_some (s : List UInt8) : ∀ n (j : Nat), lastN s n = j → ((s.getD j 0).toNat : Int) = 47 ∧ ∀ i, j < i → i < n → ((s.getD i 0).toNat : Int) ≠ 47
  | 0, j, h => by unfold lastN at h; omega
  | n + 1, j, h => by
    unfold lastN at h
    split at h
    · rename_i hn
      obtain rfl : n = j := by omega
      exact ⟨hn, fun i h1 h2 => by omega⟩
    · rename_i hn
      obtain ⟨h1, h2⟩ := last_some s n j h
      refine ⟨h1, fun i h3 h4 => ?_⟩
      by_cases hin : i < n
      · exact h2 i h3 hin
      · obtain rfl : i = n := by omega
        exact hn
def parL (s : List UInt8) : List UInt8 := if (decide (lastN s s.length < 0) || !pathB s) = true then [] else s.take (lastN s s.length).toNat
def upB (s : List UInt8) : Bool := !(decide (lastN s s.length < 0) || !pathB s)
set_option maxRecDepth 100000 in
theorem llast_calls (s : List UInt8) (hs : s.length < 1099511627776) : LCalls Try.prog 33 [Str s, .raw (.int .u8 47)] [] (fun r H' => r = i64 (lastN s s.length) ∧ H' = []) := by
  refine LCalls.of Try.func33 rfl Try.ntmps33 Try.results33 rfl (fun Rf => ?_)
  refine LW.seq ?_
  refine LW.region ?_
  refine X.u (LU.assignR Is.rfl') rfl ?_
  refine LL.nil (after_code ?_)
  refine LW.seq ?_
  refine LW.seq ?_
  refine LW.region ?_
  refine X.u (LU.moveR Is.rfl') rfl ?_
  refine X.u (LU.strlenN Try.underlying9 Is.rfl') rfl ?_
  refine X.u (LU.subN Is.rfl' Is.rfl' (wrap_i64 (by omega) (by omega))) rfl ?_
  refine X.u (LU.assignR Is.rfl') rfl ?_
  refine LL.nil (after_code ?_)
  refine LW.block ?_
  refine X.loopK (α := Nat) (fun m => [(5, i64 ((m : Int) - 1))]) [0, 1] (fun _ => _) (fun m => m ≤ s.length ∧ lastN s s.length = lastN s m) (fun m => m) (s.length) (EnvLe.cons (by rfl) (EnvLe.nil)) (HSub.refl _) ?_ ?_
  · exact ⟨Nat.le_refl _, rfl⟩
  · rintro m hI
    obtain ⟨hk, hl⟩ := hI
    refine LW.seq ?_
    refine LW.seq ?_
    refine LW.region ?_
    refine X.u (LU.moveR Is.rfl') rfl ?_
    refine X.u (LU.geq Is.rfl' Is.rfl') rfl ?_
    refine LL.nil (after_code ?_)
    refine X.cond rfl (fun h2 => ?_) (fun h2 => ?_)
    · try have h2 := of_decide_eq_true h2
      refine LW.skip (after_code ?_)
      refine LW.seq ?_
      refine LW.block ?_
      refine LW.seq ?_
      obtain ⟨m1, hm⟩ : ∃ m1, m = m1 + 1 := ⟨m - 1, by omega⟩
      refine LW.region ?_
      refine X.u (LU.moveR Is.rfl') rfl ?_
      refine X.u (LU.moveR Is.rfl') rfl ?_
      refine X.u (LU.weak (LU.stratN Try.underlying9 Is.rfl' Is.rfl' (by omega) (by omega)) (Is.of (y := .raw (.int .u8 (s.getD m1 0).toNat)) (by rw [show ((m : Int) - 1).toNat = m1 by omega]))) rfl ?_
      refine X.u (LU.moveR Is.rfl') rfl ?_
      refine X.u (LU.eql Is.rfl' Is.rfl') rfl ?_
      refine LL.nil (after_code ?_)
      refine X.cond rfl (fun h4 => ?_) (fun h4 => ?_)
      · try have h4 := of_decide_eq_true h4
        refine LW.seq ?_
        refine LW.region ?_
        refine X.u (LU.moveR Is.rfl') rfl ?_
        refine X.u (LU.assignR Is.rfl') rfl ?_
        refine LL.nil (after_code ?_)
        refine LW.ret (ret_blk (ret_code (ret_rnd (ret_blk (ret_code (after_end ?_))))))
        refine X.ret (H' := []) (Res.one (by exact IsR rfl)) (by repeat (exact HSub.refl _)) ?_
        exact ⟨by rw [hl, hm, lastN, if_pos h4]; congr 2; omega, rfl⟩
      · try have h4 := of_decide_eq_false h4
        refine LW.skip (after_blk (after_code ?_))
        refine LW.region ?_
        refine X.u (LU.moveR Is.rfl') rfl ?_
        refine X.u (LU.subN Is.rfl' Is.rfl' (wrap_i64 (by omega) (by omega))) rfl ?_
        refine X.u (LU.assignR Is.rfl') rfl ?_
        refine LL.nil (after_rnd ?_)
        refine X.next (m - 1) rfl (EnvLe.cons (by exact raw_int (by omega)) (EnvLe.nil)) (Keeps.cons (by exact Eq.trans (b := .raw _) rfl rfl) (Keeps.cons (by exact Eq.trans (b := .raw _) rfl rfl) (Keeps.nil))) (HSub.refl _) ?_ ?_
        · exact ⟨by omega, by rw [hl, hm, lastN, if_neg h4]; simp⟩
        · omega
    · try have h2 := of_decide_eq_false h2
      refine LW.exit (exit_code (exit_rnd (exit_blk (after_code ?_))))
      refine LW.seq ?_
      refine LW.region ?_
      refine X.u (LU.assignR Is.rfl') rfl ?_
      refine LL.nil (after_code ?_)
      refine LW.ret (after_end ?_)
      refine X.ret (H' := []) (Res.one (by exact IsR rfl)) (by repeat (exact HSub.refl _)) ?_
      exact ⟨by rw [hl, show m = 0 by omega]; rfl, rfl⟩
set_option maxRecDepth 100000 in
theorem last_calls (s : List UInt8) (hs : s.length < 1099511627776) : LCalls Try.prog 27 [Str s, .raw (.int .u8 47)] [] (fun r H' => r = i64 (lastN s s.length) ∧ H' = []) := by
  refine LCalls.of Try.func27 rfl Try.ntmps27 Try.results27 rfl (fun Rf => ?_)
  refine LW.seq ?_
  refine LW.region ?_
  refine X.u (LU.assignR Is.rfl') rfl ?_
  refine LL.nil (after_code ?_)
  refine LW.seq ?_
  refine LW.region ?_
  refine X.u (LU.moveR Is.rfl') rfl ?_
  refine X.u (LU.moveR Is.rfl') rfl ?_
  refine X.u (LU.call (llast_calls s hs) Try.func33 rfl rfl (Opds.cons Is.rfl' (Opds.cons Is.rfl' Opds.nil))) rfl ?_
  refine X.u (LU.assignR Is.rfl') rfl ?_
  refine LL.nil (after_code ?_)
  refine LW.ret (after_end ?_)
  refine X.ret (H' := []) (Res.one (by exact IsR rfl)) (by repeat (exact HSub.refl _)) ?_
  exact ⟨rfl, rfl⟩
set_option maxRecDepth 100000 in
theorem parent_calls (s : List UInt8) (hs : s.length < 1099511627776) : LCalls Try.prog 17 [Str s] [] (fun r H' => r = .tup [Str (parL s), bl (upB s)] ∧ H' = []) := by
  obtain ⟨hb1, hb2⟩ := last_ge s s.length
  refine LCalls.of Try.func17 rfl Try.ntmps17 Try.results17 rfl (fun Rf => ?_)
  refine LW.seq ?_
  refine LW.region ?_
  refine X.u (LU.assignR Is.rfl') rfl ?_
  refine X.u (LU.assignR Is.rfl') rfl ?_
  refine LL.nil (after_code ?_)
  refine LW.seq ?_
  refine LW.region ?_
  refine X.u (LU.moveR Is.rfl') rfl ?_
  refine X.u (LU.call (last_calls s hs) Try.func27 rfl rfl (Opds.cons Is.rfl' (Opds.cons Is.rfl' Opds.nil))) rfl ?_
  refine X.u (LU.assignR Is.rfl') rfl ?_
  refine LL.nil (after_code ?_)
  refine LW.seq ?_
  refine LW.seq ?_
  refine LW.region ?_
  refine X.u (LU.moveR Is.rfl') rfl ?_
  refine X.u (LU.lss Is.rfl' Is.rfl') rfl ?_
  refine X.u (LU.moveR Is.rfl') rfl ?_
  refine X.gF rfl rfl (fun hg => LU.moveR (by exact Is.rfl')) rfl ?_
  refine X.gF rfl rfl (fun hg => LU.call (path_calls s) Try.func11 rfl rfl (Opds.cons (by exact Is.whenN hg) Opds.nil)) rfl ?_
  refine X.gF rfl rfl (fun hg => LU.not (by exact Is.whenN hg)) rfl ?_
  refine X.u (LU.pickOr Is.rfl' Is.rfl' (fun hq => (by exact Is.whenN hq))) rfl ?_
  refine LL.nil (after_code ?_)
  refine X.cond rfl (fun h2 => ?_) (fun h2 => ?_)
  · try have h2 := of_decide_eq_true h2
    refine LW.seq ?_
    refine LW.region ?_
    refine X.u (LU.assignR Is.rfl') rfl ?_
    refine X.u (LU.assignR Is.rfl') rfl ?_
    refine LL.nil (after_code ?_)
    refine LW.ret (ret_code (after_end ?_))
    refine X.ret (H' := []) (Res.two (by exact IsR rfl) (by exact IsR rfl)) (by repeat (exact HSub.refl _)) ?_
    exact ⟨by unfold parL upB; rw [if_pos h2, h2]; rfl, rfl⟩
  · have h0 : 0 ≤ lastN s s.length := by simp only [Bool.or_eq_false_iff, decide_eq_false_iff_not] at h2; omega
    refine LW.skip (after_code ?_)
    refine LW.seq ?_
    refine LW.region ?_
    refine X.u (LU.moveR Is.rfl') rfl ?_
    refine X.u (LU.moveR Is.rfl') rfl ?_
    refine X.u (LU.strsliceN (l := none) (h := some _) Try.underlying9 trivial ⟨_, Is.rfl'⟩ (by simp only [Option.getD_some, Option.getD_none]; omega) (by simp only [Option.getD_some, Option.getD_none]; omega) (by simp only [Option.getD_some, Option.getD_none]; omega) Is.rfl') rfl ?_
    refine X.u (LU.assignR Is.rfl') rfl ?_
    refine X.u (LU.assignR Is.rfl') rfl ?_
    refine LL.nil (after_code ?_)
    refine LW.ret (after_end ?_)
    refine X.ret (H' := []) (Res.two (by exact IsR rfl) (by exact IsR rfl)) (by repeat (exact HSub.refl _)) ?_
    exact ⟨by unfold parL upB; rw [if_neg (by rw [h2]; simp), h2]; simp, rfl⟩
theorem splits_app : ∀ (a b : List UInt8), splits (a ++ 47 :: b) = splits a ++ splits b
  | [], b => by simp [splits]
  | c :: a, b => by
    have ih := splits_app a b
    by_cases hc : c = 47
    · simp [splits, hc, ih]
    · simp only [List.cons_append, splits, hc, if_false, ih]
      cases he : splits a with
      | nil => exact absurd he (splits_ne a)
      | cons h t => rfl
theorem parted {s : List UInt8} {j : Nat} (h : lastN s s.length = j) : ∃ b, s = s.take j ++ 47 :: b ∧ splits s = splits (s.take j) ++ [b] := by
  obtain ⟨h1, h2⟩ := last_some s _ j h
  have hj : j < s.length := by have := (last_ge s s.length).2; omega
  have e : s = s.take j ++ 47 :: s.drop (j + 1) := by
    have h3 : s.drop j = 47 :: s.drop (j + 1) := by
      rw [List.drop_eq_getElem_cons hj]
      congr 1
      rw [List.getD_eq_getElem?_getD, List.getElem?_eq_getElem hj, Option.getD_some] at h1
      refine UInt8.toNat_inj.1 ?_
      show s[j].toNat = 47
      omega
    rw [← h3, List.take_append_drop]
  refine ⟨s.drop (j + 1), e, ?_⟩
  have hl : splits (s.drop (j + 1)) = [s.drop (j + 1)] := splits_last _ fun x hx hx47 => by
    obtain ⟨i, hi⟩ := List.getElem?_of_mem hx
    rw [List.getElem?_drop] at hi
    have hlt := (List.getElem?_eq_some_iff.1 hi).1
    refine h2 (j + 1 + i) (by omega) hlt ?_
    rw [List.getD_eq_getElem?_getD, hi, hx47]; rfl
  conv => lhs; rw [e]
  rw [splits_app, hl]
theorem splits_inj {a b : List UInt8} (h : splits a = splits b) : a = b :=
  under_anti a b (by rw [under_splits, h]; exact List.isPrefixOf_iff_prefix.2 (List.prefix_refl _)) (by rw [under_splits, h]; exact List.isPrefixOf_iff_prefix.2 (List.prefix_refl _))
theorem path_take {s : List UInt8} {j : Nat} {b : List UInt8} (hp : pathB s = true) (h : splits s = splits (s.take j) ++ [b]) : pathB (s.take j) = true := by
  simp only [pathB, Bool.and_eq_true, decide_eq_true_eq, h, List.length_append, List.all_append] at hp ⊢
  simp at hp ⊢
  exact ⟨⟨by omega, by omega⟩, hp.2.1⟩
theorem cov_law (p s : List UInt8) (hp : pathB s = true) : coversB p s = ((decide (p = []) || decide (p = s)) || (upB s && coversB p (parL s))) := by
  by_cases h0 : p = []
  · subst h0; simp [cov_nil, hp]
  by_cases h1 : p = s
  · subst h1; simp [cov_self, hp]
  simp only [h0, h1, decide_false, Bool.false_or]
  have hup : upB s = !decide (lastN s s.length < 0) := by simp [upB, hp]
  by_cases hneg : lastN s s.length < 0
  · rw [hup, decide_eq_true hneg]
    simp only [coversB, hp, h0, decide_false, Bool.false_or, Bool.true_and, Bool.not_true, Bool.false_and]
    rw [Bool.eq_false_iff]
    intro hh
    simp only [Bool.and_eq_true, under_eq, Bool.or_eq_true, decide_eq_true_eq] at hh
    obtain ⟨hpp, hu, hv⟩ := hh
    have hle := hasP_le hu
    simp only [hasP, Bool.and_eq_true, decide_eq_true_eq] at hu
    by_cases hlen : s.length = p.length
    · refine h1 ?_
      rw [← hu.2, List.take_of_length_le (by omega)]
    · rcases hv with hv | hv
      · omega
      · exact last_none s _ hneg p.length (by omega) hv
  · obtain ⟨j, hj⟩ : ∃ j : Nat, lastN s s.length = j := ⟨(lastN s s.length).toNat, by omega⟩
    obtain ⟨b, e, hs⟩ := parted hj
    have hpar : parL s = s.take j := by
      unfold parL
      rw [hp, decide_eq_false hneg, if_neg (by simp), hj, Int.toNat_natCast]
    have hpt := path_take hp hs
    rw [hup, decide_eq_false hneg, hpar]
    simp only [coversB, hp, hpt, h0, decide_false, Bool.false_or, Bool.true_and, Bool.not_false]
    congr 1
    rw [under_splits, under_splits, hs]
    rw [Bool.eq_iff_iff, List.isPrefixOf_iff_prefix, List.isPrefixOf_iff_prefix, List.prefix_concat_iff]
    exact ⟨fun h => h.elim (fun h => absurd (splits_inj (h.trans hs.symm)) h1) id, .inr⟩
set_option maxRecDepth 100000 in
theorem NamesCovers_row (p s : List UInt8) (hp : p.length ≤ reachBytes) (hs : s.length ≤ reachBytes) : LCalls Try.prog 6 [Str p, Str s] [] (fun r _ => r = .raw (.bool true)) := by
  have hr : reachBytes < 1099511627776 * 1024 := by decide
  refine LCalls.of Try.func6 rfl Try.ntmps6 Try.results6 rfl (fun Rf => ?_)
  refine LW.seq ?_
  refine LW.region ?_
  refine X.u (LU.assignR Is.rfl') rfl ?_
  refine LL.nil (after_code ?_)
  refine LW.seq ?_
  refine LW.seq ?_
  refine LW.region ?_
  refine X.u (LU.moveR Is.rfl') rfl ?_
  refine X.u (LU.strlenN Try.underlying9 Is.rfl') rfl ?_
  refine X.u (LU.moveR Is.rfl') rfl ?_
  refine X.u (LU.strlenN Try.underlying9 Is.rfl') rfl ?_
  refine X.u (LU.addN Is.rfl' Is.rfl' (wrap_i64 (by omega) (by omega))) rfl ?_
  refine X.u (LU.gtr Is.rfl' Is.rfl') rfl ?_
  refine LL.nil (after_code ?_)
  refine X.cond rfl (fun h1 => ?_) (fun h1 => ?_)
  · try have h1 := of_decide_eq_true h1
    refine LW.seq ?_
    refine LW.region ?_
    refine X.u (LU.call (lives_calls) Try.func8 rfl rfl Opds.nil) rfl ?_
    refine X.u (LU.assignR Is.rfl') rfl ?_
    refine LL.nil (after_code ?_)
    refine LW.ret (ret_code (after_end ?_))
    refine X.ret (H' := []) (Res.one (by exact IsR rfl)) (by repeat (exact HSub.refl _)) ?_
    exact rfl
  · try have h1 := of_decide_eq_false h1
    refine LW.skip (after_code ?_)
    refine LW.seq ?_
    refine LW.region ?_
    refine X.u (LU.moveR Is.rfl') rfl ?_
    refine X.u (LU.moveR Is.rfl') rfl ?_
    refine X.u (LU.call (covers_calls p s) Try.func15 rfl rfl (Opds.cons Is.rfl' (Opds.cons Is.rfl' Opds.nil))) rfl ?_
    refine X.u (LU.assignR Is.rfl') rfl ?_
    refine LL.nil (after_code ?_)
    refine LW.seq ?_
    refine LW.seq ?_
    refine LW.region ?_
    refine X.u (LU.moveR Is.rfl') rfl ?_
    refine X.u (LU.moveR Is.rfl') rfl ?_
    refine X.u (LU.moveR Is.rfl') rfl ?_
    refine X.u (LU.call (rcovers_calls p s) Try.func16 rfl rfl (Opds.cons Is.rfl' (Opds.cons Is.rfl' Opds.nil))) rfl ?_
    refine X.u (LU.boolne Try.underlying4 Is.rfl' Is.rfl') rfl ?_
    refine LL.nil (after_code ?_)
    refine X.condF rfl ?_ ?_
    · simp
    refine LW.skip (after_code ?_)
    refine LW.seq ?_
    refine LW.seq ?_
    refine LW.region ?_
    refine X.u (LU.moveR Is.rfl') rfl ?_
    refine X.u (LU.call (path_calls s) Try.func11 rfl rfl (Opds.cons Is.rfl' Opds.nil)) rfl ?_
    refine X.u (LU.not Is.rfl') rfl ?_
    refine LL.nil (after_code ?_)
    refine X.cond rfl (fun h6 => ?_) (fun h6 => ?_)
    · have hps : pathB s = false := by simpa using h6
      refine LW.seq ?_
      refine LW.region ?_
      refine X.u (LU.moveR Is.rfl') rfl ?_
      refine X.u (LU.weak (LU.not Is.rfl') (asB (c := true) rfl (by simp [coversB, hps]))) rfl ?_
      refine X.u (LU.moveR Is.rfl') rfl ?_
      refine X.doT rfl rfl (LU.call (lives_calls) Try.func8 rfl rfl Opds.nil) rfl ?_
      refine X.u (LU.pickT Is.rfl' (by exact Is.rfl')) rfl ?_
      refine X.u (LU.assignR Is.rfl') rfl ?_
      refine LL.nil (after_code ?_)
      refine LW.ret (ret_code (after_end ?_))
      refine X.ret (H' := []) (Res.one (by exact IsR rfl)) (by repeat (exact HSub.refl _)) ?_
      exact rfl
    · have hps : pathB s = true := by simpa using h6
      refine LW.skip (after_code ?_)
      refine LW.seq ?_
      refine LW.region ?_
      refine X.u (LU.moveR Is.rfl') rfl ?_
      refine X.u (LU.call (parent_calls s (by omega)) Try.func17 rfl rfl (Opds.cons Is.rfl' Opds.nil)) rfl ?_
      refine X.u (LU.moveT Is.rfl') rfl ?_
      refine X.u (LU.extract Is.rfl' rfl) rfl ?_
      refine X.u (LU.extract Is.rfl' rfl) rfl ?_
      refine X.u (LU.assignR Is.rfl') rfl ?_
      refine X.u (LU.assignR Is.rfl') rfl ?_
      refine LL.nil (after_code ?_)
      refine LW.seq ?_
      refine LW.region ?_
      refine X.u (LU.moveR Is.rfl') rfl ?_
      refine X.u (LU.moveR Is.rfl') rfl ?_
      refine X.u (LU.streqN Is.rfl' Is.rfl') rfl ?_
      refine X.u (LU.moveR Is.rfl') rfl ?_
      refine X.gF rfl rfl (fun hg => LU.moveR (by exact Is.rfl')) rfl ?_
      refine X.gF rfl rfl (fun hg => LU.moveR (by exact Is.rfl')) rfl ?_
      refine X.gF rfl rfl (fun hg => LU.streqN (by exact Is.whenN hg) (by exact Is.whenN hg)) rfl ?_
      refine X.u (LU.pickOr Is.rfl' Is.rfl' (fun hq => (by exact Is.whenN hq))) rfl ?_
      refine X.u (LU.moveR Is.rfl') rfl ?_
      refine X.gF rfl rfl (fun hg => LU.moveR (by exact Is.rfl')) rfl ?_
      refine X.gF rfl rfl (fun hg => LU.moveR (by exact Is.whenN hg)) rfl ?_
      refine X.gT2 rfl rfl (fun hg0 hg => LU.moveR (by exact Is.rfl')) rfl ?_
      refine X.gT2 rfl rfl (fun hg0 hg => LU.moveR (by exact Is.rfl')) rfl ?_
      refine X.gT2 rfl rfl (fun hg0 hg => LU.call (covers_calls p (parL s)) Try.func15 rfl rfl (Opds.cons (by exact Is.whenE (by rw [hg0, hg]; rfl)) (Opds.cons (by exact Is.whenE (by rw [hg0, hg]; rfl)) Opds.nil))) rfl ?_
      refine X.gF rfl rfl (fun hg => LU.pickAnd (by exact Is.whenN hg) (fun hq => (by exact Is.whenE (by rw [hg, hq]; rfl))) (by exact Is.rfl')) rfl ?_
      refine X.u (LU.pickOr Is.rfl' Is.rfl' (fun hq => (by exact Is.whenN hq))) rfl ?_
      refine X.u (LU.weak (LU.booleq Try.underlying4 Is.rfl' Is.rfl') (asB (c := true) rfl (by rw [cov_law p s hps]; simp))) rfl ?_
      refine X.u (LU.moveR Is.rfl') rfl ?_
      refine X.doT rfl rfl (LU.call (lives_calls) Try.func8 rfl rfl Opds.nil) rfl ?_
      refine X.u (LU.pickT Is.rfl' (by exact Is.rfl')) rfl ?_
      refine X.u (LU.assignR Is.rfl') rfl ?_
      refine LL.nil (after_code ?_)
      refine LW.ret (after_end ?_)
      refine X.ret (H' := []) (Res.one (by exact IsR rfl)) (by repeat (exact HSub.refl _)) ?_
      exact rfl
end Go.Proofs.Ytcemodldbfiomaa
