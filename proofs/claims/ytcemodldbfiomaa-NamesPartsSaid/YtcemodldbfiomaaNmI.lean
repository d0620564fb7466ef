/- The document's parent of a path. -/
import Derived.Test.YtcemodldbfiomaaNmH
set_option linter.unusedVariables false
set_option linter.unusedSimpArgs false
namespace Go.Proofs.Ytcemodldbfiomaa
open Go.RowKit Go.L
attribute [local irreducible] LL LW LO
def joinS : List (List UInt8) → List UInt8
  | [] => []
  | [a] => a
  | a :: b :: r => a ++ (47 :: joinS (b :: r))
theorem joinS_cons {a : List UInt8} {l : List (List UInt8)} (h : l ≠ []) : joinS (a :: l) = a ++ (47 :: joinS l) := by
  cases l with
  | nil => exact absurd rfl h
  | cons b r => rfl
theorem joinS_snoc : ∀ {l : List (List UInt8)} (x : List UInt8), l ≠ [] → joinS (l ++ [x]) = (joinS l ++ [47]) ++ x
  | [], x, h => absurd rfl h
  | [a], x, _ => by show a ++ (47 :: x) = (a ++ [47]) ++ x; simp
  | a :: b :: r, x, _ => by
    have := joinS_snoc (l := b :: r) x (by simp)
    show joinS (a :: ((b :: r) ++ [x])) = _
    rw [joinS_cons (show (b :: r) ++ [x] ≠ [] by simp), this]
    show a ++ (47 :: ((joinS (b :: r) ++ [47]) ++ x)) = ((a ++ (47 :: joinS (b :: r))) ++ [47]) ++ x
    simp
theorem join_splits : ∀ (n : Nat) (s : List UInt8), s.length ≤ n → joinS (splits s) = s
  | 0, s, h => by
    have : s = [] := List.eq_nil_of_length_eq_zero (by omega)
    subst this
    rfl
  | n + 1, [], h => rfl
  | n + 1, c :: s, h => by
    have ih := join_splits n s (by simpa using h)
    have hne := splits_ne s
    by_cases hc : c = 47
    · subst hc
      rw [show splits (47 :: s) = [] :: splits s from by simp [splits], joinS_cons hne, ih]; rfl
    · cases hq : splits s with
      | nil => exact absurd hq hne
      | cons a r =>
        rw [show splits (c :: s) = (c :: a) :: r from by simp [splits, hc, hq]]
        rw [hq] at ih
        cases r with
        | nil => have ih : a = s := ih; show c :: a = _; rw [ih]
        | cons b r => have ih : a ++ (47 :: joinS (b :: r)) = s := ih; show (c :: a) ++ (47 :: joinS (b :: r)) = _; rw [← ih]; rfl
theorem par_split (s : List UInt8) : (lastN s s.length < 0 ∧ (splits s).length = 1) ∨ (0 ≤ lastN s s.length ∧ 2 ≤ (splits s).length ∧ s.take (lastN s s.length).toNat = joinS ((splits s).take ((splits s).length - 1))) := by
  by_cases h : lastN s s.length < 0
  · refine .inl ⟨h, ?_⟩
    rw [splits_last s fun x hx hx47 => ?_]
    · rfl
    · obtain ⟨i, hi⟩ := List.getElem?_of_mem hx
      have hlt := (List.getElem?_eq_some_iff.1 hi).1
      refine last_none s _ h i hlt ?_
      rw [List.getD_eq_getElem?_getD, hi, hx47]; rfl
  · obtain ⟨j, hj⟩ : ∃ j : Nat, lastN s s.length = j := ⟨(lastN s s.length).toNat, by omega⟩
    obtain ⟨b, e, hs⟩ := parted hj
    have hne : 0 < (splits (s.take j)).length := List.length_pos_iff.2 (splits_ne _)
    refine .inr ⟨by omega, by rw [hs, List.length_append, List.length_singleton]; omega, ?_⟩
    rw [hj, Int.toNat_natCast, hs, List.length_append, List.length_singleton, Nat.add_sub_cancel, List.take_left' rfl, join_splits _ _ (Nat.le_refl _)]
theorem join_step {l : List (List UInt8)} {i : Nat} (h0 : 0 < i) (hi : i < l.length) : joinS (l.take (i + 1)) = (joinS (l.take i) ++ [47]) ++ l.getD i [] := by
  have hx : l[i]? = some (l.getD i []) := getD_some hi
  have : l.take (i + 1) = l.take i ++ [l.getD i []] := by
    obtain ⟨h1, h2⟩ := List.getElem?_eq_some_iff.1 hx
    rw [List.take_succ_eq_append_getElem h1, h2]
  have hne : l.take i ≠ [] := fun c => by
    have h2 : (l.take i).length = 0 := by rw [c]; rfl
    rw [List.length_take] at h2
    omega
  rw [this, joinS_snoc _ hne]
theorem join1 {l : List (List UInt8)} (h : 0 < l.length) : l.getD 0 [] = joinS (l.take 1) := by
  cases l with
  | nil => cases h
  | cons a r => rfl
theorem join_len (l : List (List UInt8)) (n : Nat) (h : ∀ p ∈ l, p.length ≤ n) : (joinS l).length ≤ l.length * (n + 1) := by
  induction l with
  | nil => simp [joinS]
  | cons a r ih =>
    have ha := h a (by simp)
    have ih := ih fun p hp => h p (by simp [hp])
    cases r with
    | nil => show a.length ≤ _; simp; omega
    | cons b r =>
      rw [joinS_cons (by simp), List.length_append, List.length_cons, List.length_cons (a := a), Nat.succ_mul]
      omega
set_option maxRecDepth 100000 in
theorem rparent_calls (s : List UInt8) (hs : s.length < 1000000) : LCalls Try.prog 20 [Str s] [] (fun r H' => r = .tup [Str (parL s), bl (upB s)] ∧ H' = []) := by
  have hpe := par_split s
  have hle := splits_le s
  obtain ⟨L, hL⟩ : ∃ L, L = splits s := ⟨_, rfl⟩
  have hsp := split_calls s (by omega)
  rw [← hL] at hpe hle hsp
  have hpar : pathB s = true → 2 ≤ L.length → parL s = joinS (L.take (L.length - 1)) ∧ upB s = true := fun h1 h2 => by
    rcases hpe with ⟨_, h3⟩ | ⟨h3, _, h4⟩
    · omega
    · unfold parL upB
      rw [h1, decide_eq_false (by omega)]
      exact ⟨h4, rfl⟩
  have hpar2 : (pathB s = false ∨ L.length < 2) → parL s = [] ∧ upB s = false := fun h => by
    have hb : (decide (lastN s s.length < 0) || !pathB s) = true := by
      rcases h with h | h
      · simp [h]
      · rcases hpe with ⟨h3, _⟩ | ⟨_, h3, _⟩
        · simp [h3]
        · omega
    unfold parL upB
    rw [if_pos hb, hb]
    exact ⟨rfl, rfl⟩
  refine LCalls.of Try.func20 rfl Try.ntmps20 Try.results20 rfl (fun Rf => ?_)
  refine LW.seq ?_
  refine LW.region ?_
  refine X.u (LU.assignR Is.rfl') rfl ?_
  refine X.u (LU.assignR Is.rfl') rfl ?_
  refine LL.nil (after_code ?_)
  refine LW.seq ?_
  refine LW.region ?_
  refine X.u (LU.moveR Is.rfl') rfl ?_
  refine X.u (LU.call (hsp) Try.func18 rfl rfl (Opds.cons Is.rfl' Opds.nil)) rfl ?_
  refine X.u (LU.assignS Is.rfl') rfl ?_
  refine LL.nil (after_code ?_)
  refine LW.seq ?_
  refine LW.seq ?_
  refine LW.region ?_
  refine X.u (LU.moveR Is.rfl') rfl ?_
  refine X.u (LU.call (rpath_calls s) Try.func12 rfl rfl (Opds.cons Is.rfl' Opds.nil)) rfl ?_
  refine X.u (LU.not Is.rfl') rfl ?_
  refine X.u (LU.moveR Is.rfl') rfl ?_
  refine X.gF rfl rfl (fun hg => LU.moveS (by exact Is.rfl')) rfl ?_
  refine X.gF rfl rfl (fun hg => LU.lenN Try.underlying24 (by exact Is.whenN hg) (by (simp only [Option.getD_some, Option.getD_none, byteEls_length, intEls_length, List.length_append, List.length_cons, List.length_nil, List.length_map, List.length_drop, List.length_take, Int.toNat_natCast]; rfl))) rfl ?_
  refine X.gF rfl rfl (fun hg => LU.lss (by exact Is.whenN hg) (by exact Is.rfl')) rfl ?_
  refine X.u (LU.pickOr Is.rfl' Is.rfl' (fun hq => (by exact Is.whenN hq))) rfl ?_
  refine LL.nil (after_code ?_)
  refine X.cond rfl (fun h2 => ?_) (fun h2 => ?_)
  · have h2 : pathB s = false ∨ L.length < 2 := by simp at h2; exact h2.imp id fun e => by omega
    have h3 := hpar2 h2
    refine LW.seq ?_
    refine LW.region ?_
    refine X.u (LU.assignR Is.rfl') rfl ?_
    refine X.u (LU.assignR Is.rfl') rfl ?_
    refine LL.nil (after_code ?_)
    refine LW.ret (ret_code (after_end ?_))
    refine X.ret (H' := []) (Res.two (by exact IsR rfl) (by exact IsR rfl)) (by repeat (exact HSub.refl _)) ?_
    exact ⟨by rw [h3.1, h3.2], rfl⟩
  · have h2 : pathB s = true ∧ 2 ≤ L.length := by simp at h2; exact ⟨h2.1, by omega⟩
    have h3 := hpar h2.1 h2.2
    refine LW.skip (after_code ?_)
    refine LW.seq ?_
    refine LW.region ?_
    refine X.u (LU.moveS Is.rfl') rfl ?_
    refine X.u (LU.at Try.underlying24 ⟨Try.sizeOf9, Try.isAgg9⟩ Is.rfl' Is.rfl' (by omega) ((show (strEls L)[(0 : Int).toNat]? = some [Str (L.getD 0 [])] from strEls_at (i := 0) (by omega))) (by simp)) rfl ?_
    refine X.u (LU.weak (LU.load ⟨Try.sizeOf9, Try.isAgg9⟩ Is.rfl' (by (simp; done)) (Part.one rfl)) (Is.of (y := Str (joinS (L.take 1))) (congrArg Str (join1 (by omega))))) rfl ?_
    refine X.u (LU.assignR Is.rfl') rfl ?_
    refine LL.nil (after_code ?_)
    refine LW.seq ?_
    refine LW.seq ?_
    refine LW.region ?_
    refine X.u (LU.assignR Is.rfl') rfl ?_
    refine LL.nil (after_code ?_)
    refine LW.block ?_
    refine X.loopK (α := Nat) (fun i => [(6, i64 i), (5, Str (joinS (L.take i)))]) [2, 3, 4] (fun _ => _) (fun i => 1 ≤ i ∧ i ≤ L.length - 1) (fun i => L.length - i) (1) (EnvLe.cons (by rfl) (EnvLe.cons (by rfl) (EnvLe.nil))) (HSub.refl _) ?_ ?_
    · exact ⟨Nat.le_refl _, by omega⟩
    · rintro i hI
      obtain ⟨hi1, hi2⟩ := hI
      refine LW.seq ?_
      refine LW.seq ?_
      refine LW.region ?_
      refine X.u (LU.moveR Is.rfl') rfl ?_
      refine X.u (LU.moveS Is.rfl') rfl ?_
      refine X.u (LU.lenN Try.underlying24 Is.rfl' (by (simp only [Option.getD_some, Option.getD_none, byteEls_length, intEls_length, List.length_append, List.length_cons, List.length_nil, List.length_map, List.length_drop, List.length_take, Int.toNat_natCast]; rfl))) rfl ?_
      refine X.u (LU.subN Is.rfl' Is.rfl' (wrap_i64 (by omega) (by omega))) rfl ?_
      refine X.u (LU.lss Is.rfl' Is.rfl') rfl ?_
      refine LL.nil (after_code ?_)
      refine X.cond rfl (fun h6 => ?_) (fun h6 => ?_)
      · try have h6 := of_decide_eq_true h6
        refine LW.skip (after_code ?_)
        refine LW.seq ?_
        refine LW.block ?_
        have hjl : (joinS (L.take i)).length ≤ (L.take i).length * (1000000 + 1) := join_len _ _ fun p hp => by
          obtain ⟨q, hq⟩ := List.getElem?_of_mem (List.mem_of_mem_take hp)
          rw [hL] at hq
          have := splits_get _ s _ _ (Nat.le_refl _) hq
          omega
        rw [List.length_take] at hjl
        have hpl : (L.getD i []).length ≤ s.length := by
          have hq := getD_some (l := L) (i := i) (by omega)
          generalize L.getD i [] = p at hq ⊢
          rw [hL] at hq
          exact splits_get _ s _ _ (Nat.le_refl _) hq
        have hpl2 : (L[i]?.getD []).length ≤ s.length := by simpa using hpl
        refine LW.region ?_
        refine X.u (LU.moveR Is.rfl') rfl ?_
        refine X.u (LU.strcatN Is.rfl' Is.rfl' (by (simp; omega))) rfl ?_
        refine X.u (LU.moveS Is.rfl') rfl ?_
        refine X.u (LU.moveR Is.rfl') rfl ?_
        refine X.u (LU.at Try.underlying24 ⟨Try.sizeOf9, Try.isAgg9⟩ Is.rfl' Is.rfl' (by omega) (strEls_at (by omega)) (by simp)) rfl ?_
        refine X.u (LU.load ⟨Try.sizeOf9, Try.isAgg9⟩ Is.rfl' (by (simp; done)) (Part.one rfl)) rfl ?_
        refine X.u (LU.weak (LU.strcatN Is.rfl' Is.rfl' (by (simp; omega))) (Is.of (y := Str (joinS (L.take (i + 1)))) (congrArg Str (join_step (by omega) (by omega)).symm))) rfl ?_
        refine X.u (LU.assignR Is.rfl') rfl ?_
        refine LL.nil (after_blk (after_code ?_))
        refine LW.region ?_
        refine X.u (LU.moveR Is.rfl') rfl ?_
        refine X.u (LU.addN Is.rfl' Is.rfl' (wrap_i64 (by omega) (by omega))) rfl ?_
        refine X.u (LU.assignR Is.rfl') rfl ?_
        refine LL.nil (after_rnd ?_)
        refine X.next (i + 1) rfl (EnvLe.cons (by rfl) (EnvLe.cons (by rfl) (EnvLe.nil))) (Keeps.cons (by exact Eq.trans (b := .raw _) rfl rfl) (Keeps.cons (by exact Eq.trans (b := .raw _) rfl rfl) (Keeps.cons (by exact Eq.trans (b := .sl _ _ _) rfl rfl) (Keeps.nil)))) (HSub.refl _) ?_ ?_
        · exact ⟨by omega, by omega⟩
        · omega
      · try have h6 := of_decide_eq_false h6
        refine LW.exit (exit_code (exit_rnd (exit_blk (after_code ?_))))
        refine LW.seq ?_
        refine LW.region ?_
        refine X.u (LU.moveR Is.rfl') rfl ?_
        refine X.u (LU.assignR Is.rfl') rfl ?_
        refine X.u (LU.assignR Is.rfl') rfl ?_
        refine LL.nil (after_code ?_)
        refine LW.ret (after_end ?_)
        refine X.ret (H' := []) (Res.two (by exact IsR rfl) (by exact IsR rfl)) (by repeat (exact HSub.refl _)) ?_
        exact ⟨by rw [h3.1, h3.2, show i = L.length - 1 by omega], rfl⟩
end Go.Proofs.Ytcemodldbfiomaa
