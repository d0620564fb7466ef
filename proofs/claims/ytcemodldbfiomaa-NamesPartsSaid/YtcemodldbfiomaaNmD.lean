/- The document's names and paths. -/
import Derived.Test.YtcemodldbfiomaaNmC
set_option linter.unusedVariables false
set_option linter.unusedSimpArgs false
namespace Go.Proofs.Ytcemodldbfiomaa
open Go.RowKit Go.L
attribute [local irreducible] LL LW LO
abbrev strEls (l : List (List UInt8)) : List (List LV) := l.map fun p => [Str p]
abbrev Strs (l : List (List UInt8)) (k : Cap) : LV := .sl 1 (strEls l) k
theorem strEls_snoc (l : List (List UInt8)) (p : List UInt8) : strEls l ++ [[Str p]] = strEls (l ++ [p]) := by simp
def smallB (c : Int) : Bool := decide (97 ≤ c) && decide (c ≤ 122)
def digitB (c : Int) : Bool := decide (48 ≤ c) && decide (c ≤ 57)
def nameB (s : List UInt8) : Bool := wordB s false && smallB (s.getD 0 0).toNat
theorem letter_narrow (c : Int) : ((!smallB c && !digitB c) && !decide (c = 45)) = !letterB c false := by
  unfold letterB smallB digitB
  simp
theorem letter_wide (c : Int) : ((((!smallB c && !digitB c) && !decide (c = 45)) && !decide (c = 46)) && !decide (c = 95)) = !letterB c true := by
  unfold letterB smallB digitB
  simp [Bool.and_assoc]
theorem word_pos {s : List UInt8} {w : Bool} (h : wordB s w = true) : 0 < s.length := by
  simp only [wordB, Bool.and_eq_true, decide_eq_true_eq] at h
  omega
set_option maxRecDepth 100000 in
theorem name_calls (s : List UInt8) (hs : s.length < 4611686018427387904) : LCalls Try.prog 9 [Str s] [] (fun r H' => r = bl (nameB s) ∧ H' = []) := by
  refine LCalls.of Try.func9 rfl Try.ntmps9 Try.results9 rfl (fun Rf => ?_)
  refine LW.seq ?_
  refine LW.region ?_
  refine X.u (LU.assignR Is.rfl') rfl ?_
  refine LL.nil (after_code ?_)
  refine LW.seq ?_
  refine LW.region ?_
  refine X.u (LU.moveR Is.rfl') rfl ?_
  refine X.u (LU.call (word_calls s false hs) Try.func21 rfl rfl (Opds.cons Is.rfl' (Opds.cons Is.rfl' Opds.nil))) rfl ?_
  refine X.u (LU.moveR Is.rfl') rfl ?_
  refine X.gT rfl rfl (fun hg => LU.moveR (by exact Is.rfl')) rfl ?_
  refine X.gT rfl rfl (fun hg => LU.stratN Try.underlying9 (by exact Is.whenE hg) (by exact Is.rfl') (by omega) (by have := word_pos hg; simp; omega)) rfl ?_
  refine X.gT rfl rfl (fun hg => LU.geq (by exact Is.whenE hg) (by exact Is.rfl')) rfl ?_
  refine X.u (LU.pickAnd Is.rfl' (fun hq => (by exact Is.whenE hq)) Is.rfl') rfl ?_
  refine X.u (LU.moveR Is.rfl') rfl ?_
  refine X.gT rfl rfl (fun hg => LU.moveR (by exact Is.rfl')) rfl ?_
  refine X.gT rfl rfl (fun hg => LU.stratN Try.underlying9 (by exact Is.whenE hg) (by exact Is.rfl') (by omega) (by simp only [Bool.and_eq_true] at hg; have := word_pos hg.1; simp; omega)) rfl ?_
  refine X.gT rfl rfl (fun hg => LU.leq (by exact Is.whenE hg) (by exact Is.rfl')) rfl ?_
  refine X.u (LU.pickAnd Is.rfl' (fun hq => (by exact Is.whenE hq)) Is.rfl') rfl ?_
  refine X.u (LU.assignR Is.rfl') rfl ?_
  refine LL.nil (after_code ?_)
  refine LW.ret (after_end ?_)
  refine X.ret (H' := []) (Res.one (by exact IsR rfl)) (by repeat (exact HSub.refl _)) ?_
  exact ⟨by simp only [nameB, smallB, Bool.and_assoc]; rfl, rfl⟩
set_option maxRecDepth 100000 in
theorem small_calls (c : UInt8) : LCalls Try.prog 22 [.raw (.int .u8 c.toNat)] [] (fun r H' => r = bl (smallB c.toNat) ∧ H' = []) := by
  have hc := c.toNat_lt
  refine LCalls.of Try.func22 rfl Try.ntmps22 Try.results22 rfl (fun Rf => ?_)
  refine LW.seq ?_
  refine LW.region ?_
  refine X.u (LU.assignR Is.rfl') rfl ?_
  refine LL.nil (after_code ?_)
  refine LW.seq ?_
  refine LW.region ?_
  refine X.u (LU.moveR Is.rfl') rfl ?_
  refine X.u (LU.geq Is.rfl' Is.rfl') rfl ?_
  refine X.u (LU.moveR Is.rfl') rfl ?_
  refine X.gT rfl rfl (fun hg => LU.moveR (by exact Is.rfl')) rfl ?_
  refine X.gT rfl rfl (fun hg => LU.leq (by exact Is.whenE hg) (by exact Is.rfl')) rfl ?_
  refine X.u (LU.pickAnd Is.rfl' (fun hq => (by exact Is.whenE hq)) Is.rfl') rfl ?_
  refine X.u (LU.assignR Is.rfl') rfl ?_
  refine LL.nil (after_code ?_)
  refine LW.ret (after_end ?_)
  refine X.ret (H' := []) (Res.one (by exact IsR rfl)) (by repeat (exact HSub.refl _)) ?_
  exact ⟨rfl, rfl⟩
set_option maxRecDepth 100000 in
theorem digit_calls (c : UInt8) : LCalls Try.prog 23 [.raw (.int .u8 c.toNat)] [] (fun r H' => r = bl (digitB c.toNat) ∧ H' = []) := by
  have hc := c.toNat_lt
  refine LCalls.of Try.func23 rfl Try.ntmps23 Try.results23 rfl (fun Rf => ?_)
  refine LW.seq ?_
  refine LW.region ?_
  refine X.u (LU.assignR Is.rfl') rfl ?_
  refine LL.nil (after_code ?_)
  refine LW.seq ?_
  refine LW.region ?_
  refine X.u (LU.moveR Is.rfl') rfl ?_
  refine X.u (LU.geq Is.rfl' Is.rfl') rfl ?_
  refine X.u (LU.moveR Is.rfl') rfl ?_
  refine X.gT rfl rfl (fun hg => LU.moveR (by exact Is.rfl')) rfl ?_
  refine X.gT rfl rfl (fun hg => LU.leq (by exact Is.whenE hg) (by exact Is.rfl')) rfl ?_
  refine X.u (LU.pickAnd Is.rfl' (fun hq => (by exact Is.whenE hq)) Is.rfl') rfl ?_
  refine X.u (LU.assignR Is.rfl') rfl ?_
  refine LL.nil (after_code ?_)
  refine LW.ret (after_end ?_)
  refine X.ret (H' := []) (Res.one (by exact IsR rfl)) (by repeat (exact HSub.refl _)) ?_
  exact ⟨rfl, rfl⟩
theorem name_bad {s : List UInt8} (h : ((decide ((s.length : Int) < 1) || decide (16 < (s.length : Int))) || !smallB (s.getD 0 0).toNat) = true) : nameB s = false := by
  simp only [Bool.or_eq_true] at h
  unfold nameB
  rcases h with h | h
  · rw [word_bad (by simpa using h)]; rfl
  · simp at h; simp [h]
theorem name_good {s : List UInt8} {i : Nat} (h : ((decide ((s.length : Int) < 1) || decide (16 < (s.length : Int))) || !smallB (s.getD 0 0).toNat) = false) (hi : ¬ (i : Int) < s.length) (ha : (s.take i).all (fun c => letterB (c.toNat : Int) false) = true) : nameB s = true := by
  simp only [Bool.or_eq_false_iff] at h
  unfold nameB
  rw [word_good (by simpa using h.1) hi ha]
  simpa using h.2
set_option maxRecDepth 100000 in
theorem rname_calls (s : List UInt8) (hs : s.length < 4611686018427387904) : LCalls Try.prog 10 [Str s] [] (fun r H' => r = bl (nameB s) ∧ H' = []) := by
  refine LCalls.of Try.func10 rfl Try.ntmps10 Try.results10 rfl (fun Rf => ?_)
  refine LW.seq ?_
  refine LW.region ?_
  refine X.u (LU.assignR Is.rfl') rfl ?_
  refine LL.nil (after_code ?_)
  refine LW.seq ?_
  refine LW.seq ?_
  refine LW.region ?_
  refine X.u (LU.moveR Is.rfl') rfl ?_
  refine X.u (LU.strlenN Try.underlying9 Is.rfl') rfl ?_
  refine X.u (LU.lss Is.rfl' Is.rfl') rfl ?_
  refine X.u (LU.moveR Is.rfl') rfl ?_
  refine X.gF rfl rfl (fun hg => LU.moveR (by exact Is.rfl')) rfl ?_
  refine X.gF rfl rfl (fun hg => LU.strlenN Try.underlying9 (by exact Is.whenN hg)) rfl ?_
  refine X.gF rfl rfl (fun hg => LU.gtr (by exact Is.whenN hg) (by exact Is.rfl')) rfl ?_
  refine X.u (LU.pickOr Is.rfl' Is.rfl' (fun hq => (by exact Is.whenN hq))) rfl ?_
  refine X.u (LU.moveR Is.rfl') rfl ?_
  refine X.gF rfl rfl (fun hg => LU.moveR (by exact Is.rfl')) rfl ?_
  refine X.gF rfl rfl (fun hg => LU.stratN Try.underlying9 (by exact Is.whenN hg) (by exact Is.rfl') (by omega) (by simp at hg; simp; omega)) rfl ?_
  refine X.gF rfl rfl (fun hg => LU.call (small_calls _) Try.func22 rfl rfl (Opds.cons (by exact Is.whenN hg) Opds.nil)) rfl ?_
  refine X.gF rfl rfl (fun hg => LU.not (by exact Is.whenN hg)) rfl ?_
  refine X.u (LU.pickOr Is.rfl' Is.rfl' (fun hq => (by exact Is.whenN hq))) rfl ?_
  refine LL.nil (after_code ?_)
  refine X.cond rfl (fun h1 => ?_) (fun h1 => ?_)
  · try have h1 := of_decide_eq_true h1
    refine LW.seq ?_
    refine LW.region ?_
    refine X.u (LU.assignR Is.rfl') rfl ?_
    refine LL.nil (after_code ?_)
    refine LW.ret (ret_code (after_end ?_))
    refine X.ret (H' := []) (Res.one (by exact IsR rfl)) (by repeat (exact HSub.refl _)) ?_
    exact ⟨by rw [name_bad h1], rfl⟩
  · try have h1 := of_decide_eq_false h1
    refine LW.skip (after_code ?_)
    refine LW.seq ?_
    refine LW.seq ?_
    refine LW.region ?_
    refine X.u (LU.assignR Is.rfl') rfl ?_
    refine LL.nil (after_code ?_)
    refine LW.block ?_
    refine X.loopK (α := Nat) (fun i => [(3, i64 i)]) [0] (fun _ => _) (fun i => i ≤ s.length ∧ (s.take i).all (fun c => letterB (c.toNat : Int) false) = true) (fun i => s.length - i) (0) (EnvLe.cons (by rfl) (EnvLe.nil)) (HSub.refl _) ?_ ?_
    · exact ⟨by omega, by simp⟩
    · rintro i hI
      obtain ⟨hk, hall⟩ := hI
      refine LW.seq ?_
      refine LW.seq ?_
      refine LW.region ?_
      refine X.u (LU.moveR Is.rfl') rfl ?_
      refine X.u (LU.moveR Is.rfl') rfl ?_
      refine X.u (LU.strlenN Try.underlying9 Is.rfl') rfl ?_
      refine X.u (LU.lss Is.rfl' Is.rfl') rfl ?_
      refine LL.nil (after_code ?_)
      refine X.cond rfl (fun h4 => ?_) (fun h4 => ?_)
      · try have h4 := of_decide_eq_true h4
        refine LW.skip (after_code ?_)
        refine LW.seq ?_
        refine LW.block ?_
        refine LW.seq ?_
        refine LW.region ?_
        refine X.u (LU.moveR Is.rfl') rfl ?_
        refine X.u (LU.moveR Is.rfl') rfl ?_
        refine X.u (LU.stratN Try.underlying9 Is.rfl' Is.rfl' (by omega) (by omega)) rfl ?_
        refine X.u (LU.call (small_calls _) Try.func22 rfl rfl (Opds.cons Is.rfl' Opds.nil)) rfl ?_
        refine X.u (LU.not Is.rfl') rfl ?_
        refine X.u (LU.moveR Is.rfl') rfl ?_
        refine X.gT rfl rfl (fun hg => LU.moveR (by exact Is.rfl')) rfl ?_
        refine X.gT rfl rfl (fun hg => LU.moveR (by exact Is.rfl')) rfl ?_
        refine X.gT rfl rfl (fun hg => LU.stratN Try.underlying9 (by exact Is.whenE hg) (by exact Is.whenE hg) (by omega) (by omega)) rfl ?_
        refine X.gT rfl rfl (fun hg => LU.call (digit_calls _) Try.func23 rfl rfl (Opds.cons (by exact Is.whenE hg) Opds.nil)) rfl ?_
        refine X.gT rfl rfl (fun hg => LU.not (by exact Is.whenE hg)) rfl ?_
        refine X.u (LU.pickAnd Is.rfl' (fun hq => (by exact Is.whenE hq)) Is.rfl') rfl ?_
        refine X.u (LU.moveR Is.rfl') rfl ?_
        refine X.gT rfl rfl (fun hg => LU.moveR (by exact Is.rfl')) rfl ?_
        refine X.gT rfl rfl (fun hg => LU.moveR (by exact Is.rfl')) rfl ?_
        refine X.gT rfl rfl (fun hg => LU.stratN Try.underlying9 (by exact Is.whenE hg) (by exact Is.whenE hg) (by omega) (by omega)) rfl ?_
        refine X.gT rfl rfl (fun hg => LU.neq (by exact Is.whenE hg) (by exact Is.rfl')) rfl ?_
        refine X.u (LU.pickAnd Is.rfl' (fun hq => (by exact Is.whenE hq)) Is.rfl') rfl ?_
        refine LL.nil (after_code ?_)
        refine X.cond rfl (fun h6 => ?_) (fun h6 => ?_)
        · try have h6 := of_decide_eq_true h6
          refine LW.seq ?_
          refine LW.region ?_
          refine X.u (LU.assignR Is.rfl') rfl ?_
          refine LL.nil (after_code ?_)
          refine LW.ret (ret_blk (ret_code (ret_rnd (ret_blk (ret_code (after_end ?_))))))
          refine X.ret (H' := []) (Res.one (by exact IsR rfl)) (by repeat (exact HSub.refl _)) ?_
          exact ⟨by unfold nameB; rw [word_bad2 h4 ((letter_narrow _).symm.trans h6)]; rfl, rfl⟩
        · try have h6 := of_decide_eq_false h6
          refine LW.skip (after_blk (after_code ?_))
          refine LW.region ?_
          refine X.u (LU.moveR Is.rfl') rfl ?_
          refine X.u (LU.addN Is.rfl' Is.rfl' (wrap_i64 (by omega) (by omega))) rfl ?_
          refine X.u (LU.assignR Is.rfl') rfl ?_
          refine LL.nil (after_rnd ?_)
          refine X.next (i + 1) rfl (EnvLe.cons (by rfl) (EnvLe.nil)) (Keeps.cons (by exact Eq.trans (b := .raw _) rfl rfl) (Keeps.nil)) (HSub.refl _) ?_ ?_
          · exact ⟨by omega, word_next h4 ((letter_narrow _).symm.trans h6) hall⟩
          · omega
      · try have h4 := of_decide_eq_false h4
        refine LW.exit (exit_code (exit_rnd (exit_blk (after_code ?_))))
        refine LW.seq ?_
        refine LW.region ?_
        refine X.u (LU.assignR Is.rfl') rfl ?_
        refine LL.nil (after_code ?_)
        refine LW.ret (after_end ?_)
        refine X.ret (H' := []) (Res.one (by exact IsR rfl)) (by repeat (exact HSub.refl _)) ?_
        exact ⟨by rw [name_good h1 h4 hall], rfl⟩
theorem rpart_bad {s : List UInt8} (h : (((decide ((s.length : Int) < 1) || decide (16 < (s.length : Int))) || decide (s = [46])) || decide (s = [46, 46])) = true) : partB s = false := by
  simp only [Bool.or_eq_true, decide_eq_true_eq] at h
  unfold partB
  rcases h with (h | h) | h
  · rw [word_bad (by simpa using h)]; rfl
  · simp [h]
  · simp [h]
theorem rpart_good {s : List UInt8} {i : Nat} (h : (((decide ((s.length : Int) < 1) || decide (16 < (s.length : Int))) || decide (s = [46])) || decide (s = [46, 46])) = false) (hi : ¬ (i : Int) < s.length) (ha : (s.take i).all (fun c => letterB (c.toNat : Int) true) = true) : partB s = true := by
  simp only [Bool.or_eq_false_iff] at h
  unfold partB
  rw [word_good (by simpa using h.1.1) hi ha, h.1.2, h.2]; rfl
set_option maxRecDepth 100000 in
theorem rpart_calls (s : List UInt8) (hs : s.length < 4611686018427387904) : LCalls Try.prog 25 [Str s] [] (fun r H' => r = bl (partB s) ∧ H' = []) := by
  refine LCalls.of Try.func25 rfl Try.ntmps25 Try.results25 rfl (fun Rf => ?_)
  refine LW.seq ?_
  refine LW.region ?_
  refine X.u (LU.assignR Is.rfl') rfl ?_
  refine LL.nil (after_code ?_)
  refine LW.seq ?_
  refine LW.seq ?_
  refine LW.region ?_
  refine X.u (LU.moveR Is.rfl') rfl ?_
  refine X.u (LU.strlenN Try.underlying9 Is.rfl') rfl ?_
  refine X.u (LU.lss Is.rfl' Is.rfl') rfl ?_
  refine X.u (LU.moveR Is.rfl') rfl ?_
  refine X.gF rfl rfl (fun hg => LU.moveR (by exact Is.rfl')) rfl ?_
  refine X.gF rfl rfl (fun hg => LU.strlenN Try.underlying9 (by exact Is.whenN hg)) rfl ?_
  refine X.gF rfl rfl (fun hg => LU.gtr (by exact Is.whenN hg) (by exact Is.rfl')) rfl ?_
  refine X.u (LU.pickOr Is.rfl' Is.rfl' (fun hq => (by exact Is.whenN hq))) rfl ?_
  refine X.u (LU.moveR Is.rfl') rfl ?_
  refine X.gF rfl rfl (fun hg => LU.moveR (by exact Is.rfl')) rfl ?_
  refine X.gF rfl rfl (fun hg => LU.streqN (by exact Is.whenN hg) (by exact Is.rfl')) rfl ?_
  refine X.u (LU.pickOr Is.rfl' Is.rfl' (fun hq => (by exact Is.whenN hq))) rfl ?_
  refine X.u (LU.moveR Is.rfl') rfl ?_
  refine X.gF rfl rfl (fun hg => LU.moveR (by exact Is.rfl')) rfl ?_
  refine X.gF rfl rfl (fun hg => LU.streqN (by exact Is.whenN hg) (by exact Is.rfl')) rfl ?_
  refine X.u (LU.pickOr Is.rfl' Is.rfl' (fun hq => (by exact Is.whenN hq))) rfl ?_
  refine LL.nil (after_code ?_)
  refine X.cond rfl (fun h1 => ?_) (fun h1 => ?_)
  · try have h1 := of_decide_eq_true h1
    refine LW.seq ?_
    refine LW.region ?_
    refine X.u (LU.assignR Is.rfl') rfl ?_
    refine LL.nil (after_code ?_)
    refine LW.ret (ret_code (after_end ?_))
    refine X.ret (H' := []) (Res.one (by exact IsR rfl)) (by repeat (exact HSub.refl _)) ?_
    exact ⟨by rw [rpart_bad h1], rfl⟩
  · try have h1 := of_decide_eq_false h1
    refine LW.skip (after_code ?_)
    refine LW.seq ?_
    refine LW.seq ?_
    refine LW.region ?_
    refine X.u (LU.assignR Is.rfl') rfl ?_
    refine LL.nil (after_code ?_)
    refine LW.block ?_
    refine X.loopK (α := Nat) (fun i => [(3, i64 i)]) [0] (fun _ => _) (fun i => i ≤ s.length ∧ (s.take i).all (fun c => letterB (c.toNat : Int) true) = true) (fun i => s.length - i) (0) (EnvLe.cons (by rfl) (EnvLe.nil)) (HSub.refl _) ?_ ?_
    · exact ⟨by omega, by simp⟩
    · rintro i hI
      obtain ⟨hk, hall⟩ := hI
      refine LW.seq ?_
      refine LW.seq ?_
      refine LW.region ?_
      refine X.u (LU.moveR Is.rfl') rfl ?_
      refine X.u (LU.moveR Is.rfl') rfl ?_
      refine X.u (LU.strlenN Try.underlying9 Is.rfl') rfl ?_
      refine X.u (LU.lss Is.rfl' Is.rfl') rfl ?_
      refine LL.nil (after_code ?_)
      refine X.cond rfl (fun h4 => ?_) (fun h4 => ?_)
      · try have h4 := of_decide_eq_true h4
        refine LW.skip (after_code ?_)
        refine LW.seq ?_
        refine LW.block ?_
        refine LW.seq ?_
        refine LW.region ?_
        refine X.u (LU.moveR Is.rfl') rfl ?_
        refine X.u (LU.moveR Is.rfl') rfl ?_
        refine X.u (LU.stratN Try.underlying9 Is.rfl' Is.rfl' (by omega) (by omega)) rfl ?_
        refine X.u (LU.call (small_calls _) Try.func22 rfl rfl (Opds.cons Is.rfl' Opds.nil)) rfl ?_
        refine X.u (LU.not Is.rfl') rfl ?_
        refine X.u (LU.moveR Is.rfl') rfl ?_
        refine X.gT rfl rfl (fun hg => LU.moveR (by exact Is.rfl')) rfl ?_
        refine X.gT rfl rfl (fun hg => LU.moveR (by exact Is.rfl')) rfl ?_
        refine X.gT rfl rfl (fun hg => LU.stratN Try.underlying9 (by exact Is.whenE hg) (by exact Is.whenE hg) (by omega) (by omega)) rfl ?_
        refine X.gT rfl rfl (fun hg => LU.call (digit_calls _) Try.func23 rfl rfl (Opds.cons (by exact Is.whenE hg) Opds.nil)) rfl ?_
        refine X.gT rfl rfl (fun hg => LU.not (by exact Is.whenE hg)) rfl ?_
        refine X.u (LU.pickAnd Is.rfl' (fun hq => (by exact Is.whenE hq)) Is.rfl') rfl ?_
        refine X.u (LU.moveR Is.rfl') rfl ?_
        refine X.gT rfl rfl (fun hg => LU.moveR (by exact Is.rfl')) rfl ?_
        refine X.gT rfl rfl (fun hg => LU.moveR (by exact Is.rfl')) rfl ?_
        refine X.gT rfl rfl (fun hg => LU.stratN Try.underlying9 (by exact Is.whenE hg) (by exact Is.whenE hg) (by omega) (by omega)) rfl ?_
        refine X.gT rfl rfl (fun hg => LU.neq (by exact Is.whenE hg) (by exact Is.rfl')) rfl ?_
        refine X.u (LU.pickAnd Is.rfl' (fun hq => (by exact Is.whenE hq)) Is.rfl') rfl ?_
        refine X.u (LU.moveR Is.rfl') rfl ?_
        refine X.gT rfl rfl (fun hg => LU.moveR (by exact Is.rfl')) rfl ?_
        refine X.gT rfl rfl (fun hg => LU.moveR (by exact Is.rfl')) rfl ?_
        refine X.gT rfl rfl (fun hg => LU.stratN Try.underlying9 (by exact Is.whenE hg) (by exact Is.whenE hg) (by omega) (by omega)) rfl ?_
        refine X.gT rfl rfl (fun hg => LU.neq (by exact Is.whenE hg) (by exact Is.rfl')) rfl ?_
        refine X.u (LU.pickAnd Is.rfl' (fun hq => (by exact Is.whenE hq)) Is.rfl') rfl ?_
        refine X.u (LU.moveR Is.rfl') rfl ?_
        refine X.gT rfl rfl (fun hg => LU.moveR (by exact Is.rfl')) rfl ?_
        refine X.gT rfl rfl (fun hg => LU.moveR (by exact Is.rfl')) rfl ?_
        refine X.gT rfl rfl (fun hg => LU.stratN Try.underlying9 (by exact Is.whenE hg) (by exact Is.whenE hg) (by omega) (by omega)) rfl ?_
        refine X.gT rfl rfl (fun hg => LU.neq (by exact Is.whenE hg) (by exact Is.rfl')) rfl ?_
        refine X.u (LU.pickAnd Is.rfl' (fun hq => (by exact Is.whenE hq)) Is.rfl') rfl ?_
        refine LL.nil (after_code ?_)
        refine X.cond rfl (fun h6 => ?_) (fun h6 => ?_)
        · try have h6 := of_decide_eq_true h6
          refine LW.seq ?_
          refine LW.region ?_
          refine X.u (LU.assignR Is.rfl') rfl ?_
          refine LL.nil (after_code ?_)
          refine LW.ret (ret_blk (ret_code (ret_rnd (ret_blk (ret_code (after_end ?_))))))
          refine X.ret (H' := []) (Res.one (by exact IsR rfl)) (by repeat (exact HSub.refl _)) ?_
          exact ⟨by unfold partB; rw [word_bad2 h4 ((letter_wide _).symm.trans h6)]; rfl, rfl⟩
        · try have h6 := of_decide_eq_false h6
          refine LW.skip (after_blk (after_code ?_))
          refine LW.region ?_
          refine X.u (LU.moveR Is.rfl') rfl ?_
          refine X.u (LU.addN Is.rfl' Is.rfl' (wrap_i64 (by omega) (by omega))) rfl ?_
          refine X.u (LU.assignR Is.rfl') rfl ?_
          refine LL.nil (after_rnd ?_)
          refine X.next (i + 1) rfl (EnvLe.cons (by rfl) (EnvLe.nil)) (Keeps.cons (by exact Eq.trans (b := .raw _) rfl rfl) (Keeps.nil)) (HSub.refl _) ?_ ?_
          · exact ⟨by omega, word_next h4 ((letter_wide _).symm.trans h6) hall⟩
          · omega
      · try have h4 := of_decide_eq_false h4
        refine LW.exit (exit_code (exit_rnd (exit_blk (after_code ?_))))
        refine LW.seq ?_
        refine LW.region ?_
        refine X.u (LU.assignR Is.rfl') rfl ?_
        refine LL.nil (after_code ?_)
        refine LW.ret (after_end ?_)
        refine X.ret (H' := []) (Res.one (by exact IsR rfl)) (by repeat (exact HSub.refl _)) ?_
        exact ⟨by rw [rpart_good h1 h4 hall], rfl⟩
theorem splits_seg : ∀ (l : List UInt8) (n : Nat), (∀ x ∈ l.take n, x ≠ 47) → l.getD n 0 = 47 → n < l.length → splits l = l.take n :: splits (l.drop (n + 1))
  | [], n, _, _, h => by simp at h
  | c :: l, 0, _, h, _ => by
    have : c = 47 := by simpa using h
    simp [splits, this]
  | c :: l, n + 1, hn, h, hl => by
    have hc : c ≠ 47 := hn c (by simp)
    have := splits_seg l n (fun x hx => hn x (by simp [hx])) (by simpa using h) (by simpa using hl)
    rw [splits, if_neg hc, this]
    rfl
theorem splits_last : ∀ (l : List UInt8), (∀ x ∈ l, x ≠ 47) → splits l = [l]
  | [], _ => rfl
  | c :: l, h => by
    rw [splits, if_neg (h c (by simp)), splits_last l (fun x hx => h x (by simp [hx]))]
theorem take_ne {s : List UInt8} {bg i : Nat} (hb : bg ≤ i) (hi : i < s.length) (hn : ∀ x ∈ (s.drop bg).take (i - bg), x ≠ 47) (hx : s.getD i 0 ≠ 47) : ∀ x ∈ (s.drop bg).take (i + 1 - bg), x ≠ 47 := by
  intro x hm
  rw [show i + 1 - bg = (i - bg) + 1 by omega, List.take_succ_eq_append_getElem (by simp; omega)] at hm
  rcases List.mem_append.1 hm with h | h
  · exact hn x h
  · simp only [List.mem_singleton, List.getElem_drop, show bg + (i - bg) = i by omega] at h
    rw [h]
    rwa [List.getD_eq_getElem?_getD, List.getElem?_eq_getElem hi, Option.getD_some] at hx
set_option maxRecDepth 100000 in
theorem split_calls (s : List UInt8) (hs : s.length < 1099511627776) : LCalls Try.prog 18 [Str s] [] (fun r H' => r = Strs (splits s) .unk ∧ H' = []) := by
  refine LCalls.of Try.func18 rfl Try.ntmps18 Try.results18 rfl (fun Rf => ?_)
  refine LW.seq ?_
  refine LW.region ?_
  refine X.u (LU.assign (Is.nil 1)) rfl ?_
  refine LL.nil (after_code ?_)
  refine LW.seq ?_
  refine LW.region ?_
  refine X.u (LU.assign (Is.nil 1)) rfl ?_
  refine LL.nil (after_code ?_)
  refine LW.seq ?_
  refine LW.region ?_
  refine X.u (LU.assignR Is.rfl') rfl ?_
  refine LL.nil (after_code ?_)
  refine LW.seq ?_
  refine LW.seq ?_
  refine LW.region ?_
  refine X.u (LU.assignR Is.rfl') rfl ?_
  refine LL.nil (after_code ?_)
  refine LW.block ?_
  refine X.wghost (HSub.tail0 0 0 0 (Nat.le_refl _) _) ?_
  refine X.wweak (t := 3) (v := Strs [] (.tok 0 0 0)) (Is.full_tok 0 0) ?_
  refine X.loopK (α := Nat × Nat × List (List UInt8) × Nat × Nat × Nat) (fun ⟨i, bg, acc, tb, to, tc⟩ => [(5, i64 i), (4, i64 bg), (3, Strs acc (.tok tb to tc))]) [0, 2] (fun ⟨i, bg, acc, tb, to, tc⟩ => [.tail tb to tc] ++ Rf) (fun ⟨i, bg, acc, tb, to, tc⟩ => i ≤ s.length ∧ bg ≤ i ∧ acc.length ≤ bg ∧ splits s = acc ++ splits (s.drop bg) ∧ ∀ x ∈ (s.drop bg).take (i - bg), x ≠ 47) (fun ⟨i, bg, acc, tb, to, tc⟩ => s.length - i) ((0, 0, [], 0, 0, 0)) (EnvLe.cons (by rfl) (EnvLe.cons (by rfl) (EnvLe.cons (by rfl) (EnvLe.nil)))) (by repeat (exact HSub.refl _)) ?_ ?_
  · exact ⟨Nat.zero_le _, Nat.le_refl _, by simp, by simp, by simp⟩
  · rintro ⟨i, bg, acc, tb, to, tc⟩ hI
    obtain ⟨hk, hb, hal, hsp, hne⟩ := hI
    refine LW.seq ?_
    refine LW.seq ?_
    refine LW.region ?_
    refine X.u (LU.moveR Is.rfl') rfl ?_
    refine X.u (LU.moveR Is.rfl') rfl ?_
    refine X.u (LU.strlenN Try.underlying9 Is.rfl') rfl ?_
    refine X.u (LU.lss Is.rfl' Is.rfl') rfl ?_
    refine LL.nil (after_code ?_)
    refine X.cond rfl (fun h4 => ?_) (fun h4 => ?_)
    · try have h4 := of_decide_eq_true h4
      refine LW.skip (after_code ?_)
      refine LW.seq ?_
      refine LW.block ?_
      refine LW.seq ?_
      refine LW.region ?_
      refine X.u (LU.moveR Is.rfl') rfl ?_
      refine X.u (LU.moveR Is.rfl') rfl ?_
      refine X.u (LU.stratN Try.underlying9 Is.rfl' Is.rfl' (by omega) (by omega)) rfl ?_
      refine X.u (LU.eql Is.rfl' Is.rfl') rfl ?_
      refine LL.nil (after_code ?_)
      refine X.cond rfl (fun h6 => ?_) (fun h6 => ?_)
      · try have h6 := of_decide_eq_true h6
        refine LW.seq ?_
        refine LW.region ?_
        refine X.u (LU.moveS Is.rfl') rfl ?_
        refine X.u (LU.moveR Is.rfl') rfl ?_
        refine X.u (LU.moveR Is.rfl') rfl ?_
        refine X.u (LU.moveR Is.rfl') rfl ?_
        refine X.u (LU.weak (LU.strsliceN (l := some _) (h := some _) Try.underlying9 ⟨_, Is.rfl'⟩ ⟨_, Is.rfl'⟩ (by simp only [Option.getD_some, Option.getD_none]; omega) (by simp only [Option.getD_some, Option.getD_none]; omega) (by simp only [Option.getD_some, Option.getD_none]; omega) Is.rfl') (Is.of (y := Str ((s.drop bg).take (i - bg))) (by simp))) rfl ?_
        refine X.u (LU.lits Try.underlying24 Try.sizeOf9 Try.zeroValue9 (ones rfl) rfl (by decide) (by decide) (Elems.cons Is.rfl' (by exact Cells.raw rfl) Elems.nil) (by (simp; done)) rfl) rfl ?_
        refine X.act (X.append 0 rfl rfl Try.underlying24 (El.of (P := Try.prog) (z := (.string ByteArray.empty)) (size := 1) (bytes := 16) rfl rfl rfl) Is.rfl' Is.rfl' (SrcL.slice Try.underlying24 (by decide) (by (intro e he; simp [chunks] at he; simp [he]; done))) (by simp only [Option.getD_some, Option.getD_none, byteEls_length, intEls_length, List.length_append, List.length_cons, List.length_nil, List.length_map, List.length_drop, List.length_take, Int.toNat_natCast]; omega) (by simp only [Option.getD_some, Option.getD_none, byteEls_length, intEls_length, List.length_append, List.length_cons, List.length_nil, List.length_map, List.length_drop, List.length_take, Int.toNat_natCast]; omega) (fun b22 o22 c22 => X.weak (t := 22) (Is.of (y := Strs (acc ++ [(s.drop bg).take (i - bg)]) (.tok b22 o22 c22)) (congrArg (fun z => LV.sl 1 z (.tok b22 o22 c22)) (strEls_snoc acc _))) ?_))
        refine X.u (LU.assignS Is.rfl') rfl ?_
        refine LL.nil (after_code ?_)
        refine LW.region ?_
        refine X.u (LU.moveR Is.rfl') rfl ?_
        refine X.u (LU.addN Is.rfl' Is.rfl' (wrap_i64 (by omega) (by omega))) rfl ?_
        refine X.u (LU.assignR Is.rfl') rfl ?_
        refine LL.nil (after_blk (after_code ?_))
        refine LW.region ?_
        refine X.u (LU.moveR Is.rfl') rfl ?_
        refine X.u (LU.addN Is.rfl' Is.rfl' (wrap_i64 (by omega) (by omega))) rfl ?_
        refine X.u (LU.assignR Is.rfl') rfl ?_
        refine LL.nil (after_rnd ?_)
        refine X.next ((i + 1, i + 1, acc ++ [(s.drop bg).take (i - bg)], b22, o22, c22)) rfl (EnvLe.cons (by rfl) (EnvLe.cons (by rfl) (EnvLe.cons (by rfl) (EnvLe.nil)))) (Keeps.cons (by exact Eq.trans (b := .raw _) rfl rfl) (Keeps.cons (by exact Eq.trans (b := .sl _ _ _) rfl rfl) (Keeps.nil))) (by repeat (exact HSub.refl _)) ?_ ?_
        · have h47 : s.getD i 0 = 47 := by
            rw [Int.toNat_natCast] at h6
            refine UInt8.toNat_inj.1 ?_
            show (s.getD i 0).toNat = 47
            omega
          have hg2 : (s.drop bg).getD (i - bg) 0 = 47 := by
            rw [List.getD_eq_getElem?_getD, List.getElem?_drop, show bg + (i - bg) = i by omega, ← List.getD_eq_getElem?_getD, h47]
          have hseg := splits_seg (s.drop bg) (i - bg) hne hg2 (by simp; omega)
          exact ⟨by omega, Nat.le_refl _, by simp; omega, by rw [hsp, hseg, List.drop_drop, List.append_assoc]; simp [show bg + (i - bg + 1) = i + 1 by omega], by simp⟩
        · (simp; omega)
      · try have h6 := of_decide_eq_false h6
        refine LW.skip (after_blk (after_code ?_))
        refine LW.region ?_
        refine X.u (LU.moveR Is.rfl') rfl ?_
        refine X.u (LU.addN Is.rfl' Is.rfl' (wrap_i64 (by omega) (by omega))) rfl ?_
        refine X.u (LU.assignR Is.rfl') rfl ?_
        refine LL.nil (after_rnd ?_)
        refine X.next ((i + 1, bg, acc, tb, to, tc)) rfl (EnvLe.cons (by rfl) (EnvLe.cons (by rfl) (EnvLe.cons (by rfl) (EnvLe.nil)))) (Keeps.cons (by exact Eq.trans (b := .raw _) rfl rfl) (Keeps.cons (by exact Eq.trans (b := .sl _ _ _) rfl rfl) (Keeps.nil))) (by repeat (exact HSub.refl _)) ?_ ?_
        · exact ⟨by omega, by omega, hal, hsp, take_ne hb (by omega) hne (fun h => h6 (by rw [Int.toNat_natCast, h]; rfl))⟩
        · (simp; omega)
    · try have h4 := of_decide_eq_false h4
      obtain rfl : i = s.length := by omega
      have hfin : splits (s.drop bg) = [s.drop bg] := splits_last _ (fun x hx => hne x (by rw [List.take_of_length_le (by simp)]; exact hx))
      refine LW.exit (exit_code (exit_rnd (exit_blk (after_code ?_))))
      refine LW.seq ?_
      refine LW.region ?_
      refine X.u (LU.moveS Is.rfl') rfl ?_
      refine X.u (LU.moveR Is.rfl') rfl ?_
      refine X.u (LU.moveR Is.rfl') rfl ?_
      refine X.u (LU.weak (LU.strsliceN (l := some _) (h := none) Try.underlying9 ⟨_, Is.rfl'⟩ trivial (by simp only [Option.getD_some, Option.getD_none]; omega) (by simp only [Option.getD_some, Option.getD_none]; omega) (by simp only [Option.getD_some, Option.getD_none]; omega) Is.rfl') (Is.of (y := Str (s.drop bg)) (by simp [List.take_of_length_le]))) rfl ?_
      refine X.u (LU.lits Try.underlying24 Try.sizeOf9 Try.zeroValue9 (ones rfl) rfl (by decide) (by decide) (Elems.cons Is.rfl' (by exact Cells.raw rfl) Elems.nil) (by (simp; done)) rfl) rfl ?_
      refine X.act (X.append 0 rfl rfl Try.underlying24 (El.of (P := Try.prog) (z := (.string ByteArray.empty)) (size := 1) (bytes := 16) rfl rfl rfl) Is.rfl' Is.rfl' (SrcL.slice Try.underlying24 (by decide) (by (intro e he; simp [chunks] at he; simp [he]; done))) (by simp only [Option.getD_some, Option.getD_none, byteEls_length, intEls_length, List.length_append, List.length_cons, List.length_nil, List.length_map, List.length_drop, List.length_take, Int.toNat_natCast]; omega) (by simp only [Option.getD_some, Option.getD_none, byteEls_length, intEls_length, List.length_append, List.length_cons, List.length_nil, List.length_map, List.length_drop, List.length_take, Int.toNat_natCast]; omega) (fun b30 o30 c30 => X.weak (t := 30) (Is.of (y := Strs (acc ++ [s.drop bg]) (.tok b30 o30 c30)) (congrArg (fun z => LV.sl 1 z (.tok b30 o30 c30)) (strEls_snoc acc _))) ?_))
      refine X.u (LU.assignS Is.rfl') rfl ?_
      refine LL.nil (after_code ?_)
      refine LW.ret (after_end ?_)
      refine X.ret (H' := []) (Res.one (by exact IsS rfl)) (by repeat (first | exact HSub.refl _ | refine HSub.drop ?_)) ?_
      exact ⟨by rw [hsp, hfin], rfl⟩
end Go.Proofs.Ytcemodldbfiomaa
