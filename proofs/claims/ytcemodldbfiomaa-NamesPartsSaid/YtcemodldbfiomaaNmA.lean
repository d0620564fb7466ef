/- What names' texts are made of; the library's search for a byte. -/
import Derived.Test.YtcemodldbfiomaaLogV
import Derived.Test.YtcemodldbfiomaaChecked
set_option linter.unusedVariables false
set_option linter.unusedSimpArgs false
namespace Go.Proofs.Ytcemodldbfiomaa
open Go.RowKit Go.L
attribute [local irreducible] LL LW LO
abbrev i64 (n : Int) : LV := .raw (.int .i64 n)
abbrev bl (b : Bool) : LV := .raw (.bool b)
/-- Whether a byte may stand in a name, or (wide) in a part of a path. -/
def letterB (c : Int) (wide : Bool) : Bool := (decide (97 ≤ c) && decide (c ≤ 122)) || (decide (48 ≤ c) && decide (c ≤ 57)) || decide (c = 45) || (wide && (decide (c = 46) || decide (c = 95)))
def wordB (l : List UInt8) (wide : Bool) : Bool := decide (1 ≤ l.length) && decide (l.length ≤ 16) && l.all (fun c => letterB (c.toNat : Int) wide)
/-- The text up to the first slash; behind it; whether there is one. -/
def headB : List UInt8 → List UInt8
  | [] => []
  | c :: l => if c = 47 then [] else c :: headB l
def restB : List UInt8 → List UInt8
  | [] => []
  | c :: l => if c = 47 then l else restB l
def moreB : List UInt8 → Bool
  | [] => false
  | c :: l => if c = 47 then true else moreB l
def splits : List UInt8 → List (List UInt8)
  | [] => [[]]
  | c :: l => if c = 47 then [] :: splits l else match splits l with
    | h :: t => (c :: h) :: t
    | [] => [[c]]
theorem splits_eq : ∀ l, splits l = headB l :: (if moreB l then splits (restB l) else [])
  | [] => rfl
  | c :: l => by
    by_cases hc : c = 47
    · simp [splits, headB, moreB, restB, hc]
    · simp only [splits, headB, moreB, restB, hc, if_false]
      rw [splits_eq l]
theorem rest_len : ∀ {l : List UInt8}, moreB l = true → (restB l).length < l.length
  | [], h => by cases h
  | c :: l, h => by
    unfold moreB at h
    unfold restB
    by_cases hc : c = 47
    · simp [hc]
    · simp only [hc, if_false] at h ⊢
      have := rest_len h
      exact Nat.lt_succ_of_lt this
theorem rest_le : ∀ (l : List UInt8), (restB l).length ≤ l.length
  | [] => by simp [restB]
  | c :: l => by
    unfold restB
    split
    · simp
    · have := rest_le l
      simp; omega
theorem cut_some : ∀ (l : List UInt8) (o : Nat), Lib.indexByte l 47 = o → o < l.length ∧ headB l = l.take o ∧ restB l = l.drop (o + 1) ∧ moreB l = true
  | [], o, h => by unfold Lib.indexByte at h; omega
  | c :: l, o, h => by
    unfold Lib.indexByte at h
    by_cases hc : c = 47
    · subst hc
      simp at h
      have : o = 0 := by omega
      subst this
      simp [headB, restB, moreB]
    · have hb : (c == 47) = false := by simpa using hc
      simp only [hb, Bool.false_eq_true, if_false] at h
      by_cases hn : Lib.indexByte l 47 = -1
      · rw [hn] at h; simp at h
      · have hb2 : (Lib.indexByte l 47 == -1) = false := by simpa using hn
        simp only [hb2, Bool.false_eq_true, if_false] at h
        have hge := Lib.indexByte_ge l 47
        obtain ⟨k, hk⟩ : ∃ k : Nat, Lib.indexByte l 47 = k := ⟨(Lib.indexByte l 47).toNat, by omega⟩
        obtain ⟨h1, h2, h3, h4⟩ := cut_some l k hk
        have : o = k + 1 := by omega
        subst this
        unfold headB restB moreB
        simp only [hc, if_false, h2, h3, h4]
        simp
        exact h1
theorem cut_none : ∀ (l : List UInt8), Lib.indexByte l 47 = -1 → headB l = l ∧ restB l = [] ∧ moreB l = false
  | [], h => by simp [headB, restB, moreB]
  | c :: l, h => by
    unfold Lib.indexByte at h
    by_cases hc : c = 47
    · subst hc; simp at h
    · have hb : (c == 47) = false := by simpa using hc
      simp only [hb, Bool.false_eq_true, if_false] at h
      by_cases hn : Lib.indexByte l 47 = -1
      · obtain ⟨h1, h2, h3⟩ := cut_none l hn
        unfold headB restB moreB
        simp [hc, h1, h2, h3]
      · have hb2 : (Lib.indexByte l 47 == -1) = false := by simpa using hn
        simp only [hb2, Bool.false_eq_true, if_false] at h
        have hge := Lib.indexByte_ge l 47
        omega
set_option maxRecDepth 100000 in
theorem letter_calls (c : UInt8) (wide : Bool) : LCalls Try.prog 29 [.raw (.int .u8 c.toNat), bl wide] [] (fun r H' => r = bl (letterB c.toNat wide) ∧ H' = []) := by
  have hc := c.toNat_lt
  refine LCalls.of Try.func29 rfl Try.ntmps29 Try.results29 rfl (fun Rf => ?_)
  refine LW.seq ?_
  refine LW.region ?_
  refine X.u (LU.assignR Is.rfl') rfl ?_
  refine LL.nil (after_code ?_)
  refine LW.seq ?_
  refine LW.block ?_
  refine LW.seq ?_
  refine LW.block ?_
  refine LW.seq ?_
  refine LW.block ?_
  refine LW.block ?_
  refine LW.block ?_
  refine LW.seq ?_
  refine LW.seq ?_
  refine LW.seq ?_
  refine LW.region ?_
  refine X.u (LU.moveR Is.rfl') rfl ?_
  refine X.u (LU.geq Is.rfl' Is.rfl') rfl ?_
  refine X.u (LU.moveR Is.rfl') rfl ?_
  refine X.gT rfl rfl (fun hg => LU.moveR (by exact Is.rfl')) rfl ?_
  refine X.gT rfl rfl (fun hg => LU.leq (by exact Is.whenE hg) (by exact Is.rfl')) rfl ?_
  refine X.u (LU.pickAnd Is.rfl' (fun hq => (by exact Is.whenE hq)) Is.rfl') rfl ?_
  refine X.u (LU.assignR Is.rfl') rfl ?_
  refine LL.nil (after_code ?_)
  refine X.cond rfl (fun h1 => ?_) (fun h1 => ?_)
  · try have h1 := of_decide_eq_true h1
    refine LW.exit (exit_code (exit_code (exit_blk (after_blk (after_blk (after_code ?_))))))
    refine LW.seq ?_
    refine LW.seq ?_
    refine LW.region ?_
    refine X.u (LU.assignR Is.rfl') rfl ?_
    refine LL.nil (after_code ?_)
    refine LW.ret (ret_code (ret_blk (ret_code (ret_blk (ret_code (after_end ?_))))))
    refine X.ret (H' := []) (Res.one (by exact IsR rfl)) (by repeat (exact HSub.refl _)) ?_
    refine ⟨congrArg bl (Eq.symm ?_), rfl⟩
    (rw [letterB, h1]; rfl)
  · try have h1 := of_decide_eq_false h1
    refine LW.skip (after_code ?_)
    refine LW.seq ?_
    refine LW.seq ?_
    refine LW.region ?_
    refine X.u (LU.moveR Is.rfl') rfl ?_
    refine X.u (LU.geq Is.rfl' Is.rfl') rfl ?_
    refine X.u (LU.moveR Is.rfl') rfl ?_
    refine X.gT rfl rfl (fun hg => LU.moveR (by exact Is.rfl')) rfl ?_
    refine X.gT rfl rfl (fun hg => LU.leq (by exact Is.whenE hg) (by exact Is.rfl')) rfl ?_
    refine X.u (LU.pickAnd Is.rfl' (fun hq => (by exact Is.whenE hq)) Is.rfl') rfl ?_
    refine X.u (LU.assignR Is.rfl') rfl ?_
    refine LL.nil (after_code ?_)
    refine X.cond rfl (fun h2 => ?_) (fun h2 => ?_)
    · try have h2 := of_decide_eq_true h2
      refine LW.exit (exit_code (exit_code (exit_blk' rfl (exit_blk (after_blk (after_code ?_))))))
      refine LW.seq ?_
      refine LW.seq ?_
      refine LW.region ?_
      refine X.u (LU.assignR Is.rfl') rfl ?_
      refine LL.nil (after_code ?_)
      refine LW.ret (ret_code (ret_blk (ret_code (ret_blk (ret_code (after_end ?_))))))
      refine X.ret (H' := []) (Res.one (by exact IsR rfl)) (by repeat (exact HSub.refl _)) ?_
      refine ⟨congrArg bl (Eq.symm ?_), rfl⟩
      (rw [letterB, h1, h2]; rfl)
    · try have h2 := of_decide_eq_false h2
      refine LW.skip (after_code ?_)
      refine LW.seq ?_
      refine LW.seq ?_
      refine LW.region ?_
      refine X.u (LU.moveR Is.rfl') rfl ?_
      refine X.u (LU.eql Is.rfl' Is.rfl') rfl ?_
      refine X.u (LU.assignR Is.rfl') rfl ?_
      refine LL.nil (after_code ?_)
      refine X.cond rfl (fun h3 => ?_) (fun h3 => ?_)
      · try have h3 := of_decide_eq_true h3
        refine LW.exit (exit_code (exit_code (exit_blk' rfl (exit_blk' rfl (exit_blk (after_code ?_))))))
        refine LW.seq ?_
        refine LW.seq ?_
        refine LW.region ?_
        refine X.u (LU.assignR Is.rfl') rfl ?_
        refine LL.nil (after_code ?_)
        refine LW.ret (ret_code (ret_blk (ret_code (ret_blk (ret_code (after_end ?_))))))
        refine X.ret (H' := []) (Res.one (by exact IsR rfl)) (by repeat (exact HSub.refl _)) ?_
        refine ⟨congrArg bl (Eq.symm ?_), rfl⟩
        (rw [letterB, h1, h2, decide_eq_true h3]; rfl)
      · try have h3 := of_decide_eq_false h3
        refine LW.skip (after_code ?_)
        refine LW.seq ?_
        refine LW.region ?_
        refine X.u (LU.moveR Is.rfl') rfl ?_
        refine X.u (LU.eql Is.rfl' Is.rfl') rfl ?_
        refine X.u (LU.moveR Is.rfl') rfl ?_
        refine X.gF rfl rfl (fun hg => LU.moveR (by exact Is.rfl')) rfl ?_
        refine X.gF rfl rfl (fun hg => LU.eql (by exact Is.whenN hg) (by exact Is.rfl')) rfl ?_
        refine X.u (LU.pickOr Is.rfl' Is.rfl' (fun hq => (by exact Is.whenN hq))) rfl ?_
        refine X.u (LU.assignR Is.rfl') rfl ?_
        refine LL.nil (after_code ?_)
        refine X.cond rfl (fun h4 => ?_) (fun h4 => ?_)
        · try have h4 := of_decide_eq_true h4
          refine LW.exit (exit_code (exit_blk' rfl (exit_blk' rfl (exit_blk' rfl (exit_code (exit_blk (after_code ?_)))))))
          refine LW.seq ?_
          refine LW.seq ?_
          refine LW.region ?_
          refine X.u (LU.moveR Is.rfl') rfl ?_
          refine X.u (LU.assignR Is.rfl') rfl ?_
          refine LL.nil (after_code ?_)
          refine LW.ret (ret_code (ret_blk (ret_code (after_end ?_))))
          refine X.ret (H' := []) (Res.one (by exact IsR rfl)) (by repeat (exact HSub.refl _)) ?_
          refine ⟨congrArg bl (Eq.symm ?_), rfl⟩
          (rw [letterB, h1, h2, decide_eq_false h3, h4]; simp)
        · try have h4 := of_decide_eq_false h4
          refine LW.skip (after_code ?_)
          refine LW.exit (exit_blk' rfl (exit_blk' rfl (exit_blk' rfl (exit_code (exit_blk' rfl (exit_code (exit_blk (after_code ?_))))))))
          refine LW.seq ?_
          refine LW.region ?_
          refine X.u (LU.assignR Is.rfl') rfl ?_
          refine LL.nil (after_code ?_)
          refine LW.ret (after_end ?_)
          refine X.ret (H' := []) (Res.one (by exact IsR rfl)) (by repeat (exact HSub.refl _)) ?_
          refine ⟨congrArg bl (Eq.symm ?_), rfl⟩
          (rw [letterB, h1, h2, decide_eq_false h3, h4]; simp)
theorem word_bad {l : List UInt8} {wide : Bool} (h1 : (decide ((l.length : Int) < 1) || decide (16 < (l.length : Int))) = true) : wordB l wide = false := by
  simp only [Bool.or_eq_true, decide_eq_true_eq] at h1
  simp only [wordB, Bool.and_eq_false_iff, decide_eq_false_iff_not]
  rcases h1 with h | h
  · exact .inl (.inl (by omega))
  · exact .inl (.inr (by omega))
theorem word_bad2 {l : List UInt8} {wide : Bool} {i : Nat} (h : (i : Int) < l.length) (h6 : (!letterB (l.getD (i : Int).toNat 0).toNat wide) = true) : wordB l wide = false := by
  have hi : i < l.length := by omega
  rw [Int.toNat_natCast, List.getD_eq_getElem?_getD, List.getElem?_eq_getElem hi, Option.getD_some] at h6
  simp only [wordB, Bool.and_eq_false_iff]
  refine .inr (List.all_eq_false.2 ⟨_, List.getElem_mem hi, by simpa using h6⟩)
theorem word_next {l : List UInt8} {wide : Bool} {i : Nat} (h : (i : Int) < l.length) (h6 : (!letterB (l.getD (i : Int).toNat 0).toNat wide) = false) (ha : (l.take i).all (fun c => letterB (c.toNat : Int) wide) = true) : (l.take (i + 1)).all (fun c => letterB (c.toNat : Int) wide) = true := by
  have hi : i < l.length := by omega
  rw [Int.toNat_natCast, List.getD_eq_getElem?_getD, List.getElem?_eq_getElem hi, Option.getD_some] at h6
  rw [List.take_succ_eq_append_getElem hi, List.all_append, ha]
  simpa using h6
theorem word_good {l : List UInt8} {wide : Bool} {i : Nat} (h1 : (decide ((l.length : Int) < 1) || decide (16 < (l.length : Int))) = false) (h : ¬ (i : Int) < l.length) (ha : (l.take i).all (fun c => letterB (c.toNat : Int) wide) = true) : wordB l wide = true := by
  rw [List.take_of_length_le (by omega)] at ha
  simp only [Bool.or_eq_false_iff, decide_eq_false_iff_not] at h1
  simp only [wordB, ha, Bool.and_true, Bool.and_eq_true, decide_eq_true_eq]
  omega
set_option maxRecDepth 100000 in
theorem word_calls (l : List UInt8) (wide : Bool) (hl : l.length < 4611686018427387904) : LCalls Try.prog 21 [Str l, bl wide] [] (fun r H' => r = bl (wordB l wide) ∧ H' = []) := by
  refine LCalls.of Try.func21 rfl Try.ntmps21 Try.results21 rfl (fun Rf => ?_)
  refine LW.seq ?_
  refine LW.region ?_
  refine X.u (LU.assignR Is.rfl') rfl ?_
  refine LL.nil (after_code ?_)
  refine LW.seq ?_
  refine LW.seq ?_
  refine LW.region ?_
  refine X.u (LU.moveR Is.rfl') rfl ?_
  refine X.u (LU.strlenN Try.underlying9 Is.rfl') rfl ?_
  refine X.u (LU.lss Is.rfl' Is.rfl') rfl ?_
  refine X.u (LU.moveR Is.rfl') rfl ?_
  refine X.gF rfl rfl (fun hg => LU.moveR (by exact Is.rfl')) rfl ?_
  refine X.gF rfl rfl (fun hg => LU.strlenN Try.underlying9 (by exact Is.whenN hg)) rfl ?_
  refine X.gF rfl rfl (fun hg => LU.gtr (by exact Is.whenN hg) (by exact Is.rfl')) rfl ?_
  refine X.u (LU.pickOr Is.rfl' Is.rfl' (fun hq => (by exact Is.whenN hq))) rfl ?_
  refine LL.nil (after_code ?_)
  refine X.cond rfl (fun h1 => ?_) (fun h1 => ?_)
  · try have h1 := of_decide_eq_true h1
    refine LW.seq ?_
    refine LW.region ?_
    refine X.u (LU.assignR Is.rfl') rfl ?_
    refine LL.nil (after_code ?_)
    refine LW.ret (ret_code (after_end ?_))
    refine X.ret (H' := []) (Res.one (by exact IsR rfl)) (by repeat (exact HSub.refl _)) ?_
    exact ⟨by rw [word_bad h1], rfl⟩
  · try have h1 := of_decide_eq_false h1
    refine LW.skip (after_code ?_)
    refine LW.seq ?_
    refine LW.seq ?_
    refine LW.region ?_
    refine X.u (LU.moveR Is.rfl') rfl ?_
    refine X.u (LU.strlenN Try.underlying9 Is.rfl') rfl ?_
    refine X.u (LU.moveR Is.rfl') rfl ?_
    refine LL.nil (after_code ?_)
    refine LW.block ?_
    refine X.loopK (α := Nat) (fun i => [(16, i64 i)]) [0, 1, 15] (fun _ => _) (fun i => i ≤ l.length ∧ (l.take i).all (fun c => letterB (c.toNat : Int) wide) = true) (fun i => l.length - i) (0) (EnvLe.cons (by rfl) (EnvLe.nil)) (HSub.refl _) ?_ ?_
    · exact ⟨by omega, by simp⟩
    · rintro i hI
      obtain ⟨hk, hall⟩ := hI
      refine LW.seq ?_
      refine LW.region ?_
      refine X.u (LU.lss Is.rfl' Is.rfl') rfl ?_
      refine LL.nil (after_code ?_)
      refine LW.seq ?_
      refine X.cond rfl (fun h4 => ?_) (fun h4 => ?_)
      · try have h4 := of_decide_eq_true h4
        refine LW.skip (after_code ?_)
        refine LW.seq ?_
        refine LW.block ?_
        refine LW.seq ?_
        refine LW.region ?_
        refine X.u (LU.moveR Is.rfl') rfl ?_
        refine X.u (LU.assignR Is.rfl') rfl ?_
        refine LL.nil (after_code ?_)
        refine LW.seq ?_
        refine LW.region ?_
        refine X.u (LU.moveR Is.rfl') rfl ?_
        refine X.u (LU.moveR Is.rfl') rfl ?_
        refine X.u (LU.stratN Try.underlying9 Is.rfl' Is.rfl' (by omega) (by omega)) rfl ?_
        refine X.u (LU.moveR Is.rfl') rfl ?_
        refine X.u (LU.call (letter_calls _ wide) Try.func29 rfl rfl (Opds.cons Is.rfl' (Opds.cons Is.rfl' Opds.nil))) rfl ?_
        refine X.u (LU.not Is.rfl') rfl ?_
        refine LL.nil (after_code ?_)
        refine X.cond rfl (fun h6 => ?_) (fun h6 => ?_)
        · try have h6 := of_decide_eq_true h6
          refine LW.seq ?_
          refine LW.region ?_
          refine X.u (LU.assignR Is.rfl') rfl ?_
          refine LL.nil (after_code ?_)
          refine LW.ret (ret_blk (ret_code (ret_rnd (ret_blk (ret_code (after_end ?_))))))
          refine X.ret (H' := []) (Res.one (by exact IsR rfl)) (by repeat (exact HSub.refl _)) ?_
          exact ⟨by rw [word_bad2 h4 h6], rfl⟩
        · try have h6 := of_decide_eq_false h6
          refine LW.skip (after_blk (after_code ?_))
          refine LW.region ?_
          refine X.u (LU.addN Is.rfl' Is.rfl' (wrap_i64 (by omega) (by omega))) rfl ?_
          refine X.u (LU.moveR Is.rfl') rfl ?_
          refine LL.nil (after_rnd ?_)
          refine X.next (i + 1) rfl (EnvLe.cons (by rfl) (EnvLe.nil)) (Keeps.cons (by exact Eq.trans (b := .raw _) rfl rfl) (Keeps.cons (by exact Eq.trans (b := .raw _) rfl rfl) (Keeps.cons (by exact Eq.trans (b := .raw _) rfl rfl) (Keeps.nil)))) (HSub.refl _) ?_ ?_
          · exact ⟨by omega, word_next h4 h6 hall⟩
          · omega
      · try have h4 := of_decide_eq_false h4
        refine LW.exit (exit_code (exit_rnd (exit_blk (after_code ?_))))
        refine LW.seq ?_
        refine LW.region ?_
        refine X.u (LU.assignR Is.rfl') rfl ?_
        refine LL.nil (after_code ?_)
        refine LW.ret (after_end ?_)
        refine X.ret (H' := []) (Res.one (by exact IsR rfl)) (by repeat (exact HSub.refl _)) ?_
        exact ⟨by rw [word_good h1 h4 hall], rfl⟩
theorem ib1 : (Try.f40.name == "runtime.NumGoroutine") = false := by kernel_rfl
theorem ib2 : Try.f40.body.isNone = true := by kernel_rfl
theorem ib3 : Extern.findNext Try.f40 = none := by kernel_rfl
theorem ib4 : Extern.find Try.f40 = some Extern.BytealgIndexByte.indexByte := by kernel_rfl
set_option maxHeartbeats 3000000 in
set_option maxRecDepth 100000 in
theorem ibyte_calls (l : List UInt8) (b : UInt8) : LCalls Try.prog 36 [Str l, .raw (.int .u8 b.toNat)] [] (fun r H' => r = i64 (Lib.indexByte l b) ∧ H' = []) := by
  refine LCalls.of Try.func36 rfl Try.ntmps36 Try.results36 rfl (fun Rf => ?_)
  refine LW.seq ?_
  refine LW.region ?_
  refine X.u (LU.assignR Is.rfl') rfl ?_
  refine LL.nil (after_code ?_)
  refine LW.seq ?_
  refine LW.region ?_
  refine X.u (LU.moveR Is.rfl') rfl ?_
  refine X.u (LU.moveR Is.rfl') rfl ?_
  refine X.u (LU.indexByte Try.func40 ib1 ib2 ib3 ib4 Is.rfl' Is.rfl') rfl ?_
  refine X.u (LU.assignR Is.rfl') rfl ?_
  refine LL.nil (after_code ?_)
  refine LW.ret (after_end ?_)
  refine X.ret (H' := []) (Res.one (by exact IsR rfl)) (by repeat (exact HSub.refl _)) ?_
  exact ⟨rfl, rfl⟩
set_option maxRecDepth 100000 in
theorem index_calls (l : List UInt8) (b : UInt8) : LCalls Try.prog 35 [Str l, Str [b]] [] (fun r H' => r = i64 (Lib.indexByte l b) ∧ H' = []) := by
  refine LCalls.of Try.func35 rfl Try.ntmps35 Try.results35 rfl (fun Rf => ?_)
  refine LW.seq ?_
  refine LW.region ?_
  refine X.u (LU.assignR Is.rfl') rfl ?_
  refine LL.nil (after_code ?_)
  refine LW.seq ?_
  refine LW.region ?_
  refine X.u (LU.moveR Is.rfl') rfl ?_
  refine X.u (LU.strlenN Try.underlying9 Is.rfl') rfl ?_
  refine X.u (LU.assignR Is.rfl') rfl ?_
  refine LL.nil (after_code ?_)
  refine LW.seq ?_
  refine LW.block ?_
  refine LW.seq ?_
  refine LW.region ?_
  refine X.u (LU.moveR Is.rfl') rfl ?_
  refine X.u (LU.eql Is.rfl' Is.rfl') rfl ?_
  refine X.u (LU.moveR Is.rfl') rfl ?_
  refine X.doF rfl rfl (LU.moveR (by exact Is.rfl')) rfl ?_
  refine X.doF rfl rfl (LU.moveR (by exact Is.rfl')) rfl ?_
  refine X.doF rfl rfl (LU.streqN (by exact Is.rfl') (by exact Is.rfl')) rfl ?_
  refine X.u (LU.pickF Is.rfl' (by exact Is.rfl')) rfl ?_
  refine X.u (LU.assignR Is.rfl') rfl ?_
  refine LL.nil (after_code ?_)
  refine X.cond rfl (fun h2 => ?_) (fun h2 => ?_)
  · try have h2 := of_decide_eq_true h2
    refine LW.seq ?_
    refine LW.region ?_
    refine X.u (LU.assignR Is.rfl') rfl ?_
    refine LL.nil (after_code ?_)
    refine LW.ret (ret_blk (ret_code (after_end ?_)))
    refine X.ret (H' := []) (Res.one (by exact IsR rfl)) (by repeat (exact HSub.refl _)) ?_
    exact ⟨by rw [← h2]; simp [Lib.indexByte], rfl⟩
  · try have h2 := of_decide_eq_false h2
    refine LW.seq ?_
    refine LW.region ?_
    refine X.u (LU.moveR Is.rfl') rfl ?_
    refine X.u (LU.eql Is.rfl' Is.rfl') rfl ?_
    refine X.u (LU.assignR Is.rfl') rfl ?_
    refine LL.nil (after_code ?_)
    refine X.condT rfl ?_ ?_
    · rfl
    refine LW.seq ?_
    refine LW.region ?_
    refine X.u (LU.moveR Is.rfl') rfl ?_
    refine X.u (LU.moveR Is.rfl') rfl ?_
    refine X.u (LU.stratN Try.underlying9 Is.rfl' Is.rfl' (by omega) (by (simp; done))) rfl ?_
    refine X.u (LU.call (ibyte_calls l b) Try.func36 rfl rfl (Opds.cons Is.rfl' (Opds.cons Is.rfl' Opds.nil))) rfl ?_
    refine X.u (LU.assignR Is.rfl') rfl ?_
    refine LL.nil (after_code ?_)
    refine LW.ret (ret_blk (ret_code (after_end ?_)))
    refine X.ret (H' := []) (Res.one (by exact IsR rfl)) (by repeat (exact HSub.refl _)) ?_
    exact ⟨rfl, rfl⟩
set_option maxRecDepth 100000 in
theorem lcut_calls (l : List UInt8) (hl : l.length < 4611686018427387904) : LCalls Try.prog 34 [Str l, Str [47]] [] (fun r H' => r = .tup [Str (headB l), Str (restB l), bl (moreB l)] ∧ H' = []) := by
  have hge := Lib.indexByte_ge l 47
  refine LCalls.of Try.func34 rfl Try.ntmps34 Try.results34 rfl (fun Rf => ?_)
  refine LW.seq ?_
  refine LW.region ?_
  refine X.u (LU.assignR Is.rfl') rfl ?_
  refine X.u (LU.assignR Is.rfl') rfl ?_
  refine X.u (LU.assignR Is.rfl') rfl ?_
  refine LL.nil (after_code ?_)
  refine LW.seq ?_
  refine LW.seq ?_
  refine LW.region ?_
  refine X.u (LU.moveR Is.rfl') rfl ?_
  refine X.u (LU.moveR Is.rfl') rfl ?_
  refine X.u (LU.call (index_calls l 47) Try.func35 rfl rfl (Opds.cons Is.rfl' (Opds.cons Is.rfl' Opds.nil))) rfl ?_
  refine X.u (LU.assignR Is.rfl') rfl ?_
  refine LL.nil (after_code ?_)
  refine LW.seq ?_
  refine LW.region ?_
  refine X.u (LU.moveR Is.rfl') rfl ?_
  refine X.u (LU.geq Is.rfl' Is.rfl') rfl ?_
  refine LL.nil (after_code ?_)
  refine X.cond rfl (fun h2 => ?_) (fun h2 => ?_)
  · obtain ⟨o, ho⟩ : ∃ o : Nat, Lib.indexByte l 47 = o := ⟨(Lib.indexByte l 47).toNat, by have := of_decide_eq_true h2; omega⟩
    obtain ⟨c1, c2, c3, c4⟩ := cut_some l o ho
    rw [ho]
    refine LW.seq ?_
    refine X.drawM 12 rfl (by kernel_rfl) rfl ?_
    refine QD.u (LU.moveR Is.rfl') rfl ?_
    refine QD.u (LU.moveR Is.rfl') rfl ?_
    refine QD.u (LU.strsliceN (l := none) (h := some _) Try.underlying9 trivial ⟨_, Is.rfl'⟩ (by simp only [Option.getD_some, Option.getD_none]; omega) (by simp only [Option.getD_some, Option.getD_none]; omega) (by simp only [Option.getD_some, Option.getD_none]; omega) Is.rfl') rfl ?_
    refine QD.u (LU.moveR Is.rfl') rfl ?_
    refine QD.u (LU.moveR Is.rfl') rfl ?_
    refine QD.u (LU.moveR Is.rfl') rfl ?_
    refine QD.u (LU.strlenN Try.underlying9 Is.rfl') rfl ?_
    refine QD.u (LU.weak (LU.add Is.rfl' Is.rfl') (Is.of (y := i64 (o + 1 : Nat)) (by simp; exact wrap_i64 (by omega) (by omega)))) rfl ?_
    refine QD.u (LU.strsliceN (l := some _) (h := none) Try.underlying9 ⟨_, Is.rfl'⟩ trivial (by simp only [Option.getD_some, Option.getD_none]; omega) (by simp only [Option.getD_some, Option.getD_none]; omega) (by simp only [Option.getD_some, Option.getD_none]; omega) Is.rfl') rfl ?_
    refine QD.u (LU.assignR Is.rfl') rfl ?_
    refine QD.u (LU.assignR Is.rfl') rfl ?_
    refine QD.u (LU.assignR Is.rfl') rfl ?_
    refine QD.nil ?_
    refine LL.nil (after_code ?_)
    refine LW.ret (ret_code (after_end ?_))
    refine X.ret (H' := []) (Res.three (by exact IsR rfl) (by exact IsR rfl) (by exact IsR rfl)) (by repeat (exact HSub.refl _)) ?_
    exact ⟨by rw [c2, c3, c4]; simp [List.take_of_length_le], rfl⟩
  · obtain ⟨c2, c3, c4⟩ := cut_none l (by have := of_decide_eq_false h2; omega)
    refine LW.skip (after_code ?_)
    refine LW.seq ?_
    refine LW.region ?_
    refine X.u (LU.moveR Is.rfl') rfl ?_
    refine X.u (LU.assignR Is.rfl') rfl ?_
    refine X.u (LU.assignR Is.rfl') rfl ?_
    refine X.u (LU.assignR Is.rfl') rfl ?_
    refine LL.nil (after_code ?_)
    refine LW.ret (after_end ?_)
    refine X.ret (H' := []) (Res.three (by exact IsR rfl) (by exact IsR rfl) (by exact IsR rfl)) (by repeat (exact HSub.refl _)) ?_
    exact ⟨by rw [c2, c3, c4], rfl⟩
set_option maxRecDepth 100000 in
theorem cut_calls (l : List UInt8) (hl : l.length < 4611686018427387904) : LCalls Try.prog 31 [Str l, Str [47]] [] (fun r H' => r = .tup [Str (headB l), Str (restB l), bl (moreB l)] ∧ H' = []) := by
  refine LCalls.of Try.func31 rfl Try.ntmps31 Try.results31 rfl (fun Rf => ?_)
  refine LW.seq ?_
  refine LW.region ?_
  refine X.u (LU.assignR Is.rfl') rfl ?_
  refine X.u (LU.assignR Is.rfl') rfl ?_
  refine X.u (LU.assignR Is.rfl') rfl ?_
  refine LL.nil (after_code ?_)
  refine LW.seq ?_
  refine LW.region ?_
  refine X.u (LU.moveR Is.rfl') rfl ?_
  refine X.u (LU.moveR Is.rfl') rfl ?_
  refine X.u (LU.call (lcut_calls l hl) Try.func34 rfl rfl (Opds.cons Is.rfl' (Opds.cons Is.rfl' Opds.nil))) rfl ?_
  refine X.u (LU.extract Is.rfl' rfl) rfl ?_
  refine X.u (LU.extract Is.rfl' rfl) rfl ?_
  refine X.u (LU.extract Is.rfl' rfl) rfl ?_
  refine X.u (LU.assignR Is.rfl') rfl ?_
  refine X.u (LU.assignR Is.rfl') rfl ?_
  refine X.u (LU.assignR Is.rfl') rfl ?_
  refine LL.nil (after_code ?_)
  refine LW.ret (after_end ?_)
  refine X.ret (H' := []) (Res.three (by exact IsR rfl) (by exact IsR rfl) (by exact IsR rfl)) (by repeat (exact HSub.refl _)) ?_
  exact ⟨rfl, rfl⟩
end Go.Proofs.Ytcemodldbfiomaa
