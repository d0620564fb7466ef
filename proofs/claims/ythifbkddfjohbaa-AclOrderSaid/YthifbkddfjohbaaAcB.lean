/- A rule: who it speaks of; whether it may be; whether it speaks of what is asked. -/
import Derived.Test.YthifbkddfjohbaaAcA
set_option linter.unusedVariables false
set_option linter.unusedSimpArgs false
namespace Go.Proofs.Ythifbkddfjohbaa
open Go.RowKit Go.L
structure Rl where
  who : List UInt8
  chan : List UInt8
  pre : List UInt8
  right : Int
  deny : Bool
deriving DecidableEq
abbrev rL (r : Rl) : List LV := [Str r.who, Str r.chan, Str r.pre, i64 r.right, bl r.deny]
structure Sb where
  user : List UInt8
  teams : List (List UInt8)
  k : Cap
  role : Int
abbrev sL (s : Sb) : List LV := [Str s.user, Strs s.teams s.k, i64 s.role]
/-- What is known of a rule's texts. -/
def RlOk (r : Rl) : Prop := r.who.length ≤ reachBytes ∧ r.chan.length ≤ reachBytes ∧ r.pre.length ≤ reachBytes
def SbOk (s : Sb) : Prop := s.user.length ≤ reachBytes ∧ (∀ t ∈ s.teams, t.length ≤ reachBytes) ∧ s.teams.length * 16 ≤ reachBytes
theorem reach_lt : reachBytes < 140737488355328 := by decide
theorem restC_le (sep : UInt8) : ∀ (l : List UInt8), (restC sep l).length ≤ l.length
  | [] => by simp [restC]
  | c :: l => by
    unfold restC
    split
    · simp
    · have := restC_le sep l
      simp; omega
theorem moreC_eq {sep : UInt8} : ∀ {l : List UInt8}, moreC sep l = true → l = headC sep l ++ sep :: restC sep l
  | [], h => by simp [moreC] at h
  | c :: l, h => by
    unfold moreC at h
    unfold headC restC
    by_cases hc : c = sep
    · simp [hc]
    · simp only [hc, if_false] at h ⊢
      rw [List.cons_append, ← moreC_eq h]
def whoB (w : List UInt8) : Bool := if ((moreC 58 w && decide (headC 58 w = [117])) || (moreC 58 w && decide (headC 58 w = [116]))) = true then nameB (restC 58 w) else decide (w = [42])
set_option maxRecDepth 100000 in
theorem who_calls (w : List UInt8) (hw : w.length ≤ reachBytes) : LCalls Try.prog 43 [Str w] [] (fun r H' => r = bl (whoB w) ∧ H' = []) := by
  have hr := reach_lt
  have hle : (restC 58 w).length ≤ w.length := restC_le 58 w
  refine LCalls.of Try.func43 rfl Try.ntmps43 Try.results43 rfl (fun Rf => ?_)
  refine LW.seq ?_
  refine LW.region ?_
  refine X.u (LU.assignR Is.rfl') rfl ?_
  refine LL.nil (after_code ?_)
  refine LW.seq ?_
  refine LW.region ?_
  refine X.u (LU.moveR Is.rfl') rfl ?_
  refine X.u (LU.call (cutC_calls w 58 (by omega)) Try.func66 rfl rfl (Opds.cons Is.rfl' (Opds.cons Is.rfl' Opds.nil))) rfl ?_
  refine X.u (LU.moveT Is.rfl') rfl ?_
  refine X.u (LU.extract Is.rfl' rfl) rfl ?_
  refine X.u (LU.extract Is.rfl' rfl) rfl ?_
  refine X.u (LU.extract Is.rfl' rfl) rfl ?_
  refine X.u (LU.assignR Is.rfl') rfl ?_
  refine X.u (LU.assignR Is.rfl') rfl ?_
  refine X.u (LU.assignR Is.rfl') rfl ?_
  refine LL.nil (after_code ?_)
  refine LW.seq ?_
  refine LW.block ?_
  refine LW.seq ?_
  refine LW.block ?_
  refine LW.block ?_
  refine LW.seq ?_
  refine LW.seq ?_
  refine LW.seq ?_
  refine LW.region ?_
  refine X.u (LU.moveR Is.rfl') rfl ?_
  refine X.u (LU.moveR Is.rfl') rfl ?_
  refine X.gT rfl rfl (fun hg => LU.moveR (by exact Is.rfl')) rfl ?_
  refine X.gT rfl rfl (fun hg => LU.streqN (by exact Is.whenE hg) (by exact Is.rfl')) rfl ?_
  refine X.u (LU.pickAnd Is.rfl' (fun hq => (by exact Is.whenE hq)) Is.rfl') rfl ?_
  refine X.u (LU.assignR Is.rfl') rfl ?_
  refine LL.nil (after_code ?_)
  refine X.cond rfl (fun h2 => ?_) (fun h2 => ?_)
  · try have h2 := of_decide_eq_true h2
    refine LW.exit (exit_code (exit_code (exit_blk (after_blk (after_code ?_)))))
    refine LW.seq ?_
    refine LW.seq ?_
    refine LW.region ?_
    refine X.u (LU.moveR Is.rfl') rfl ?_
    refine X.u (LU.call (name_calls _ (by omega)) Try.func44 rfl rfl (Opds.cons Is.rfl' Opds.nil)) rfl ?_
    refine X.u (LU.assignR Is.rfl') rfl ?_
    refine LL.nil (after_code ?_)
    refine LW.ret (ret_code (ret_blk (ret_code (after_end ?_))))
    refine X.ret (H' := []) (Res.one (by exact IsR rfl)) (by exact HSub.refl _) ?_
    exact ⟨by unfold whoB; rw [if_pos (by rw [h2]; rfl)], rfl⟩
  · try have h2 := of_decide_eq_false h2
    refine LW.skip (after_code ?_)
    refine LW.seq ?_
    refine LW.region ?_
    refine X.u (LU.moveR Is.rfl') rfl ?_
    refine X.u (LU.moveR Is.rfl') rfl ?_
    refine X.gT rfl rfl (fun hg => LU.moveR (by exact Is.rfl')) rfl ?_
    refine X.gT rfl rfl (fun hg => LU.streqN (by exact Is.whenE hg) (by exact Is.rfl')) rfl ?_
    refine X.u (LU.pickAnd Is.rfl' (fun hq => (by exact Is.whenE hq)) Is.rfl') rfl ?_
    refine X.u (LU.assignR Is.rfl') rfl ?_
    refine LL.nil (after_code ?_)
    refine X.cond rfl (fun h3 => ?_) (fun h3 => ?_)
    · try have h3 := of_decide_eq_true h3
      refine LW.exit (exit_code (exit_blk' rfl (exit_blk (after_code ?_))))
      refine LW.seq ?_
      refine LW.seq ?_
      refine LW.region ?_
      refine X.u (LU.moveR Is.rfl') rfl ?_
      refine X.u (LU.call (name_calls _ (by omega)) Try.func44 rfl rfl (Opds.cons Is.rfl' Opds.nil)) rfl ?_
      refine X.u (LU.assignR Is.rfl') rfl ?_
      refine LL.nil (after_code ?_)
      refine LW.ret (ret_code (ret_blk (ret_code (after_end ?_))))
      refine X.ret (H' := []) (Res.one (by exact IsR rfl)) (by exact HSub.refl _) ?_
      exact ⟨by unfold whoB; rw [if_pos (by rw [h3, Bool.or_true])], rfl⟩
    · try have h3 := of_decide_eq_false h3
      refine LW.skip (after_code ?_)
      refine LW.exit (exit_blk' rfl (exit_blk' rfl (exit_code (exit_blk (after_code ?_)))))
      refine LW.seq ?_
      refine LW.region ?_
      refine X.u (LU.moveR Is.rfl') rfl ?_
      refine X.u (LU.streqN Is.rfl' Is.rfl') rfl ?_
      refine X.u (LU.assignR Is.rfl') rfl ?_
      refine LL.nil (after_code ?_)
      refine LW.ret (after_end ?_)
      refine X.ret (H' := []) (Res.one (by exact IsR rfl)) (by exact HSub.refl _) ?_
      exact ⟨by unfold whoB; rw [if_neg (by rw [h2, h3]; simp)], rfl⟩
def rightB (r : Rl) : Bool := ((whoB r.who && (decide (r.chan = []) || nameB r.chan)) && (decide (r.pre = []) || pathB r.pre)) && (decide (r.right = 1) || decide (r.right = 2))
set_option maxRecDepth 100000 in
theorem right_calls (r : Rl) (hr : RlOk r) : LCalls Try.prog 16 [.agg (rL r)] [] (fun x H' => x = bl (rightB r) ∧ H' = []) := by
  have hrl := reach_lt
  obtain ⟨hr1, hr2, hr3⟩ := hr
  refine LCalls.of Try.func16 rfl Try.ntmps16 Try.results16 rfl (fun Rf => ?_)
  refine LW.seq ?_
  refine LW.region ?_
  refine X.act (X.box rfl Is.rfl' (by exact Cells.agg) (fun b1 => ?_))
  refine X.u (LU.assignR Is.rfl') rfl ?_
  refine LL.nil (after_code ?_)
  refine LW.seq ?_
  refine LW.region ?_
  refine X.u (LU.fieldO Try.underlying31 rfl Try.sizeOf9 (by decide) Is.rfl') rfl ?_
  refine X.u (LU.loadO 0 rfl ⟨Try.sizeOf9, Try.isAgg9⟩ Is.rfl' (Part.one rfl)) rfl ?_
  refine X.u (LU.call (who_calls r.who hr1) Try.func43 rfl rfl (Opds.cons Is.rfl' Opds.nil)) rfl ?_
  refine X.u (LU.moveR Is.rfl') rfl ?_
  refine X.gT rfl rfl (fun hg => LU.fieldO Try.underlying31 rfl Try.sizeOf9 (by decide) (by exact Is.rfl')) rfl ?_
  refine X.gT rfl rfl (fun hg => LU.loadO 0 rfl ⟨Try.sizeOf9, Try.isAgg9⟩ (by exact Is.whenE hg) (Part.one rfl)) rfl ?_
  refine X.gT rfl rfl (fun hg => LU.streqN (by exact Is.whenE hg) (by exact Is.rfl')) rfl ?_
  refine X.gT rfl rfl (fun hg => LU.moveR (by exact Is.whenE hg)) rfl ?_
  refine X.gF2 rfl rfl (fun hg0 hg => LU.fieldO Try.underlying31 rfl Try.sizeOf9 (by decide) (by exact Is.rfl')) rfl ?_
  refine X.gF2 rfl rfl (fun hg0 hg => LU.loadO 0 rfl ⟨Try.sizeOf9, Try.isAgg9⟩ (by exact Is.whenE (by rw [hg0, hg]; rfl)) (Part.one rfl)) rfl ?_
  refine X.gF2 rfl rfl (fun hg0 hg => LU.call (name_calls r.chan (by omega)) Try.func44 rfl rfl (Opds.cons (by exact Is.whenE (by rw [hg0, hg]; rfl)) Opds.nil)) rfl ?_
  refine X.gT rfl rfl (fun hg => LU.pickOr (by exact Is.whenE hg) (by exact Is.rfl') (fun hq => (by exact Is.whenE (by rw [hg, hq]; rfl)))) rfl ?_
  refine X.u (LU.pickAnd Is.rfl' (fun hq => (by exact Is.whenE hq)) Is.rfl') rfl ?_
  refine X.u (LU.moveR Is.rfl') rfl ?_
  refine X.gT rfl rfl (fun hg => LU.fieldO Try.underlying31 rfl Try.sizeOf9 (by decide) (by exact Is.rfl')) rfl ?_
  refine X.gT rfl rfl (fun hg => LU.loadO 0 rfl ⟨Try.sizeOf9, Try.isAgg9⟩ (by exact Is.whenE hg) (Part.one rfl)) rfl ?_
  refine X.gT rfl rfl (fun hg => LU.streqN (by exact Is.whenE hg) (by exact Is.rfl')) rfl ?_
  refine X.gT rfl rfl (fun hg => LU.moveR (by exact Is.whenE hg)) rfl ?_
  refine X.gF2 rfl rfl (fun hg0 hg => LU.fieldO Try.underlying31 rfl Try.sizeOf9 (by decide) (by exact Is.rfl')) rfl ?_
  refine X.gF2 rfl rfl (fun hg0 hg => LU.loadO 0 rfl ⟨Try.sizeOf9, Try.isAgg9⟩ (by exact Is.whenE (by rw [hg0, hg]; rfl)) (Part.one rfl)) rfl ?_
  refine X.gF2 rfl rfl (fun hg0 hg => LU.call (path_calls r.pre) Try.func23 rfl rfl (Opds.cons (by exact Is.whenE (by rw [hg0, hg]; rfl)) Opds.nil)) rfl ?_
  refine X.gT rfl rfl (fun hg => LU.pickOr (by exact Is.whenE hg) (by exact Is.rfl') (fun hq => (by exact Is.whenE (by rw [hg, hq]; rfl)))) rfl ?_
  refine X.u (LU.pickAnd Is.rfl' (fun hq => (by exact Is.whenE hq)) Is.rfl') rfl ?_
  refine X.u (LU.moveR Is.rfl') rfl ?_
  refine X.gT rfl rfl (fun hg => LU.fieldO Try.underlying31 rfl Try.sizeOf3 (by decide) (by exact Is.rfl')) rfl ?_
  refine X.gT rfl rfl (fun hg => LU.loadO 0 rfl ⟨Try.sizeOf3, Try.isAgg3⟩ (by exact Is.whenE hg) (Part.one rfl)) rfl ?_
  refine X.gT rfl rfl (fun hg => LU.eql (by exact Is.whenE hg) (by exact Is.rfl')) rfl ?_
  refine X.gT rfl rfl (fun hg => LU.moveR (by exact Is.whenE hg)) rfl ?_
  refine X.gF2 rfl rfl (fun hg0 hg => LU.fieldO Try.underlying31 rfl Try.sizeOf3 (by decide) (by exact Is.rfl')) rfl ?_
  refine X.gF2 rfl rfl (fun hg0 hg => LU.loadO 0 rfl ⟨Try.sizeOf3, Try.isAgg3⟩ (by exact Is.whenE (by rw [hg0, hg]; rfl)) (Part.one rfl)) rfl ?_
  refine X.gF2 rfl rfl (fun hg0 hg => LU.eql (by exact Is.whenE (by rw [hg0, hg]; rfl)) (by exact Is.rfl')) rfl ?_
  refine X.gT rfl rfl (fun hg => LU.pickOr (by exact Is.whenE hg) (by exact Is.rfl') (fun hq => (by exact Is.whenE (by rw [hg, hq]; rfl)))) rfl ?_
  refine X.u (LU.pickAnd Is.rfl' (fun hq => (by exact Is.whenE hq)) Is.rfl') rfl ?_
  refine X.u (LU.assignR Is.rfl') rfl ?_
  refine LL.nil (after_code ?_)
  refine LW.ret (after_end ?_)
  refine X.ret (H' := []) (Res.one (by exact IsR rfl)) (by repeat (first | exact HSub.refl _ | refine HSub.pick 0 rfl ?_ | refine HSub.pick 1 rfl ?_ | refine HSub.pick 2 rfl ?_ | refine HSub.pick 3 rfl ?_ | refine HSub.pick 4 rfl ?_ | refine HSub.drop ?_)) ?_
  exact ⟨rfl, rfl⟩
def rwhoB (w : List UInt8) : Bool := if (decide (2 < (w.length : Int)) && (decide (w.take 2 = [117, 58]) || decide (w.take 2 = [116, 58]))) = true then nameB (w.drop 2) else decide (w = [42])
theorem name_short : nameB [] = false := by decide
theorem rwho_eq (w : List UInt8) : rwhoB w = whoB w := by
  match w with
  | [] => rfl
  | [a] =>
    unfold rwhoB whoB
    by_cases ha : a = 58 <;> simp [moreC, headC, restC, ha]
  | a :: b :: t =>
    unfold rwhoB whoB
    by_cases hb : b = 58
    · subst hb
      by_cases ha : a = 117
      · subst ha
        simp [moreC, headC, restC]
        cases t with
        | nil => simp [name_short]
        | cons c t => simp; intro h; omega
      · by_cases ha2 : a = 116
        · subst ha2
          simp [moreC, headC, restC]
          cases t with
          | nil => simp [name_short]
          | cons c t => simp; intro h; omega
        · by_cases ha3 : a = 58
          · subst ha3; simp [moreC, headC, restC]
          · simp [moreC, headC, restC, ha, ha2, ha3]
    · by_cases ha3 : a = 58
      · subst ha3; simp [moreC, headC, restC, hb]
      · simp [moreC, headC, restC, hb, ha3]
set_option maxRecDepth 100000 in
theorem rright_calls (r : Rl) (hr : RlOk r) : LCalls Try.prog 17 [.agg (rL r)] [] (fun x H' => x = bl (rightB r) ∧ H' = []) := by
  have hrl := reach_lt
  obtain ⟨hr1, hr2, hr3⟩ := hr
  refine LCalls.of Try.func17 rfl Try.ntmps17 Try.results17 rfl (fun Rf => ?_)
  refine LW.seq ?_
  refine LW.region ?_
  refine X.act (X.box rfl Is.rfl' (by exact Cells.agg) (fun b1 => ?_))
  refine X.u (LU.assignR Is.rfl') rfl ?_
  refine LL.nil (after_code ?_)
  refine LW.seq ?_
  refine LW.region ?_
  refine X.u (LU.fieldO Try.underlying31 rfl Try.sizeOf9 (by decide) Is.rfl') rfl ?_
  refine X.u (LU.loadO 0 rfl ⟨Try.sizeOf9, Try.isAgg9⟩ Is.rfl' (Part.one rfl)) rfl ?_
  refine X.u (LU.streqN Is.rfl' Is.rfl') rfl ?_
  refine X.u (LU.assignR Is.rfl') rfl ?_
  refine LL.nil (after_code ?_)
  refine LW.seq ?_
  refine LW.seq ?_
  refine LW.region ?_
  refine X.u (LU.fieldO Try.underlying31 rfl Try.sizeOf9 (by decide) Is.rfl') rfl ?_
  refine X.u (LU.loadO 0 rfl ⟨Try.sizeOf9, Try.isAgg9⟩ Is.rfl' (Part.one rfl)) rfl ?_
  refine X.u (LU.strlenN Try.underlying9 Is.rfl') rfl ?_
  refine X.u (LU.gtr Is.rfl' Is.rfl') rfl ?_
  refine X.u (LU.moveR Is.rfl') rfl ?_
  refine X.gT rfl rfl (fun hg => LU.fieldO Try.underlying31 rfl Try.sizeOf9 (by decide) (by exact Is.rfl')) rfl ?_
  refine X.gT rfl rfl (fun hg => LU.loadO 0 rfl ⟨Try.sizeOf9, Try.isAgg9⟩ (by exact Is.whenE hg) (Part.one rfl)) rfl ?_
  refine X.gT rfl rfl (fun hg => LU.strsliceN (s := r.who) (l := none) (h := some _) Try.underlying9 trivial ⟨_, (by exact Is.rfl')⟩ (by (simp; done)) (by have := of_decide_eq_true hg; (simp; done)) (by have := of_decide_eq_true hg; (simp only [Option.getD_some, Option.getD_none]; omega)) (by exact Is.whenE hg)) rfl ?_
  refine X.gT rfl rfl (fun hg => LU.streqN (by exact Is.whenE hg) (by exact Is.rfl')) rfl ?_
  refine X.gT rfl rfl (fun hg => LU.moveR (by exact Is.whenE hg)) rfl ?_
  refine X.gF2 rfl rfl (fun hg0 hg => LU.fieldO Try.underlying31 rfl Try.sizeOf9 (by decide) (by exact Is.rfl')) rfl ?_
  refine X.gF2 rfl rfl (fun hg0 hg => LU.loadO 0 rfl ⟨Try.sizeOf9, Try.isAgg9⟩ (by exact Is.whenE (by rw [hg0, hg]; rfl)) (Part.one rfl)) rfl ?_
  refine X.gF2 rfl rfl (fun hg0 hg => LU.strsliceN (s := r.who) (l := none) (h := some _) Try.underlying9 trivial ⟨_, (by exact Is.rfl')⟩ (by (simp; done)) (by have := of_decide_eq_true hg0; (simp; done)) (by have := of_decide_eq_true hg0; (simp only [Option.getD_some, Option.getD_none]; omega)) (by exact Is.whenE (by rw [hg0, hg]; rfl))) rfl ?_
  refine X.gF2 rfl rfl (fun hg0 hg => LU.streqN (by exact Is.whenE (by rw [hg0, hg]; rfl)) (by exact Is.rfl')) rfl ?_
  refine X.gT rfl rfl (fun hg => LU.pickOr (by exact Is.whenE hg) (by exact Is.rfl') (fun hq => (by exact Is.whenE (by rw [hg, hq]; rfl)))) rfl ?_
  refine X.u (LU.pickAnd Is.rfl' (fun hq => (by exact Is.whenE hq)) Is.rfl') rfl ?_
  refine LL.nil (after_code ?_)
  refine X.cond rfl (fun h2 => ?_) (fun h2 => ?_)
  · have h2l : 2 < (r.who.length : Int) := by simp only [Bool.and_eq_true, decide_eq_true_eq] at h2; exact h2.1
    have hwho : whoB r.who = nameB (r.who.drop 2) := by rw [← rwho_eq]; unfold rwhoB; rw [if_pos (by simpa using h2)]
    refine LW.region ?_
    refine X.u (LU.fieldO Try.underlying31 rfl Try.sizeOf9 (by decide) Is.rfl') rfl ?_
    refine X.u (LU.loadO 0 rfl ⟨Try.sizeOf9, Try.isAgg9⟩ Is.rfl' (Part.one rfl)) rfl ?_
    refine X.u (LU.weak (LU.strsliceN (l := some _) (h := none) Try.underlying9 ⟨_, Is.rfl'⟩ trivial (by simp only [Option.getD_some, Option.getD_none]; omega) (by simp only [Option.getD_some, Option.getD_none]; omega) (by simp only [Option.getD_some, Option.getD_none]; omega) Is.rfl') (Is.of (y := Str (r.who.drop 2)) (by simp [List.take_of_length_le]))) rfl ?_
    refine X.u (LU.call (rname_calls _ (by simp; omega)) Try.func45 rfl rfl (Opds.cons Is.rfl' Opds.nil)) rfl ?_
    refine X.u (LU.assignR Is.rfl') rfl ?_
    refine LL.nil (after_code ?_)
    refine LW.seq ?_
    refine LW.region ?_
    refine X.u (LU.moveR Is.rfl') rfl ?_
    refine X.u (LU.moveR Is.rfl') rfl ?_
    refine X.gT rfl rfl (fun hg => LU.fieldO Try.underlying31 rfl Try.sizeOf9 (by decide) (by exact Is.rfl')) rfl ?_
    refine X.gT rfl rfl (fun hg => LU.loadO 0 rfl ⟨Try.sizeOf9, Try.isAgg9⟩ (by exact Is.whenE hg) (Part.one rfl)) rfl ?_
    refine X.gT rfl rfl (fun hg => LU.streqN (by exact Is.whenE hg) (by exact Is.rfl')) rfl ?_
    refine X.gT rfl rfl (fun hg => LU.moveR (by exact Is.whenE hg)) rfl ?_
    refine X.gF2 rfl rfl (fun hg0 hg => LU.fieldO Try.underlying31 rfl Try.sizeOf9 (by decide) (by exact Is.rfl')) rfl ?_
    refine X.gF2 rfl rfl (fun hg0 hg => LU.loadO 0 rfl ⟨Try.sizeOf9, Try.isAgg9⟩ (by exact Is.whenE (by rw [hg0, hg]; rfl)) (Part.one rfl)) rfl ?_
    refine X.gF2 rfl rfl (fun hg0 hg => LU.call (rname_calls r.chan (by omega)) Try.func45 rfl rfl (Opds.cons (by exact Is.whenE (by rw [hg0, hg]; rfl)) Opds.nil)) rfl ?_
    refine X.gT rfl rfl (fun hg => LU.pickOr (by exact Is.whenE hg) (by exact Is.rfl') (fun hq => (by exact Is.whenE (by rw [hg, hq]; rfl)))) rfl ?_
    refine X.u (LU.pickAnd Is.rfl' (fun hq => (by exact Is.whenE hq)) Is.rfl') rfl ?_
    refine X.u (LU.moveR Is.rfl') rfl ?_
    refine X.gT rfl rfl (fun hg => LU.fieldO Try.underlying31 rfl Try.sizeOf9 (by decide) (by exact Is.rfl')) rfl ?_
    refine X.gT rfl rfl (fun hg => LU.loadO 0 rfl ⟨Try.sizeOf9, Try.isAgg9⟩ (by exact Is.whenE hg) (Part.one rfl)) rfl ?_
    refine X.gT rfl rfl (fun hg => LU.streqN (by exact Is.whenE hg) (by exact Is.rfl')) rfl ?_
    refine X.gT rfl rfl (fun hg => LU.moveR (by exact Is.whenE hg)) rfl ?_
    refine X.gF2 rfl rfl (fun hg0 hg => LU.fieldO Try.underlying31 rfl Try.sizeOf9 (by decide) (by exact Is.rfl')) rfl ?_
    refine X.gF2 rfl rfl (fun hg0 hg => LU.loadO 0 rfl ⟨Try.sizeOf9, Try.isAgg9⟩ (by exact Is.whenE (by rw [hg0, hg]; rfl)) (Part.one rfl)) rfl ?_
    refine X.gF2 rfl rfl (fun hg0 hg => LU.call (rpath_calls r.pre) Try.func46 rfl rfl (Opds.cons (by exact Is.whenE (by rw [hg0, hg]; rfl)) Opds.nil)) rfl ?_
    refine X.gT rfl rfl (fun hg => LU.pickOr (by exact Is.whenE hg) (by exact Is.rfl') (fun hq => (by exact Is.whenE (by rw [hg, hq]; rfl)))) rfl ?_
    refine X.u (LU.pickAnd Is.rfl' (fun hq => (by exact Is.whenE hq)) Is.rfl') rfl ?_
    refine X.u (LU.moveR Is.rfl') rfl ?_
    refine X.gT rfl rfl (fun hg => LU.fieldO Try.underlying31 rfl Try.sizeOf3 (by decide) (by exact Is.rfl')) rfl ?_
    refine X.gT rfl rfl (fun hg => LU.loadO 0 rfl ⟨Try.sizeOf3, Try.isAgg3⟩ (by exact Is.whenE hg) (Part.one rfl)) rfl ?_
    refine X.gT rfl rfl (fun hg => LU.eql (by exact Is.whenE hg) (by exact Is.rfl')) rfl ?_
    refine X.gT rfl rfl (fun hg => LU.moveR (by exact Is.whenE hg)) rfl ?_
    refine X.gF2 rfl rfl (fun hg0 hg => LU.fieldO Try.underlying31 rfl Try.sizeOf3 (by decide) (by exact Is.rfl')) rfl ?_
    refine X.gF2 rfl rfl (fun hg0 hg => LU.loadO 0 rfl ⟨Try.sizeOf3, Try.isAgg3⟩ (by exact Is.whenE (by rw [hg0, hg]; rfl)) (Part.one rfl)) rfl ?_
    refine X.gF2 rfl rfl (fun hg0 hg => LU.eql (by exact Is.whenE (by rw [hg0, hg]; rfl)) (by exact Is.rfl')) rfl ?_
    refine X.gT rfl rfl (fun hg => LU.pickOr (by exact Is.whenE hg) (by exact Is.rfl') (fun hq => (by exact Is.whenE (by rw [hg, hq]; rfl)))) rfl ?_
    refine X.u (LU.pickAnd Is.rfl' (fun hq => (by exact Is.whenE hq)) Is.rfl') rfl ?_
    refine X.u (LU.assignR Is.rfl') rfl ?_
    refine LL.nil (after_code ?_)
    refine LW.ret (after_end ?_)
    refine X.ret (H' := []) (Res.one (by exact IsR rfl)) (by repeat (first | exact HSub.refl _ | refine HSub.pick 0 rfl ?_ | refine HSub.pick 1 rfl ?_ | refine HSub.pick 2 rfl ?_ | refine HSub.pick 3 rfl ?_ | refine HSub.pick 4 rfl ?_ | refine HSub.drop ?_)) ?_
    exact ⟨by unfold rightB; rw [hwho], rfl⟩
  · have hwho : whoB r.who = decide (r.who = [42]) := by rw [← rwho_eq]; unfold rwhoB; rw [if_neg (by rw [Bool.not_eq_true]; simpa using h2)]
    refine LW.skip (after_code ?_)
    refine LW.seq ?_
    refine LW.region ?_
    refine X.u (LU.moveR Is.rfl') rfl ?_
    refine X.u (LU.moveR Is.rfl') rfl ?_
    refine X.gT rfl rfl (fun hg => LU.fieldO Try.underlying31 rfl Try.sizeOf9 (by decide) (by exact Is.rfl')) rfl ?_
    refine X.gT rfl rfl (fun hg => LU.loadO 0 rfl ⟨Try.sizeOf9, Try.isAgg9⟩ (by exact Is.whenE hg) (Part.one rfl)) rfl ?_
    refine X.gT rfl rfl (fun hg => LU.streqN (by exact Is.whenE hg) (by exact Is.rfl')) rfl ?_
    refine X.gT rfl rfl (fun hg => LU.moveR (by exact Is.whenE hg)) rfl ?_
    refine X.gF2 rfl rfl (fun hg0 hg => LU.fieldO Try.underlying31 rfl Try.sizeOf9 (by decide) (by exact Is.rfl')) rfl ?_
    refine X.gF2 rfl rfl (fun hg0 hg => LU.loadO 0 rfl ⟨Try.sizeOf9, Try.isAgg9⟩ (by exact Is.whenE (by rw [hg0, hg]; rfl)) (Part.one rfl)) rfl ?_
    refine X.gF2 rfl rfl (fun hg0 hg => LU.call (rname_calls r.chan (by omega)) Try.func45 rfl rfl (Opds.cons (by exact Is.whenE (by rw [hg0, hg]; rfl)) Opds.nil)) rfl ?_
    refine X.gT rfl rfl (fun hg => LU.pickOr (by exact Is.whenE hg) (by exact Is.rfl') (fun hq => (by exact Is.whenE (by rw [hg, hq]; rfl)))) rfl ?_
    refine X.u (LU.pickAnd Is.rfl' (fun hq => (by exact Is.whenE hq)) Is.rfl') rfl ?_
    refine X.u (LU.moveR Is.rfl') rfl ?_
    refine X.gT rfl rfl (fun hg => LU.fieldO Try.underlying31 rfl Try.sizeOf9 (by decide) (by exact Is.rfl')) rfl ?_
    refine X.gT rfl rfl (fun hg => LU.loadO 0 rfl ⟨Try.sizeOf9, Try.isAgg9⟩ (by exact Is.whenE hg) (Part.one rfl)) rfl ?_
    refine X.gT rfl rfl (fun hg => LU.streqN (by exact Is.whenE hg) (by exact Is.rfl')) rfl ?_
    refine X.gT rfl rfl (fun hg => LU.moveR (by exact Is.whenE hg)) rfl ?_
    refine X.gF2 rfl rfl (fun hg0 hg => LU.fieldO Try.underlying31 rfl Try.sizeOf9 (by decide) (by exact Is.rfl')) rfl ?_
    refine X.gF2 rfl rfl (fun hg0 hg => LU.loadO 0 rfl ⟨Try.sizeOf9, Try.isAgg9⟩ (by exact Is.whenE (by rw [hg0, hg]; rfl)) (Part.one rfl)) rfl ?_
    refine X.gF2 rfl rfl (fun hg0 hg => LU.call (rpath_calls r.pre) Try.func46 rfl rfl (Opds.cons (by exact Is.whenE (by rw [hg0, hg]; rfl)) Opds.nil)) rfl ?_
    refine X.gT rfl rfl (fun hg => LU.pickOr (by exact Is.whenE hg) (by exact Is.rfl') (fun hq => (by exact Is.whenE (by rw [hg, hq]; rfl)))) rfl ?_
    refine X.u (LU.pickAnd Is.rfl' (fun hq => (by exact Is.whenE hq)) Is.rfl') rfl ?_
    refine X.u (LU.moveR Is.rfl') rfl ?_
    refine X.gT rfl rfl (fun hg => LU.fieldO Try.underlying31 rfl Try.sizeOf3 (by decide) (by exact Is.rfl')) rfl ?_
    refine X.gT rfl rfl (fun hg => LU.loadO 0 rfl ⟨Try.sizeOf3, Try.isAgg3⟩ (by exact Is.whenE hg) (Part.one rfl)) rfl ?_
    refine X.gT rfl rfl (fun hg => LU.eql (by exact Is.whenE hg) (by exact Is.rfl')) rfl ?_
    refine X.gT rfl rfl (fun hg => LU.moveR (by exact Is.whenE hg)) rfl ?_
    refine X.gF2 rfl rfl (fun hg0 hg => LU.fieldO Try.underlying31 rfl Try.sizeOf3 (by decide) (by exact Is.rfl')) rfl ?_
    refine X.gF2 rfl rfl (fun hg0 hg => LU.loadO 0 rfl ⟨Try.sizeOf3, Try.isAgg3⟩ (by exact Is.whenE (by rw [hg0, hg]; rfl)) (Part.one rfl)) rfl ?_
    refine X.gF2 rfl rfl (fun hg0 hg => LU.eql (by exact Is.whenE (by rw [hg0, hg]; rfl)) (by exact Is.rfl')) rfl ?_
    refine X.gT rfl rfl (fun hg => LU.pickOr (by exact Is.whenE hg) (by exact Is.rfl') (fun hq => (by exact Is.whenE (by rw [hg, hq]; rfl)))) rfl ?_
    refine X.u (LU.pickAnd Is.rfl' (fun hq => (by exact Is.whenE hq)) Is.rfl') rfl ?_
    refine X.u (LU.assignR Is.rfl') rfl ?_
    refine LL.nil (after_code ?_)
    refine LW.ret (after_end ?_)
    refine X.ret (H' := []) (Res.one (by exact IsR rfl)) (by repeat (first | exact HSub.refl _ | refine HSub.pick 0 rfl ?_ | refine HSub.pick 1 rfl ?_ | refine HSub.pick 2 rfl ?_ | refine HSub.pick 3 rfl ?_ | refine HSub.pick 4 rfl ?_ | refine HSub.drop ?_)) ?_
    exact ⟨by unfold rightB; rw [hwho], rfl⟩
/-- Where a text stands first among others, from a place on; -1: nowhere. -/
def scan (p : List UInt8) : List (List UInt8) → Nat → Int
  | [], _ => -1
  | x :: t, n => if p = x then n else scan p t (n + 1)
theorem scan_mem (p : List UInt8) : ∀ (l : List (List UInt8)) (n : Nat), 0 ≤ scan p l n ↔ p ∈ l
  | [], n => by simp [scan]
  | x :: t, n => by
    unfold scan
    split
    · rename_i h; simp [h]
    · rename_i h; rw [scan_mem p t]; simp [h]
theorem scan_step {p : List UInt8} {l : List (List UInt8)} {i : Nat} (h : i < l.length) : scan p (l.drop i) i = (if p = l.getD i [] then (i : Int) else scan p (l.drop (i + 1)) (i + 1)) := by
  rw [List.drop_eq_getElem_cons h, scan, getD_eq h]
set_option maxRecDepth 100000 in
theorem sindex_calls (l : List (List UInt8)) (k : Cap) (p : List UInt8) (hl : l.length < 4611686018427387904) : LCalls Try.prog 83 [Strs l k, Str p] [] (fun x H' => x = i64 (scan p l 0) ∧ H' = []) := by
  refine LCalls.of Try.func83 rfl Try.ntmps83 Try.results83 rfl (fun Rf => ?_)
  refine LW.seq ?_
  refine LW.region ?_
  refine X.u (LU.assignR Is.rfl') rfl ?_
  refine LL.nil (after_code ?_)
  refine LW.seq ?_
  refine LW.seq ?_
  refine LW.region ?_
  refine X.u (LU.moveS Is.rfl') rfl ?_
  refine X.u (LU.lenN Try.underlying23 Is.rfl' (by (simp only [Option.getD_some, Option.getD_none, byteEls_length, intEls_length, List.length_append, List.length_cons, List.length_nil, List.length_map, List.length_drop, List.length_take, Int.toNat_natCast]; rfl))) rfl ?_
  refine X.u (LU.moveR Is.rfl') rfl ?_
  refine LL.nil (after_code ?_)
  refine LW.block ?_
  refine X.loopK (α := Nat) (fun i => [(8, i64 i)]) [0, 1, 7] (fun _ => _) (fun i => i ≤ l.length ∧ scan p l 0 = scan p (l.drop i) i) (fun i => l.length - i) (0) (EnvLe.cons (by rfl) (EnvLe.nil)) (HSub.refl _) ?_ ?_
  · exact ⟨Nat.zero_le _, by simp⟩
  · rintro i hI
    obtain ⟨hk, hsc⟩ := hI
    refine LW.seq ?_
    refine LW.region ?_
    refine X.u (LU.lss Is.rfl' Is.rfl') rfl ?_
    refine LL.nil (after_code ?_)
    refine LW.seq ?_
    refine X.cond rfl (fun h2 => ?_) (fun h2 => ?_)
    · try have h2 := of_decide_eq_true h2
      refine LW.skip (after_code ?_)
      refine LW.seq ?_
      refine LW.block ?_
      refine LW.seq ?_
      refine LW.region ?_
      refine X.u (LU.moveR Is.rfl') rfl ?_
      refine X.u (LU.assignR Is.rfl') rfl ?_
      refine LL.nil (after_code ?_)
      refine LW.seq ?_
      refine LW.region ?_
      refine X.u (LU.moveR Is.rfl') rfl ?_
      refine X.u (LU.moveS Is.rfl') rfl ?_
      refine X.u (LU.moveR Is.rfl') rfl ?_
      refine X.u (LU.at Try.underlying23 ⟨Try.sizeOf9, Try.isAgg9⟩ Is.rfl' Is.rfl' (by omega) (strEls_at (by omega)) (by simp)) rfl ?_
      refine X.u (LU.load ⟨Try.sizeOf9, Try.isAgg9⟩ Is.rfl' (by (simp; done)) (Part.one rfl)) rfl ?_
      refine X.u (LU.streqN Is.rfl' Is.rfl') rfl ?_
      refine LL.nil (after_code ?_)
      refine X.cond rfl (fun h4 => ?_) (fun h4 => ?_)
      · try have h4 := of_decide_eq_true h4
        refine LW.seq ?_
        refine LW.region ?_
        refine X.u (LU.moveR Is.rfl') rfl ?_
        refine X.u (LU.assignR Is.rfl') rfl ?_
        refine LL.nil (after_code ?_)
        refine LW.ret (ret_blk (ret_code (ret_rnd (ret_blk (ret_code (after_end ?_))))))
        refine X.ret (H' := []) (Res.one (by exact IsR rfl)) (by exact HSub.refl _) ?_
        exact ⟨by rw [hsc, scan_step (by omega), if_pos h4], rfl⟩
      · try have h4 := of_decide_eq_false h4
        refine LW.skip (after_blk (after_code ?_))
        refine LW.region ?_
        refine X.u (LU.addN Is.rfl' Is.rfl' (wrap_i64 (by omega) (by omega))) rfl ?_
        refine X.u (LU.moveR Is.rfl') rfl ?_
        refine LL.nil (after_rnd ?_)
        refine X.next (i + 1) rfl (EnvLe.cons (by rfl) (EnvLe.nil)) (Keeps.cons (by exact Eq.trans (b := .sl _ _ _) rfl rfl) (Keeps.cons (by exact Eq.trans (b := .raw _) rfl rfl) (Keeps.cons (by exact Eq.trans (b := .raw _) rfl rfl) (Keeps.nil)))) (HSub.refl _) ?_ ?_
        · exact ⟨by omega, by rw [hsc, scan_step (by omega), if_neg h4]⟩
        · omega
    · try have h2 := of_decide_eq_false h2
      refine LW.exit (exit_code (exit_rnd (exit_blk (after_code ?_))))
      refine LW.seq ?_
      refine LW.region ?_
      refine X.u (LU.assignR Is.rfl') rfl ?_
      refine LL.nil (after_code ?_)
      refine LW.ret (after_end ?_)
      refine X.ret (H' := []) (Res.one (by exact IsR rfl)) (by exact HSub.refl _) ?_
      exact ⟨by rw [hsc, List.drop_eq_nil_of_le (by omega)]; rfl, rfl⟩
set_option maxRecDepth 100000 in
theorem contains_calls (l : List (List UInt8)) (k : Cap) (p : List UInt8) (hl : l.length < 4611686018427387904) : LCalls Try.prog 71 [Strs l k, Str p] [] (fun x H' => x = bl (decide (p ∈ l)) ∧ H' = []) := by
  refine LCalls.of Try.func71 rfl Try.ntmps71 Try.results71 rfl (fun Rf => ?_)
  refine LW.seq ?_
  refine LW.region ?_
  refine X.u (LU.assignR Is.rfl') rfl ?_
  refine LL.nil (after_code ?_)
  refine LW.seq ?_
  refine LW.region ?_
  refine X.u (LU.moveS Is.rfl') rfl ?_
  refine X.u (LU.moveR Is.rfl') rfl ?_
  refine X.u (LU.call (sindex_calls l k p hl) Try.func83 rfl rfl (Opds.cons Is.rfl' (Opds.cons Is.rfl' Opds.nil))) rfl ?_
  refine X.u (LU.geq Is.rfl' Is.rfl') rfl ?_
  refine X.u (LU.assignR Is.rfl') rfl ?_
  refine LL.nil (after_code ?_)
  refine LW.ret (after_end ?_)
  refine X.ret (H' := []) (Res.one (by exact IsR rfl)) (by exact HSub.refl _) ?_
  exact ⟨by rw [decide_eq_decide.2 (scan_mem p l 0)], rfl⟩
def meansB (r : Rl) (s : Sb) : Bool := if headC 58 r.who = [117] then decide (restC 58 r.who = s.user) else if headC 58 r.who = [116] then decide (restC 58 r.who ∈ s.teams) else true
set_option maxRecDepth 100000 in
theorem means_calls (r : Rl) (s : Sb) (hr : RlOk r) (hs : SbOk s) : LCalls Try.prog 47 [.agg (rL r), .agg (sL s)] [] (fun x H' => x = bl (meansB r s) ∧ H' = []) := by
  have hrl := reach_lt
  obtain ⟨hr1, hr2, hr3⟩ := hr
  obtain ⟨hs1, hs2, hs3⟩ := hs
  refine LCalls.of Try.func47 rfl Try.ntmps47 Try.results47 rfl (fun Rf => ?_)
  refine LW.seq ?_
  refine LW.region ?_
  refine X.act (X.box rfl Is.rfl' (by exact Cells.agg) (fun b2 => ?_))
  refine X.act (X.box rfl Is.rfl' (by exact Cells.agg) (fun b3 => ?_))
  refine X.u (LU.assignR Is.rfl') rfl ?_
  refine LL.nil (after_code ?_)
  refine LW.seq ?_
  refine LW.region ?_
  refine X.u (LU.fieldO Try.underlying31 rfl Try.sizeOf9 (by decide) Is.rfl') rfl ?_
  refine X.u (LU.loadO 1 rfl ⟨Try.sizeOf9, Try.isAgg9⟩ Is.rfl' (Part.one rfl)) rfl ?_
  refine X.u (LU.call (cutC_calls r.who 58 (by omega)) Try.func66 rfl rfl (Opds.cons Is.rfl' (Opds.cons Is.rfl' Opds.nil))) rfl ?_
  refine X.u (LU.moveT Is.rfl') rfl ?_
  refine X.u (LU.extract Is.rfl' rfl) rfl ?_
  refine X.u (LU.extract Is.rfl' rfl) rfl ?_
  refine X.u (LU.extract Is.rfl' rfl) rfl ?_
  refine X.u (LU.assignR Is.rfl') rfl ?_
  refine X.u (LU.assignR Is.rfl') rfl ?_
  refine X.u (LU.assignR Is.rfl') rfl ?_
  refine LL.nil (after_code ?_)
  refine LW.seq ?_
  refine LW.seq ?_
  refine LW.region ?_
  refine X.u (LU.moveR Is.rfl') rfl ?_
  refine LL.nil (after_code ?_)
  refine LW.block ?_
  refine LW.seq ?_
  refine LW.region ?_
  refine X.u (LU.streqN Is.rfl' Is.rfl') rfl ?_
  refine X.u (LU.assignR Is.rfl') rfl ?_
  refine LL.nil (after_code ?_)
  refine X.cond rfl (fun h3 => ?_) (fun h3 => ?_)
  · try have h3 := of_decide_eq_true h3
    refine LW.seq ?_
    refine LW.region ?_
    refine X.u (LU.moveR Is.rfl') rfl ?_
    refine X.u (LU.fieldO Try.underlying25 rfl Try.sizeOf9 (by decide) Is.rfl') rfl ?_
    refine X.u (LU.loadO 0 rfl ⟨Try.sizeOf9, Try.isAgg9⟩ Is.rfl' (Part.one rfl)) rfl ?_
    refine X.u (LU.streqN Is.rfl' Is.rfl') rfl ?_
    refine X.u (LU.assignR Is.rfl') rfl ?_
    refine LL.nil (after_code ?_)
    refine LW.ret (ret_blk (ret_code (after_end ?_)))
    refine X.ret (H' := []) (Res.one (by exact IsR rfl)) (by repeat (first | exact HSub.refl _ | refine HSub.pick 0 rfl ?_ | refine HSub.pick 1 rfl ?_ | refine HSub.pick 2 rfl ?_ | refine HSub.pick 3 rfl ?_ | refine HSub.pick 4 rfl ?_ | refine HSub.drop ?_)) ?_
    exact ⟨by unfold meansB; rw [if_pos h3], rfl⟩
  · try have h3 := of_decide_eq_false h3
    refine LW.seq ?_
    refine LW.region ?_
    refine X.u (LU.streqN Is.rfl' Is.rfl') rfl ?_
    refine X.u (LU.assignR Is.rfl') rfl ?_
    refine LL.nil (after_code ?_)
    refine X.cond rfl (fun h5 => ?_) (fun h5 => ?_)
    · try have h5 := of_decide_eq_true h5
      refine LW.seq ?_
      refine LW.region ?_
      refine X.u (LU.fieldO Try.underlying25 rfl Try.sizeOf23 (by decide) Is.rfl') rfl ?_
      refine X.u (LU.loadO 0 rfl ⟨Try.sizeOf23, Try.isAgg23⟩ Is.rfl' (Part.one rfl)) rfl ?_
      refine X.u (LU.moveR Is.rfl') rfl ?_
      refine X.u (LU.call (contains_calls s.teams s.k _ (by omega)) Try.func71 rfl rfl (Opds.cons Is.rfl' (Opds.cons Is.rfl' Opds.nil))) rfl ?_
      refine X.u (LU.assignR Is.rfl') rfl ?_
      refine LL.nil (after_code ?_)
      refine LW.ret (ret_blk (ret_code (after_end ?_)))
      refine X.ret (H' := []) (Res.one (by exact IsR rfl)) (by repeat (first | exact HSub.refl _ | refine HSub.pick 0 rfl ?_ | refine HSub.pick 1 rfl ?_ | refine HSub.pick 2 rfl ?_ | refine HSub.pick 3 rfl ?_ | refine HSub.pick 4 rfl ?_ | refine HSub.drop ?_)) ?_
      exact ⟨by unfold meansB; rw [if_neg h3, if_pos h5], rfl⟩
    · try have h5 := of_decide_eq_false h5
      refine LW.skip (after_blk (after_code ?_))
      refine LW.seq ?_
      refine LW.region ?_
      refine X.u (LU.assignR Is.rfl') rfl ?_
      refine LL.nil (after_code ?_)
      refine LW.ret (after_end ?_)
      refine X.ret (H' := []) (Res.one (by exact IsR rfl)) (by repeat (first | exact HSub.refl _ | refine HSub.pick 0 rfl ?_ | refine HSub.pick 1 rfl ?_ | refine HSub.pick 2 rfl ?_ | refine HSub.pick 3 rfl ?_ | refine HSub.pick 4 rfl ?_ | refine HSub.drop ?_)) ?_
      exact ⟨by unfold meansB; rw [if_neg h3, if_neg h5], rfl⟩
def matchB (r : Rl) (s : Sb) (ch p : List UInt8) (right : Int) : Bool := (((rightB r && decide (r.right = right)) && (decide (r.chan = []) || decide (r.chan = ch))) && coversB r.pre p) && meansB r s
set_option maxRecDepth 100000 in
theorem matches_calls (r : Rl) (s : Sb) (ch p : List UInt8) (right : Int) (hr : RlOk r) (hs : SbOk s) : LCalls Try.prog 18 [.agg (rL r), .agg (sL s), Str ch, Str p, i64 right] [] (fun x H' => x = bl (matchB r s ch p right) ∧ H' = []) := by
  refine LCalls.of Try.func18 rfl Try.ntmps18 Try.results18 rfl (fun Rf => ?_)
  refine LW.seq ?_
  refine LW.region ?_
  refine X.act (X.box rfl Is.rfl' (by exact Cells.agg) (fun b5 => ?_))
  refine X.act (X.box rfl Is.rfl' (by exact Cells.agg) (fun b6 => ?_))
  refine X.u (LU.assignR Is.rfl') rfl ?_
  refine LL.nil (after_code ?_)
  refine LW.seq ?_
  refine LW.region ?_
  refine X.u (LU.loadO 1 rfl ⟨Try.sizeOf31, Try.isAgg31⟩ Is.rfl' (Part.whole (by (simp; done)))) rfl ?_
  refine X.u (LU.call (right_calls r hr) Try.func16 rfl rfl (Opds.cons Is.rfl' Opds.nil)) rfl ?_
  refine X.u (LU.moveR Is.rfl') rfl ?_
  refine X.gT rfl rfl (fun hg => LU.fieldO Try.underlying31 rfl Try.sizeOf3 (by decide) (by exact Is.rfl')) rfl ?_
  refine X.gT rfl rfl (fun hg => LU.loadO 1 rfl ⟨Try.sizeOf3, Try.isAgg3⟩ (by exact Is.whenE hg) (Part.one rfl)) rfl ?_
  refine X.gT rfl rfl (fun hg => LU.moveR (by exact Is.rfl')) rfl ?_
  refine X.gT rfl rfl (fun hg => LU.eql (by exact Is.whenE hg) (by exact Is.whenE hg)) rfl ?_
  refine X.u (LU.pickAnd Is.rfl' (fun hq => (by exact Is.whenE hq)) Is.rfl') rfl ?_
  refine X.u (LU.moveR Is.rfl') rfl ?_
  refine X.gT rfl rfl (fun hg => LU.fieldO Try.underlying31 rfl Try.sizeOf9 (by decide) (by exact Is.rfl')) rfl ?_
  refine X.gT rfl rfl (fun hg => LU.loadO 1 rfl ⟨Try.sizeOf9, Try.isAgg9⟩ (by exact Is.whenE hg) (Part.one rfl)) rfl ?_
  refine X.gT rfl rfl (fun hg => LU.streqN (by exact Is.whenE hg) (by exact Is.rfl')) rfl ?_
  refine X.gT rfl rfl (fun hg => LU.moveR (by exact Is.whenE hg)) rfl ?_
  refine X.gF2 rfl rfl (fun hg0 hg => LU.fieldO Try.underlying31 rfl Try.sizeOf9 (by decide) (by exact Is.rfl')) rfl ?_
  refine X.gF2 rfl rfl (fun hg0 hg => LU.loadO 1 rfl ⟨Try.sizeOf9, Try.isAgg9⟩ (by exact Is.whenE (by rw [hg0, hg]; rfl)) (Part.one rfl)) rfl ?_
  refine X.gF2 rfl rfl (fun hg0 hg => LU.moveR (by exact Is.rfl')) rfl ?_
  refine X.gF2 rfl rfl (fun hg0 hg => LU.streqN (by exact Is.whenE (by rw [hg0, hg]; rfl)) (by exact Is.whenE (by rw [hg0, hg]; rfl))) rfl ?_
  refine X.gT rfl rfl (fun hg => LU.pickOr (by exact Is.whenE hg) (by exact Is.rfl') (fun hq => (by exact Is.whenE (by rw [hg, hq]; rfl)))) rfl ?_
  refine X.u (LU.pickAnd Is.rfl' (fun hq => (by exact Is.whenE hq)) Is.rfl') rfl ?_
  refine X.u (LU.moveR Is.rfl') rfl ?_
  refine X.gT rfl rfl (fun hg => LU.fieldO Try.underlying31 rfl Try.sizeOf9 (by decide) (by exact Is.rfl')) rfl ?_
  refine X.gT rfl rfl (fun hg => LU.loadO 1 rfl ⟨Try.sizeOf9, Try.isAgg9⟩ (by exact Is.whenE hg) (Part.one rfl)) rfl ?_
  refine X.gT rfl rfl (fun hg => LU.moveR (by exact Is.rfl')) rfl ?_
  refine X.gT rfl rfl (fun hg => LU.call (covers_calls r.pre p) Try.func22 rfl rfl (Opds.cons (by exact Is.whenE hg) (Opds.cons (by exact Is.whenE hg) Opds.nil))) rfl ?_
  refine X.u (LU.pickAnd Is.rfl' (fun hq => (by exact Is.whenE hq)) Is.rfl') rfl ?_
  refine X.u (LU.moveR Is.rfl') rfl ?_
  refine X.gT rfl rfl (fun hg => LU.loadO 1 rfl ⟨Try.sizeOf31, Try.isAgg31⟩ (by exact Is.rfl') (Part.whole (by (simp; done)))) rfl ?_
  refine X.gT rfl rfl (fun hg => LU.loadO 0 rfl ⟨Try.sizeOf25, Try.isAgg25⟩ (by exact Is.rfl') (Part.whole (by (simp; done)))) rfl ?_
  refine X.gT rfl rfl (fun hg => LU.call (means_calls r s hr hs) Try.func47 rfl rfl (Opds.cons (by exact Is.whenE hg) (Opds.cons (by exact Is.whenE hg) Opds.nil))) rfl ?_
  refine X.u (LU.pickAnd Is.rfl' (fun hq => (by exact Is.whenE hq)) Is.rfl') rfl ?_
  refine X.u (LU.assignR Is.rfl') rfl ?_
  refine LL.nil (after_code ?_)
  refine LW.ret (after_end ?_)
  refine X.ret (H' := []) (Res.one (by exact IsR rfl)) (by repeat (first | exact HSub.refl _ | refine HSub.pick 0 rfl ?_ | refine HSub.pick 1 rfl ?_ | refine HSub.pick 2 rfl ?_ | refine HSub.pick 3 rfl ?_ | refine HSub.pick 4 rfl ?_ | refine HSub.drop ?_)) ?_
  exact ⟨rfl, rfl⟩
theorem means_eq {r : Rl} {s : Sb} (h : whoB r.who = true) : meansB r s = (decide (r.who = [42]) || decide (r.who = 117 :: 58 :: s.user) || s.teams.any (fun t => decide (r.who = 116 :: 58 :: t))) := by
  unfold whoB at h
  split at h
  · rename_i hc
    simp only [Bool.or_eq_true, Bool.and_eq_true, decide_eq_true_eq] at hc
    rcases hc with ⟨hm, hh⟩ | ⟨hm, hh⟩
    · have e := moreC_eq hm
      rw [hh] at e
      unfold meansB
      rw [if_pos hh, e]
      simp [restC]
    · have e := moreC_eq hm
      rw [hh] at e
      unfold meansB
      rw [if_neg (by rw [hh]; decide), if_pos hh, e]
      simp [restC]
      rw [Bool.eq_iff_iff]; simp
  · have : r.who = [42] := by simpa using h
    unfold meansB
    rw [this]; simp [headC]
theorem match_bad {r : Rl} {s : Sb} {ch p : List UInt8} {right : Int} (h : (((!rightB r || !decide (r.right = right)) || (decide (r.chan ≠ []) && decide (r.chan ≠ ch))) || !coversB r.pre p) = true) : matchB r s ch p right = false := by
  unfold matchB
  cases h1 : rightB r <;> cases h2 : coversB r.pre p <;> by_cases h3 : r.right = right <;> by_cases h4 : r.chan = [] <;> by_cases h5 : r.chan = ch <;> simp_all
theorem match_good {r : Rl} {s : Sb} {ch p : List UInt8} {right : Int} (h : (((!rightB r || !decide (r.right = right)) || (decide (r.chan ≠ []) && decide (r.chan ≠ ch))) || !coversB r.pre p) = false) : whoB r.who = true ∧ matchB r s ch p right = meansB r s := by
  simp only [Bool.or_eq_false_iff, Bool.not_eq_false', decide_eq_false_iff_not, Decidable.not_not] at h
  obtain ⟨⟨⟨h1, h2⟩, h3⟩, h4⟩ := h
  have hw : whoB r.who = true := by
    unfold rightB at h1
    simp only [Bool.and_eq_true] at h1
    exact h1.1.1.1
  refine ⟨hw, ?_⟩
  unfold matchB
  rw [h1, h4]
  have h3' : (decide (r.chan = []) || decide (r.chan = ch)) = true := by
    by_cases hc : r.chan = [] <;> by_cases hc2 : r.chan = ch <;> simp_all
  rw [h3', h2]; simp
set_option maxRecDepth 100000 in
theorem rmatches_calls (r : Rl) (s : Sb) (ch p : List UInt8) (right : Int) (hr : RlOk r) (hs : SbOk s) : LCalls Try.prog 19 [.agg (rL r), .agg (sL s), Str ch, Str p, i64 right] [] (fun x H' => x = bl (matchB r s ch p right) ∧ H' = []) := by
  have hrl := reach_lt
  obtain ⟨hs1, hs2, hs3⟩ := hs
  refine LCalls.of Try.func19 rfl Try.ntmps19 Try.results19 rfl (fun Rf => ?_)
  refine LW.seq ?_
  refine LW.region ?_
  refine X.act (X.box rfl Is.rfl' (by exact Cells.agg) (fun b5 => ?_))
  refine X.act (X.box rfl Is.rfl' (by exact Cells.agg) (fun b6 => ?_))
  refine X.u (LU.assignR Is.rfl') rfl ?_
  refine LL.nil (after_code ?_)
  refine LW.seq ?_
  refine LW.seq ?_
  refine LW.region ?_
  refine X.u (LU.loadO 1 rfl ⟨Try.sizeOf31, Try.isAgg31⟩ Is.rfl' (Part.whole (by (simp; done)))) rfl ?_
  refine X.u (LU.call (rright_calls r hr) Try.func17 rfl rfl (Opds.cons Is.rfl' Opds.nil)) rfl ?_
  refine X.u (LU.not Is.rfl') rfl ?_
  refine X.u (LU.moveR Is.rfl') rfl ?_
  refine X.gF rfl rfl (fun hg => LU.fieldO Try.underlying31 rfl Try.sizeOf3 (by decide) (by exact Is.rfl')) rfl ?_
  refine X.gF rfl rfl (fun hg => LU.loadO 1 rfl ⟨Try.sizeOf3, Try.isAgg3⟩ (by exact Is.whenN hg) (Part.one rfl)) rfl ?_
  refine X.gF rfl rfl (fun hg => LU.moveR (by exact Is.rfl')) rfl ?_
  refine X.gF rfl rfl (fun hg => LU.neq (by exact Is.whenN hg) (by exact Is.whenN hg)) rfl ?_
  refine X.u (LU.pickOr Is.rfl' Is.rfl' (fun hq => (by exact Is.whenN hq))) rfl ?_
  refine X.u (LU.moveR Is.rfl') rfl ?_
  refine X.gF rfl rfl (fun hg => LU.fieldO Try.underlying31 rfl Try.sizeOf9 (by decide) (by exact Is.rfl')) rfl ?_
  refine X.gF rfl rfl (fun hg => LU.loadO 1 rfl ⟨Try.sizeOf9, Try.isAgg9⟩ (by exact Is.whenN hg) (Part.one rfl)) rfl ?_
  refine X.gF rfl rfl (fun hg => LU.strneN (by exact Is.whenN hg) (by exact Is.rfl')) rfl ?_
  refine X.gF rfl rfl (fun hg => LU.moveR (by exact Is.whenN hg)) rfl ?_
  refine X.gT2 rfl rfl (fun hg0 hg => LU.fieldO Try.underlying31 rfl Try.sizeOf9 (by decide) (by exact Is.rfl')) rfl ?_
  refine X.gT2 rfl rfl (fun hg0 hg => LU.loadO 1 rfl ⟨Try.sizeOf9, Try.isAgg9⟩ (by exact Is.whenE (by rw [hg0, hg]; rfl)) (Part.one rfl)) rfl ?_
  refine X.gT2 rfl rfl (fun hg0 hg => LU.moveR (by exact Is.rfl')) rfl ?_
  refine X.gT2 rfl rfl (fun hg0 hg => LU.strneN (by exact Is.whenE (by rw [hg0, hg]; rfl)) (by exact Is.whenE (by rw [hg0, hg]; rfl))) rfl ?_
  refine X.gF rfl rfl (fun hg => LU.pickAnd (by exact Is.whenN hg) (fun hq => (by exact Is.whenE (by rw [hg, hq]; rfl))) (by exact Is.rfl')) rfl ?_
  refine X.u (LU.pickOr Is.rfl' Is.rfl' (fun hq => (by exact Is.whenN hq))) rfl ?_
  refine X.u (LU.moveR Is.rfl') rfl ?_
  refine X.gF rfl rfl (fun hg => LU.fieldO Try.underlying31 rfl Try.sizeOf9 (by decide) (by exact Is.rfl')) rfl ?_
  refine X.gF rfl rfl (fun hg => LU.loadO 1 rfl ⟨Try.sizeOf9, Try.isAgg9⟩ (by exact Is.whenN hg) (Part.one rfl)) rfl ?_
  refine X.gF rfl rfl (fun hg => LU.moveR (by exact Is.rfl')) rfl ?_
  refine X.gF rfl rfl (fun hg => LU.call (rcovers_calls r.pre p) Try.func48 rfl rfl (Opds.cons (by exact Is.whenN hg) (Opds.cons (by exact Is.whenN hg) Opds.nil))) rfl ?_
  refine X.gF rfl rfl (fun hg => LU.not (by exact Is.whenN hg)) rfl ?_
  refine X.u (LU.pickOr Is.rfl' Is.rfl' (fun hq => (by exact Is.whenN hq))) rfl ?_
  refine LL.nil (after_code ?_)
  refine X.cond rfl (fun h1 => ?_) (fun h1 => ?_)
  · try have h1 := of_decide_eq_true h1
    refine LW.seq ?_
    refine LW.region ?_
    refine X.u (LU.assignR Is.rfl') rfl ?_
    refine LL.nil (after_code ?_)
    refine LW.ret (ret_code (after_end ?_))
    refine X.ret (H' := []) (Res.one (by exact IsR rfl)) (by repeat (first | exact HSub.refl _ | refine HSub.pick 0 rfl ?_ | refine HSub.pick 1 rfl ?_ | refine HSub.pick 2 rfl ?_ | refine HSub.pick 3 rfl ?_ | refine HSub.pick 4 rfl ?_ | refine HSub.drop ?_)) ?_
    exact ⟨by rw [match_bad h1], rfl⟩
  · obtain ⟨hw, hmm⟩ := match_good (s := s) h1
    refine LW.skip (after_code ?_)
    refine LW.seq ?_
    refine LW.seq ?_
    refine LW.region ?_
    refine X.u (LU.fieldO Try.underlying31 rfl Try.sizeOf9 (by decide) Is.rfl') rfl ?_
    refine X.u (LU.loadO 1 rfl ⟨Try.sizeOf9, Try.isAgg9⟩ Is.rfl' (Part.one rfl)) rfl ?_
    refine X.u (LU.streqN Is.rfl' Is.rfl') rfl ?_
    refine X.u (LU.moveR Is.rfl') rfl ?_
    refine X.gF rfl rfl (fun hg => LU.fieldO Try.underlying31 rfl Try.sizeOf9 (by decide) (by exact Is.rfl')) rfl ?_
    refine X.gF rfl rfl (fun hg => LU.loadO 1 rfl ⟨Try.sizeOf9, Try.isAgg9⟩ (by exact Is.whenN hg) (Part.one rfl)) rfl ?_
    refine X.gF rfl rfl (fun hg => LU.fieldO Try.underlying25 rfl Try.sizeOf9 (by decide) (by exact Is.rfl')) rfl ?_
    refine X.gF rfl rfl (fun hg => LU.loadO 0 rfl ⟨Try.sizeOf9, Try.isAgg9⟩ (by exact Is.whenN hg) (Part.one rfl)) rfl ?_
    refine X.gF rfl rfl (fun hg => LU.weak (LU.strcatN (by exact Is.rfl') (by exact Is.whenN hg) (by (simp; omega))) (Is.of (y := Str (117 :: 58 :: s.user)) (by rfl))) rfl ?_
    refine X.gF rfl rfl (fun hg => LU.streqN (by exact Is.whenN hg) (by exact Is.whenN hg)) rfl ?_
    refine X.u (LU.pickOr Is.rfl' Is.rfl' (fun hq => (by exact Is.whenN hq))) rfl ?_
    refine LL.nil (after_code ?_)
    refine X.cond rfl (fun h3 => ?_) (fun h3 => ?_)
    · try have h3 := of_decide_eq_true h3
      refine LW.seq ?_
      refine LW.region ?_
      refine X.u (LU.assignR Is.rfl') rfl ?_
      refine LL.nil (after_code ?_)
      refine LW.ret (ret_code (after_end ?_))
      refine X.ret (H' := []) (Res.one (by exact IsR rfl)) (by repeat (first | exact HSub.refl _ | refine HSub.pick 0 rfl ?_ | refine HSub.pick 1 rfl ?_ | refine HSub.pick 2 rfl ?_ | refine HSub.pick 3 rfl ?_ | refine HSub.pick 4 rfl ?_ | refine HSub.drop ?_)) ?_
      exact ⟨by rw [hmm, means_eq hw, h3]; rfl, rfl⟩
    · try have h3 := of_decide_eq_false h3
      refine LW.skip (after_code ?_)
      refine LW.seq ?_
      refine LW.seq ?_
      refine LW.region ?_
      refine X.u (LU.assignR Is.rfl') rfl ?_
      refine LL.nil (after_code ?_)
      refine LW.block ?_
      refine X.loopK (α := Nat) (fun i => [(11, i64 i)]) [5, 6] (fun _ => _) (fun i => i ≤ s.teams.length ∧ ∀ t ∈ s.teams.take i, r.who ≠ 116 :: 58 :: t) (fun i => s.teams.length - i) (0) (EnvLe.cons (by rfl) (EnvLe.nil)) (HSub.refl _) ?_ ?_
      · exact ⟨Nat.zero_le _, by simp⟩
      · rintro i hI
        obtain ⟨hk, hne⟩ := hI
        refine LW.seq ?_
        refine LW.seq ?_
        refine LW.region ?_
        refine X.u (LU.moveR Is.rfl') rfl ?_
        refine X.u (LU.fieldO Try.underlying25 rfl Try.sizeOf23 (by decide) Is.rfl') rfl ?_
        refine X.u (LU.loadO 0 rfl ⟨Try.sizeOf23, Try.isAgg23⟩ Is.rfl' (Part.one rfl)) rfl ?_
        refine X.u (LU.lenN Try.underlying23 Is.rfl' (by (simp only [Option.getD_some, Option.getD_none, byteEls_length, intEls_length, List.length_append, List.length_cons, List.length_nil, List.length_map, List.length_drop, List.length_take, Int.toNat_natCast]; rfl))) rfl ?_
        refine X.u (LU.lss Is.rfl' Is.rfl') rfl ?_
        refine LL.nil (after_code ?_)
        refine X.cond rfl (fun h6 => ?_) (fun h6 => ?_)
        · try have h6 := of_decide_eq_true h6
          refine LW.skip (after_code ?_)
          refine LW.seq ?_
          refine LW.block ?_
          refine LW.seq ?_
          have hti : (s.teams.getD i []).length ≤ reachBytes := by rw [getD_eq (show i < s.teams.length by omega)]; exact hs2 _ (List.getElem_mem _)
          have hti2 := hti
          rw [List.getD_eq_getElem?_getD] at hti2
          refine X.drawM 9 rfl (by kernel_rfl) rfl ?_
          refine QD.u (LU.fieldO Try.underlying31 rfl Try.sizeOf9 (by decide) Is.rfl') rfl ?_
          refine QD.u (LU.loadO 1 rfl ⟨Try.sizeOf9, Try.isAgg9⟩ Is.rfl' (Part.one rfl)) rfl ?_
          refine QD.u (LU.fieldO Try.underlying25 rfl Try.sizeOf23 (by decide) Is.rfl') rfl ?_
          refine QD.u (LU.loadO 0 rfl ⟨Try.sizeOf23, Try.isAgg23⟩ Is.rfl' (Part.one rfl)) rfl ?_
          refine QD.u (LU.moveR Is.rfl') rfl ?_
          refine QD.u (LU.at Try.underlying23 ⟨Try.sizeOf9, Try.isAgg9⟩ Is.rfl' Is.rfl' (by omega) (strEls_at (by omega)) (by simp)) rfl ?_
          refine QD.u (LU.load ⟨Try.sizeOf9, Try.isAgg9⟩ Is.rfl' (by (simp; done)) (Part.one rfl)) rfl ?_
          refine QD.u (LU.weak (LU.strcatN Is.rfl' Is.rfl' (by (simp; omega))) (Is.of (y := Str (116 :: 58 :: s.teams.getD i [])) (by rfl))) rfl ?_
          refine QD.u (LU.streqN Is.rfl' Is.rfl') rfl ?_
          refine QD.nil ?_
          refine LL.nil (after_code ?_)
          refine X.cond rfl (fun h8 => ?_) (fun h8 => ?_)
          · try have h8 := of_decide_eq_true h8
            refine LW.seq ?_
            refine LW.region ?_
            refine X.u (LU.assignR Is.rfl') rfl ?_
            refine LL.nil (after_code ?_)
            refine LW.ret (ret_blk (ret_code (ret_rnd (ret_blk (ret_code (after_end ?_))))))
            refine X.ret (H' := []) (Res.one (by exact IsR rfl)) (by repeat (first | exact HSub.refl _ | refine HSub.pick 0 rfl ?_ | refine HSub.pick 1 rfl ?_ | refine HSub.pick 2 rfl ?_ | refine HSub.pick 3 rfl ?_ | refine HSub.pick 4 rfl ?_ | refine HSub.drop ?_)) ?_
            exact ⟨by rw [hmm, means_eq hw, List.any_eq_true.2 ⟨_, List.getElem_mem (show i < s.teams.length by omega), by rw [← getD_eq]; simpa using h8⟩, Bool.or_true], rfl⟩
          · try have h8 := of_decide_eq_false h8
            refine LW.skip (after_blk (after_code ?_))
            refine LW.region ?_
            refine X.u (LU.moveR Is.rfl') rfl ?_
            refine X.u (LU.addN Is.rfl' Is.rfl' (wrap_i64 (by omega) (by omega))) rfl ?_
            refine X.u (LU.assignR Is.rfl') rfl ?_
            refine LL.nil (after_rnd ?_)
            refine X.next (i + 1) rfl (EnvLe.cons (by rfl) (EnvLe.nil)) (Keeps.cons (by exact Eq.trans (b := .raw _) rfl rfl) (Keeps.cons (by exact Eq.trans (b := .raw _) rfl rfl) (Keeps.nil))) (HSub.refl _) ?_ ?_
            · refine ⟨by omega, fun t ht => ?_⟩
              rw [List.take_succ_eq_append_getElem (by omega)] at ht
              rcases List.mem_append.1 ht with h | h
              · exact hne t h
              · rw [List.mem_singleton.1 h, ← getD_eq (by omega)]; exact h8
            · omega
        · try have h6 := of_decide_eq_false h6
          refine LW.exit (exit_code (exit_rnd (exit_blk (after_code ?_))))
          refine LW.seq ?_
          refine LW.region ?_
          refine X.u (LU.assignR Is.rfl') rfl ?_
          refine LL.nil (after_code ?_)
          refine LW.ret (after_end ?_)
          refine X.ret (H' := []) (Res.one (by exact IsR rfl)) (by repeat (first | exact HSub.refl _ | refine HSub.pick 0 rfl ?_ | refine HSub.pick 1 rfl ?_ | refine HSub.pick 2 rfl ?_ | refine HSub.pick 3 rfl ?_ | refine HSub.pick 4 rfl ?_ | refine HSub.drop ?_)) ?_
          exact ⟨by rw [hmm, means_eq hw, h3, List.any_eq_false.2 (fun t ht => by rw [List.take_of_length_le (by omega)] at hne; simpa using hne t ht)]; rfl, rfl⟩
end Go.Proofs.Ythifbkddfjohbaa
