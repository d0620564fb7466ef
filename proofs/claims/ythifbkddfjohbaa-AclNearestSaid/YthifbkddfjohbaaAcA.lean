/- The library's Cut at any byte. -/
import Derived.Test.YthifbkddfjohbaaNmE
set_option linter.unusedVariables false
set_option linter.unusedSimpArgs false
namespace Go.Proofs.Ythifbkddfjohbaa
open Go.RowKit Go.L
/-- The text up to the first byte 'sep'; behind it; whether there is one. -/
def headC (sep : UInt8) : List UInt8 → List UInt8
  | [] => []
  | c :: l => if c = sep then [] else c :: headC sep l
def restC (sep : UInt8) : List UInt8 → List UInt8
  | [] => []
  | c :: l => if c = sep then l else restC sep l
def moreC (sep : UInt8) : List UInt8 → Bool
  | [] => false
  | c :: l => if c = sep then true else moreC sep l
theorem cutC_some (sep : UInt8) : ∀ (l : List UInt8) (o : Nat), Lib.indexByte l sep = o → o < l.length ∧ headC sep l = l.take o ∧ restC sep l = l.drop (o + 1) ∧ moreC sep l = true
  | [], o, h => by unfold Lib.indexByte at h; omega
  | c :: l, o, h => by
    unfold Lib.indexByte at h
    by_cases hc : c = sep
    · subst hc
      simp at h
      have : o = 0 := by omega
      subst this
      simp [headC, restC, moreC]
    · have hb : (c == sep) = false := by simpa using hc
      simp only [hb, Bool.false_eq_true, if_false] at h
      by_cases hn : Lib.indexByte l sep = -1
      · rw [hn] at h; simp at h
      · have hb2 : (Lib.indexByte l sep == -1) = false := by simpa using hn
        simp only [hb2, Bool.false_eq_true, if_false] at h
        have hge := Lib.indexByte_ge l sep
        obtain ⟨k, hk⟩ : ∃ k : Nat, Lib.indexByte l sep = k := ⟨(Lib.indexByte l sep).toNat, by omega⟩
        obtain ⟨h1, h2, h3, h4⟩ := cutC_some sep l k hk
        have : o = k + 1 := by omega
        subst this
        unfold headC restC moreC
        simp only [hc, if_false, h2, h3, h4]
        simp
        exact h1
theorem cutC_none (sep : UInt8) : ∀ (l : List UInt8), Lib.indexByte l sep = -1 → headC sep l = l ∧ restC sep l = [] ∧ moreC sep l = false
  | [], h => by simp [headC, restC, moreC]
  | c :: l, h => by
    unfold Lib.indexByte at h
    by_cases hc : c = sep
    · subst hc; simp at h
    · have hb : (c == sep) = false := by simpa using hc
      simp only [hb, Bool.false_eq_true, if_false] at h
      by_cases hn : Lib.indexByte l sep = -1
      · obtain ⟨h1, h2, h3⟩ := cutC_none sep l hn
        unfold headC restC moreC
        simp [hc, h1, h2, h3]
      · have hb2 : (Lib.indexByte l sep == -1) = false := by simpa using hn
        simp only [hb2, Bool.false_eq_true, if_false] at h
        have hge := Lib.indexByte_ge l sep
        omega
set_option maxRecDepth 100000 in
theorem lcutC_calls (l : List UInt8) (sep : UInt8) (hl : l.length < 4611686018427387904) : LCalls Try.prog 82 [Str l, Str [sep]] [] (fun r H' => r = .tup [Str (headC sep l), Str (restC sep l), bl (moreC sep l)] ∧ H' = []) := by
  have hge := Lib.indexByte_ge l sep
  refine LCalls.of Try.func82 rfl Try.ntmps82 Try.results82 rfl (fun Rf => ?_)
  refine LW.seq ?_
  refine LW.region ?_
  refine X.u (LU.assignR Is.rfl') rfl ?_
  refine X.u (LU.assignR Is.rfl') rfl ?_
  refine X.u (LU.assignR Is.rfl') rfl ?_
  refine LL.nil (after_code ?_)
  refine LW.seq ?_
  refine LW.seq ?_
  refine LW.region ?_
  refine X.u (LU.moveR Is.rfl') rfl ?_
  refine X.u (LU.moveR Is.rfl') rfl ?_
  refine X.u (LU.call (index_calls l sep) Try.func95 rfl rfl (Opds.cons Is.rfl' (Opds.cons Is.rfl' Opds.nil))) rfl ?_
  refine X.u (LU.assignR Is.rfl') rfl ?_
  refine LL.nil (after_code ?_)
  refine LW.seq ?_
  refine LW.region ?_
  refine X.u (LU.moveR Is.rfl') rfl ?_
  refine X.u (LU.geq Is.rfl' Is.rfl') rfl ?_
  refine LL.nil (after_code ?_)
  refine X.cond rfl (fun h2 => ?_) (fun h2 => ?_)
  · obtain ⟨o, ho⟩ : ∃ o : Nat, Lib.indexByte l sep = o := ⟨(Lib.indexByte l sep).toNat, by have := of_decide_eq_true h2; omega⟩
    obtain ⟨c1, c2, c3, c4⟩ := cutC_some sep l o ho
    rw [ho]
    refine LW.seq ?_
    refine X.drawM 12 rfl (by kernel_rfl) rfl ?_
    refine QD.u (LU.moveR Is.rfl') rfl ?_
    refine QD.u (LU.moveR Is.rfl') rfl ?_
    refine QD.u (LU.strsliceN (l := none) (h := some _) Try.underlying9 trivial ⟨_, Is.rfl'⟩ (by simp only [Option.getD_some, Option.getD_none]; omega) (by simp only [Option.getD_some, Option.getD_none]; omega) (by simp only [Option.getD_some, Option.getD_none]; omega) Is.rfl') rfl ?_
    refine QD.u (LU.moveR Is.rfl') rfl ?_
    refine QD.u (LU.moveR Is.rfl') rfl ?_
    refine QD.u (LU.moveR Is.rfl') rfl ?_
    refine QD.u (LU.strlenN Try.underlying9 Is.rfl') rfl ?_
    refine QD.u (LU.weak (LU.add Is.rfl' Is.rfl') (Is.of (y := i64 (o + 1 : Nat)) (by simp; exact wrap_i64 (by omega) (by omega)))) rfl ?_
    refine QD.u (LU.strsliceN (l := some _) (h := none) Try.underlying9 ⟨_, Is.rfl'⟩ trivial (by simp only [Option.getD_some, Option.getD_none]; omega) (by simp only [Option.getD_some, Option.getD_none]; omega) (by simp only [Option.getD_some, Option.getD_none]; omega) Is.rfl') rfl ?_
    refine QD.u (LU.assignR Is.rfl') rfl ?_
    refine QD.u (LU.assignR Is.rfl') rfl ?_
    refine QD.u (LU.assignR Is.rfl') rfl ?_
    refine QD.nil ?_
    refine LL.nil (after_code ?_)
    refine LW.ret (ret_code (after_end ?_))
    refine X.ret (H' := []) (Res.three (by exact IsR rfl) (by exact IsR rfl) (by exact IsR rfl)) (by exact HSub.refl _) ?_
    exact ⟨by rw [c2, c3, c4]; simp [List.take_of_length_le], rfl⟩
  · obtain ⟨c2, c3, c4⟩ := cutC_none sep l (by have := of_decide_eq_false h2; omega)
    refine LW.skip (after_code ?_)
    refine LW.seq ?_
    refine LW.region ?_
    refine X.u (LU.moveR Is.rfl') rfl ?_
    refine X.u (LU.assignR Is.rfl') rfl ?_
    refine X.u (LU.assignR Is.rfl') rfl ?_
    refine X.u (LU.assignR Is.rfl') rfl ?_
    refine LL.nil (after_code ?_)
    refine LW.ret (after_end ?_)
    refine X.ret (H' := []) (Res.three (by exact IsR rfl) (by exact IsR rfl) (by exact IsR rfl)) (by exact HSub.refl _) ?_
    exact ⟨by rw [c2, c3, c4], rfl⟩
set_option maxRecDepth 100000 in
theorem cutC_calls (l : List UInt8) (sep : UInt8) (hl : l.length < 4611686018427387904) : LCalls Try.prog 66 [Str l, Str [sep]] [] (fun r H' => r = .tup [Str (headC sep l), Str (restC sep l), bl (moreC sep l)] ∧ H' = []) := by
  refine LCalls.of Try.func66 rfl Try.ntmps66 Try.results66 rfl (fun Rf => ?_)
  refine LW.seq ?_
  refine LW.region ?_
  refine X.u (LU.assignR Is.rfl') rfl ?_
  refine X.u (LU.assignR Is.rfl') rfl ?_
  refine X.u (LU.assignR Is.rfl') rfl ?_
  refine LL.nil (after_code ?_)
  refine LW.seq ?_
  refine LW.region ?_
  refine X.u (LU.moveR Is.rfl') rfl ?_
  refine X.u (LU.moveR Is.rfl') rfl ?_
  refine X.u (LU.call (lcutC_calls l sep hl) Try.func82 rfl rfl (Opds.cons Is.rfl' (Opds.cons Is.rfl' Opds.nil))) rfl ?_
  refine X.u (LU.extract Is.rfl' rfl) rfl ?_
  refine X.u (LU.extract Is.rfl' rfl) rfl ?_
  refine X.u (LU.extract Is.rfl' rfl) rfl ?_
  refine X.u (LU.assignR Is.rfl') rfl ?_
  refine X.u (LU.assignR Is.rfl') rfl ?_
  refine X.u (LU.assignR Is.rfl') rfl ?_
  refine LL.nil (after_code ?_)
  refine LW.ret (after_end ?_)
  refine X.ret (H' := []) (Res.three (by exact IsR rfl) (by exact IsR rfl) (by exact IsR rfl)) (by exact HSub.refl _) ?_
  exact ⟨rfl, rfl⟩
end Go.Proofs.Ythifbkddfjohbaa
