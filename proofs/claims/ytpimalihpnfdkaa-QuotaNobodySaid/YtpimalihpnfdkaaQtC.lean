/- The chapter's example; what is charged and given back. -/
import Derived.Test.YtpimalihpnfdkaaQtB
set_option linter.unusedVariables false
set_option linter.unusedSimpArgs false
namespace Go.Proofs.Ytpimalihpnfdkaa
open Go.RowKit Go.L
theorem ok_new {B R W : Int} (h : rightP B R W) : Ok (newM B R W) := ⟨h, by simp [newM], by simp [newM], by simp [newM], by simp [newM]⟩
theorem hits_bd {m : M} (h : Ok m) (now : Int) : 0 ≤ hitsM m now ∧ hitsM m now ≤ m.hits := by
  have := h.h0
  unfold hitsM
  split <;> omega
theorem ok_hit {m : M} (h : Ok m) (now : Int) (hh : m.hits < 1000000) : Ok (hitM m now).1 := by
  have := hits_bd h now
  have := h.h0
  unfold hitM
  split
  · exact h
  · split
    · exact h
    · exact ⟨h.r, by show 0 ≤ hitsM m now + 1; omega, by show hitsM m now + 1 ≤ 1000000; omega, h.u0, h.u1⟩
theorem ok_charge {m : M} (h : Ok m) (n : Int) : Ok (chargeM m n).1 := by
  have hr := h.r
  unfold rightP at hr
  have := h.u0
  unfold chargeM
  split
  · exact h
  · split
    · exact h
    · exact ⟨h.r, h.h0, h.h1, by show 0 ≤ m.used + n; omega, by show m.used + n ≤ _; omega⟩
theorem ok_refund {m : M} (h : Ok m) (n : Int) : Ok (refundM m n).1 := by
  have h1 := h.u1
  have := h.u0
  unfold refundM
  split
  · exact h
  · exact ⟨h.r, h.h0, h.h1, by show 0 ≤ m.used - n; omega, by show m.used - n ≤ _; omega⟩
def lm0 : M := newM 10 2 5
def lm1 : M := (hitM lm0 0).1
def lm2 : M := (hitM lm1 4).1
def lm3 : M := (hitM lm2 4).1
def lm4 : M := (hitM lm3 5).1
def lm5 : M := (hitM lm4 4).1
def lm6 : M := (chargeM lm5 10).1
def lm7 : M := (chargeM lm6 1).1
theorem lr : rightP 10 2 5 := by decide
theorem lo0 : Ok lm0 := ok_new lr
theorem lo1 : Ok lm1 := ok_hit lo0 _ (by decide)
theorem lo2 : Ok lm2 := ok_hit lo1 _ (by decide)
theorem lo3 : Ok lm3 := ok_hit lo2 _ (by decide)
theorem lo4 : Ok lm4 := ok_hit lo3 _ (by decide)
theorem lo5 : Ok lm5 := ok_hit lo4 _ (by decide)
theorem lo6 : Ok lm6 := ok_charge lo5 _
theorem lo7 : Ok lm7 := ok_charge lo6 _
set_option maxRecDepth 100000 in
theorem lives_calls : LCalls Try.prog 14 [] [] (fun r H' => r = bl true ∧ H' = []) := by
  refine LCalls.of Try.func14 rfl Try.ntmps14 Try.results14 rfl (fun Rf => ?_)
  refine LW.seq ?_
  refine LW.region ?_
  refine X.u (LU.assignR Is.rfl') rfl ?_
  refine LL.nil (after_code ?_)
  refine LW.seq ?_
  refine LW.region ?_
  refine X.u (LU.build (places := #[(0, 1), (1, 1), (2, 1)]) Try.underlying23 Try.zeroValue23 (ones rfl) (by intro w; simp [Try.sizeOf3]) (Parts.cons Is.rfl' (by exact Cells.raw rfl) (Parts.cons Is.rfl' (by exact Cells.raw rfl) (Parts.cons Is.rfl' (by exact Cells.raw rfl) Parts.nil))) rfl) rfl ?_
  refine X.act (X.call (new_calls 10 2 5) Try.func13 rfl rfl rfl (R := Rf) (HSub.refl _) (Opds.cons Is.rfl' Opds.nil) ?_)
  rintro r H' (⟨hn, rfl, rfl⟩ | ⟨hr, g, rfl, rfl⟩)
  · exact absurd lr hn
  · refine X.u (LU.moveT Is.rfl') rfl ?_
    refine X.u (LU.extract Is.rfl' rfl) rfl ?_
    refine X.u (LU.extract Is.rfl' rfl) rfl ?_
    refine X.u (LU.assignR Is.rfl') rfl ?_
    refine X.u (LU.assignR Is.rfl') rfl ?_
    refine LL.nil (after_code ?_)
    refine LW.seq ?_
    refine LW.seq ?_
    refine LW.region ?_
    refine X.u (LU.moveR Is.rfl') rfl ?_
    refine X.u (LU.neq Is.rfl' Is.rfl') rfl ?_
    refine X.u (LU.moveR Is.rfl') rfl ?_
    refine X.doF rfl rfl (LU.moveR (by exact Is.rfl')) rfl ?_
    refine X.doF rfl rfl (LU.nilEqS Try.underlying25 (by exact Is.rfl') (by exact Is.rfl')) rfl ?_
    refine X.u (LU.pickF Is.rfl' (by exact Is.rfl')) rfl ?_
    refine LL.nil (after_code ?_)
    refine X.condF rfl ?_ ?_
    · rfl
    refine LW.skip (after_code ?_)
    refine LW.seq ?_
    refine LW.region ?_
    refine X.u (LU.moveR Is.rfl') rfl ?_
    refine X.act (X.call1 0 rfl (hit_calls g lm0 0 lo0 (by decide) (by decide)) Try.func15 rfl rfl rfl (Opds.cons Is.rfl' (Opds.cons Is.rfl' Opds.nil)) ?_)
    rintro r H' ⟨rfl, rfl⟩
    refine X.u (LU.moveR Is.rfl') rfl ?_
    refine X.act (X.call1 0 rfl (hit_calls g lm1 4 lo1 (by decide) (by decide)) Try.func15 rfl rfl rfl (Opds.cons Is.rfl' (Opds.cons Is.rfl' Opds.nil)) ?_)
    rintro r H' ⟨rfl, rfl⟩
    refine X.u (LU.moveR Is.rfl') rfl ?_
    refine X.act (X.call1 0 rfl (hit_calls g lm2 4 lo2 (by decide) (by decide)) Try.func15 rfl rfl rfl (Opds.cons Is.rfl' (Opds.cons Is.rfl' Opds.nil)) ?_)
    rintro r H' ⟨rfl, rfl⟩
    refine X.u (LU.moveR Is.rfl') rfl ?_
    refine X.act (X.call1 0 rfl (hit_calls g lm3 5 lo3 (by decide) (by decide)) Try.func15 rfl rfl rfl (Opds.cons Is.rfl' (Opds.cons Is.rfl' Opds.nil)) ?_)
    rintro r H' ⟨rfl, rfl⟩
    refine X.u (LU.moveR Is.rfl') rfl ?_
    refine X.act (X.call1 0 rfl (hit_calls g lm4 4 lo4 (by decide) (by decide)) Try.func15 rfl rfl rfl (Opds.cons Is.rfl' (Opds.cons Is.rfl' Opds.nil)) ?_)
    rintro r H' ⟨rfl, rfl⟩
    refine X.u (LU.assignR Is.rfl') rfl ?_
    refine X.u (LU.assignR Is.rfl') rfl ?_
    refine X.u (LU.assignR Is.rfl') rfl ?_
    refine X.u (LU.assignR Is.rfl') rfl ?_
    refine X.u (LU.assignR Is.rfl') rfl ?_
    refine LL.nil (after_code ?_)
    refine LW.seq ?_
    refine LW.region ?_
    refine X.u (LU.moveR Is.rfl') rfl ?_
    refine X.u (LU.eql Is.rfl' Is.rfl') rfl ?_
    refine X.u (LU.moveR Is.rfl') rfl ?_
    refine X.doT rfl rfl (LU.moveR (by exact Is.rfl')) rfl ?_
    refine X.doT rfl rfl (LU.eql (by exact Is.rfl') (by exact Is.rfl')) rfl ?_
    refine X.u (LU.pickT Is.rfl' (by exact Is.rfl')) rfl ?_
    refine X.u (LU.moveR Is.rfl') rfl ?_
    refine X.doT rfl rfl (LU.moveR (by exact Is.rfl')) rfl ?_
    refine X.doT rfl rfl (LU.eql (by exact Is.rfl') (by exact Is.rfl')) rfl ?_
    refine X.u (LU.pickT Is.rfl' (by exact Is.rfl')) rfl ?_
    refine X.u (LU.moveR Is.rfl') rfl ?_
    refine X.doT rfl rfl (LU.moveR (by exact Is.rfl')) rfl ?_
    refine X.doT rfl rfl (LU.eql (by exact Is.rfl') (by exact Is.rfl')) rfl ?_
    refine X.u (LU.pickT Is.rfl' (by exact Is.rfl')) rfl ?_
    refine X.u (LU.moveR Is.rfl') rfl ?_
    refine X.doT rfl rfl (LU.moveR (by exact Is.rfl')) rfl ?_
    refine X.doT rfl rfl (LU.eql (by exact Is.rfl') (by exact Is.rfl')) rfl ?_
    refine X.u (LU.weak (LU.pickT Is.rfl' (by exact Is.rfl')) (asB (c := true) rfl (by decide))) rfl ?_
    refine X.u (LU.moveR Is.rfl') rfl ?_
    refine X.doT rfl rfl (LU.moveR (by exact Is.rfl')) rfl ?_
    refine X.actG rfl rfl (X.call1 0 rfl (charge_calls g lm5 10 lo5 (by decide) (by decide)) Try.func16 rfl rfl rfl (Opds.cons (by exact Is.rfl') (Opds.cons (by exact Is.rfl') Opds.nil)) ?_)
    rintro r H' ⟨rfl, rfl⟩
    refine X.doT rfl rfl (LU.eql (by exact Is.rfl') (by exact Is.rfl')) rfl ?_
    refine X.u (LU.weak (LU.pickT Is.rfl' (by exact Is.rfl')) (asB (c := true) rfl (by decide))) rfl ?_
    refine X.u (LU.moveR Is.rfl') rfl ?_
    refine X.doT rfl rfl (LU.moveR (by exact Is.rfl')) rfl ?_
    refine X.actG rfl rfl (X.call1 0 rfl (charge_calls g lm6 1 lo6 (by decide) (by decide)) Try.func16 rfl rfl rfl (Opds.cons (by exact Is.rfl') (Opds.cons (by exact Is.rfl') Opds.nil)) ?_)
    rintro r H' ⟨rfl, rfl⟩
    refine X.doT rfl rfl (LU.eql (by exact Is.rfl') (by exact Is.rfl')) rfl ?_
    refine X.u (LU.weak (LU.pickT Is.rfl' (by exact Is.rfl')) (asB (c := true) rfl (by decide))) rfl ?_
    refine X.u (LU.moveR Is.rfl') rfl ?_
    refine X.doT rfl rfl (LU.moveR (by exact Is.rfl')) rfl ?_
    refine X.doT rfl rfl (LU.call1 0 rfl (used_ok g lo7) Try.func18 rfl rfl (Opds.cons (by exact Is.rfl') Opds.nil)) rfl ?_
    refine X.doT rfl rfl (LU.eql (by exact Is.rfl') (by exact Is.rfl')) rfl ?_
    refine X.u (LU.pickT Is.rfl' (by exact Is.rfl')) rfl ?_
    refine X.u (LU.moveR Is.rfl') rfl ?_
    refine X.u (LU.weak (LU.pickT Is.rfl' (by exact Is.rfl')) (asB (c := true) rfl (by decide))) rfl ?_
    refine X.u (LU.assignR Is.rfl') rfl ?_
    refine LL.nil (after_code ?_)
    refine LW.ret (after_end ?_)
    refine X.ret (H' := []) (Res.one (by exact IsR rfl)) (by repeat (first | exact HSub.refl _ | refine HSub.pick 0 rfl ?_ | refine HSub.pick 1 rfl ?_ | refine HSub.pick 2 rfl ?_ | refine HSub.pick 3 rfl ?_ | refine HSub.pick 4 rfl ?_ | refine HSub.drop ?_)) ?_
    exact ⟨rfl, rfl⟩
end Go.Proofs.Ytpimalihpnfdkaa
