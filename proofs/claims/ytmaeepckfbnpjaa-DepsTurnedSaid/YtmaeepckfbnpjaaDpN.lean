/- The document's order of hashes. -/
import Derived.Test.YtmaeepckfbnpjaaDpM
set_option linter.unusedVariables false
set_option linter.unusedSimpArgs false
namespace Go.Proofs.Ytmaeepckfbnpjaa
open Go.RowKit Go.L Go.Lib
attribute [local irreducible] LL LW LO
theorem less_cb : ∀ a b : List UInt8, Op.bytesLess a b = decide (compareBytes a b < 0)
  | [], [] => rfl
  | [], _ :: _ => rfl
  | _ :: _, [] => rfl
  | a :: x, b :: y => by
    rw [Op.bytesLess, compareBytes]
    rcases u8_tri a b with c | c | c
    · simp [c]
    · subst c; simp [UInt8.lt_irrefl, less_cb x y]
    · have h1 := UInt8.lt_asymm c
      have h2 : a ≠ b := fun e => by subst e; exact UInt8.lt_irrefl a c
      simp [h1, c, h2]
theorem hs_els (a : Hs) : singles (((hsL a).drop 0).take 32) = byteEls a.1 := by
  rw [List.drop_zero, List.take_of_length_le (by rw [List.length_map, a.2]; exact Nat.le_refl _)]
  show (a.1.map _).map _ = _
  rw [List.map_map]; rfl
set_option maxRecDepth 100000 in
theorem below_calls (a b : Hs) : LCalls Try.prog 28 [.agg (hsL a), .agg (hsL b)] [] (fun r H' => r = bl (ltH a b) ∧ H' = []) := by
  have ha : a.1.length = 32 := a.2
  have hb : b.1.length = 32 := b.2
  refine LCalls.of Try.func28 rfl Try.ntmps28 Try.results28 rfl (fun Rf => ?_)
  refine LW.seq ?_
  refine LW.region ?_
  refine X.act (X.box rfl Is.rfl' (by exact Cells.agg) (fun b2 => ?_))
  refine X.act (X.box rfl Is.rfl' (by exact Cells.agg) (fun b3 => ?_))
  refine X.u (LU.assignR Is.rfl') rfl ?_
  refine LL.nil (after_code ?_)
  refine LW.seq ?_
  refine LW.know 0 rfl ?_
  refine LW.know 1 rfl ?_
  refine X.drawM 6 rfl (by kernel_rfl) rfl ?_
  refine QD.u (LU.weak (LU.sliceKA 0 rfl Try.underlying34 Try.sizeOf5 Is.rfl' (by rw [List.length_map, ha]; decide)) ((Is.of (congrArg (fun z => LV.sl 1 z .full) (hs_els a))))) rfl ?_
  refine QD.u (LU.tostr Try.underlying57 Try.underlying5 Try.underlying9 Is.rfl') rfl ?_
  refine QD.u (LU.weak (LU.sliceKA 1 rfl Try.underlying34 Try.sizeOf5 Is.rfl' (by rw [List.length_map, hb]; decide)) ((Is.of (congrArg (fun z => LV.sl 1 z .full) (hs_els b))))) rfl ?_
  refine QD.u (LU.tostr Try.underlying57 Try.underlying5 Try.underlying9 Is.rfl') rfl ?_
  refine QD.u (LU.strlt Is.rfl' Is.rfl') rfl ?_
  refine QD.u (LU.assignR Is.rfl') rfl ?_
  refine QD.nil ?_
  refine LL.nil (after_code ?_)
  refine LW.ret (after_end ?_)
  refine X.ret (H' := []) (Res.one (by exact IsR rfl)) (by repeat (first | exact HSub.refl _ | refine HSub.drop ?_)) ?_
  exact ⟨by rw [less_cb, bytes_toList, bytes_toList]; rfl, rfl⟩
end Go.Proofs.Ytmaeepckfbnpjaa
