/- Whether all is there. -/
import Derived.Test.YtmaeepckfbnpjaaDpI
set_option linter.unusedVariables false
set_option linter.unusedSimpArgs false
namespace Go.Proofs.Ytmaeepckfbnpjaa
open Go.RowKit Go.L Go.Lib
attribute [local irreducible] LL LW LO
def closedS (l : List It) : Bool := decide (l.length ≤ 256) && decide (names l).Nodup && decide ((missS l).length = 0)
set_option maxRecDepth 100000 in
theorem closed_calls (l : List It) (k : Cap) (hl : l.length < 140737488355328) (hd : totalD l ≤ 1000000) : LCalls Try.prog 20 [.sl 33 (its l) k] [] (fun r H' => r = bl (closedS l) ∧ H' = []) := by
  refine LCalls.of Try.func20 rfl Try.ntmps20 Try.results20 rfl (fun Rf => ?_)
  refine LW.seq ?_
  refine LW.region ?_
  refine X.u (LU.assignR Is.rfl') rfl ?_
  refine LL.nil (after_code ?_)
  refine LW.seq ?_
  refine LW.region ?_
  refine X.u (LU.moveS Is.rfl') rfl ?_
  refine X.u (LU.lenN Try.underlying22 Is.rfl' (by (simp only [Option.getD_some, Option.getD_none, byteEls_length, intEls_length, List.length_append, List.length_cons, List.length_nil, List.length_map, List.length_drop, List.length_take, Int.toNat_natCast]; rfl))) rfl ?_
  refine X.u (LU.leq Is.rfl' Is.rfl') rfl ?_
  refine X.u (LU.moveR Is.rfl') rfl ?_
  refine X.gT rfl rfl (fun hg => LU.moveS (by exact Is.rfl')) rfl ?_
  refine X.gT rfl rfl (fun hg => LU.call (once_calls l k hl hd) Try.func23 rfl rfl (Opds.cons (by exact Is.whenE hg) Opds.nil)) rfl ?_
  refine X.u (LU.pickAnd Is.rfl' (fun hq => (by exact Is.whenE hq)) Is.rfl') rfl ?_
  refine X.u (LU.moveR Is.rfl') rfl ?_
  refine X.gT rfl rfl (fun hg => LU.moveS (by exact Is.rfl')) rfl ?_
  refine X.gT rfl rfl (fun hg => LU.call (missing_calls l k hl hd) Try.func18 rfl rfl (Opds.cons (by exact Is.whenE hg) Opds.nil)) rfl ?_
  refine X.gT rfl rfl (fun hg => LU.lenN Try.underlying26 (by exact Is.whenE hg) (by (simp only [Option.getD_some, Option.getD_none, byteEls_length, intEls_length, List.length_append, List.length_cons, List.length_nil, List.length_map, List.length_drop, List.length_take, Int.toNat_natCast]; rfl))) rfl ?_
  refine X.gT rfl rfl (fun hg => LU.eql (by exact Is.whenE hg) (by exact Is.rfl')) rfl ?_
  refine X.u (LU.pickAnd Is.rfl' (fun hq => (by exact Is.whenE hq)) Is.rfl') rfl ?_
  refine X.u (LU.assignR Is.rfl') rfl ?_
  refine LL.nil (after_code ?_)
  refine LW.ret (after_end ?_)
  refine X.ret (H' := []) (Res.one (by exact IsR rfl)) (by repeat (exact HSub.refl _)) ?_
  refine ⟨?_, rfl⟩
  congr 2
  unfold closedS
  try simp only [List.length_map]
  rw [Bool.eq_iff_iff]
  simp only [Bool.and_eq_true, decide_eq_true_eq, List.length_map]
  constructor <;> (rintro ⟨⟨a, b⟩, c⟩; exact ⟨⟨by omega, b⟩, by omega⟩)
end Go.Proofs.Ytmaeepckfbnpjaa
