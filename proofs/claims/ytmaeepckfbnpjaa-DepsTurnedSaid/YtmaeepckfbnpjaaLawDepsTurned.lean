/- DepsTurned: for every input that can be read the law returns true, and each argument reads as it did; no condition. -/
import Derived.Test.YtmaeepckfbnpjaaRows
import Derived.Test.YtmaeepckfbnpjaaDqL
import Derived.Test.YtmaeepckfbnpjaaLgB
import Derived.WalkKit
import Derived.ProofKit
import Derived.OpenShut
import Derived.ShutString
import Derived.ChangeOld
import Derived.Below
import Derived.SizedLaws
import Derived.Carry
namespace Go.Proofs.Ytmaeepckfbnpjaa.depsTurned
open Go.ChangeShapes Go.WideShapes Go.ChangeAt Go.RowKit Go.L
open Go.ChangeMaps (open_string shut_string)
set_option linter.unusedVariables false
theorem own : ownKnob Try.prog.godebug = none := by kernel_rfl
theorem laidOut : laidOutB Try.prog = true := by kernel_rfl
set_option maxRecDepth 100000 in
theorem lifted (os : Os) (started : os.Started) (H : Type) (enc : TypeId × Value → H) :
    ReturnsInHanded {} Try.checked os 6 .any (Rows.depsTurnedSpec.pre6 enc Try.prog Try.f6 Rows.depsTurnedRow.domain false) (Rows.depsTurnedSpec.post enc Try.prog Try.f6 false true false false) := by
  refine returnsInHanded_of_change_sized (C := Try.checked) own started (by kernel_rfl) Try.func6
    (ChangeSpec.witness6 (enc := enc) (C := Try.checked) false ⟨#[], #[(.slice none 0 0), (.int .i64 0), (.agg #[(.int .u8 0), (.int .u8 0), (.int .u8 0), (.int .u8 0), (.int .u8 0), (.int .u8 0), (.int .u8 0), (.int .u8 0), (.int .u8 0), (.int .u8 0), (.int .u8 0), (.int .u8 0), (.int .u8 0), (.int .u8 0), (.int .u8 0), (.int .u8 0), (.int .u8 0), (.int .u8 0), (.int .u8 0), (.int .u8 0), (.int .u8 0), (.int .u8 0), (.int .u8 0), (.int .u8 0), (.int .u8 0), (.int .u8 0), (.int .u8 0), (.int .u8 0), (.int .u8 0), (.int .u8 0), (.int .u8 0), (.int .u8 0)])], []⟩ 8 (by kernel_rfl) (by kernel_rfl) (by kernel_rfl) (by kernel_rfl)) ?_
  intro W base args ds gs before hval0 hW hcnd hsz0 _
  have hsz : (DataW.weightsEach Try.prog (Try.f6.params.toList ++ Rows.depsTurnedSpec.plain.varTypes Try.prog) (ds ++ gs)).all (· ≤ reachBytes) = true := hsz0
  have hval : ∀ (j : Nat) t v, Try.f6.params[j]? = some t → args[j]? = some v → Value.okWide Try.prog W .any base t v := hval0
  have hW' := hW
  obtain ⟨p, q, hA0, hV, rfl, hfz, hnd⟩ := hW
  have hA : DataW.TrodAll enc Try.prog W 0 (fun _ => true) true Try.f6.params.toList args.toList ds p := hA0
  rw [Try.params6] at hA hval hsz
  obtain ⟨v0, vs0, d0, ds0, p0, q0, hargs, rfl, rfl, h0, r0⟩ := trodAll_cons hA
  obtain ⟨v1, vs1, d1, ds1, p1, q1, rfl, rfl, rfl, h1, r1⟩ := trodAll_cons r0
  obtain ⟨v2, vs2, d2, ds2, p2, q2, rfl, rfl, rfl, h2, r2⟩ := trodAll_cons r1
  obtain ⟨rfl, rfl, rfl⟩ := trodAll_nil r2
  obtain rfl : args = #[v0, v1, v2] := by cases args; simp_all
  obtain ⟨rfl, rfl⟩ := trodVars_none hV
  have k0 := h0
  have lt0 : ∀ x ∈ p0, x.block < W.heap.size := by obtain ⟨m, hm⟩ := k0; exact DataW.trod_lt m _ _ _ hm
  have we0 : Weighs Try.prog 22 d0 := fun m hm => by
    have := List.all_eq_true.1 hsz m (weightsEach_mem (i := 0) rfl rfl m hm)
    simpa using this
  obtain ⟨a0, len0, cap0, rfl⟩ := okWide_slice Try.underlying22 (hval 0 22 v0 rfl rfl)
  obtain ⟨fuel0, hf0⟩ := h0
  obtain ⟨_, hx0, x0, rfl, w0, y0⟩ := (Opens.slice (size := 33) (B := 56) Try.underlying22 (by kernel_rfl) (by kernel_rfl) (by decide) (Opens.struct (m := 33) Try.underlying36 (by kernel_rfl) (OpF.cons (n := 32) rfl (by kernel_rfl) (Opens.array (n := 32) (size := 1) Try.underlying34 (by kernel_rfl) (by decide) (by kernel_rfl) (Opens.int Try.underlying5)) (OpF.cons (n := 1) rfl (by kernel_rfl) (Opens.slice (size := 32) (B := 32) Try.underlying26 (by kernel_rfl) (by kernel_rfl) (by decide) (Opens.array (n := 32) (size := 1) Try.underlying34 (by kernel_rfl) (by decide) (by kernel_rfl) (Opens.int Try.underlying5))) (OpF.nil _))))) H enc W 0 (fun _ => true) true fuel0 _ _ hf0 we0
  have k1 := h1
  have lt1 : ∀ x ∈ p1, x.block < W.heap.size := by obtain ⟨m, hm⟩ := k1; exact DataW.trod_lt m _ _ _ hm
  have we1 : Weighs Try.prog 3 d1 := fun m hm => by
    have := List.all_eq_true.1 hsz m (weightsEach_mem (i := 1) rfl rfl m hm)
    simpa using this
  obtain ⟨x1, rfl, rfl, rfl, w1⟩ := open_int Try.underlying3 (hval 1 3 v1 rfl rfl) h1
  have k2 := h2
  have lt2 : ∀ x ∈ p2, x.block < W.heap.size := by obtain ⟨m, hm⟩ := k2; exact DataW.trod_lt m _ _ _ hm
  have we2 : Weighs Try.prog 34 d2 := fun m hm => by
    have := List.all_eq_true.1 hsz m (weightsEach_mem (i := 2) rfl rfl m hm)
    simpa using this
  obtain ⟨a2, rfl, _⟩ := okWide_array Try.underlying34 (hval 2 34 v2 rfl rfl)
  obtain ⟨fuel2, hf2⟩ := h2
  obtain ⟨x2, hx2, w2⟩ := (Opens.array (n := 32) (size := 1) Try.underlying34 (by kernel_rfl) (by decide) (by kernel_rfl) (Opens.int Try.underlying5)) H enc W 0 (fun _ => true) true fuel2 _ _ hf2 we2
  clear hA0 hval0 hsz0 hsz
  refine (LCalls.run (DepsTurned_row x0 x1 x2 w0 y0 w1 w2) (reps_cons (hx0.1.2 0 _ _ rfl rfl) (reps_cons (.raw _) (reps_cons (reps_agg (by simpa [Value.cells] using hx2)) reps_nil)))).mono fun e W' ⟨he, bel⟩ => ?_
  subst he
  exact ⟨_, rfl, _, _, _, [], _, [], hW', trodAll_mk1 (shut_bool Try.underlying4 _), (trodAll_cons_mk (Below.trod laidOut (by kernel_rfl) (of_decide_eq_true (by kernel_rfl)) k0 bel lt0) (trodAll_cons_mk (Below.trod laidOut (by kernel_rfl) (of_decide_eq_true (by kernel_rfl)) k1 bel lt1) (trodAll_cons_mk (Below.trod laidOut (by kernel_rfl) (of_decide_eq_true (by kernel_rfl)) k2 bel lt2) trodAll_mk0))), rfl, bel.frame _, fun h => by cases h⟩
theorem over : Rows.depsTurnedRow.holds Try.pinned (OpenSpec.ofChange Rows.depsTurnedSpec) :=
  OpenClaim.holds_of_wide 6 Try.f6 rfl rfl rfl rfl rfl rfl rfl ⟨rfl, rfl, rfl, rfl, rfl⟩ rfl rfl rfl rfl rfl (by kernel_rfl) Try.func6 (by kernel_rfl)
    (of_decide_eq_true (by kernel_rfl)) (by unfold Func.isWrapper; first | (rw [if_pos (by decide +kernel)]; kernel_rfl) | (rw [if_neg (by decide +kernel)]; exact ⟨rfl, rfl⟩))
    (fun os started H enc _ => lifted os started H enc)
end Go.Proofs.Ytmaeepckfbnpjaa.depsTurned
namespace Go.Proofs.Ytmaeepckfbnpjaa
theorem depsTurned_holds : Rows.DepsTurnedSaid := depsTurned.over
#print axioms depsTurned_holds
end Go.Proofs.Ytmaeepckfbnpjaa
