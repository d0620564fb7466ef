/- LinesEither: for every input that can be read the law returns true, and each argument reads as it did; no condition. -/
import Derived.Test.YtolpkeajokjbjaaDoorRows
import Derived.Test.YtolpkeajokjbjaaDoorCards
import Derived.Test.YtolpkeajokjbjaaDoorTie
import Derived.WalkKit
import Derived.ProofKit
import Derived.OpenShut
import Derived.ShutString
import Derived.ChangeOld
import Derived.Below
import Derived.SizedLaws
import Derived.Carry
import Derived.Handed
import Derived.SevenTiedAt
import Derived.Stop.Joined
import Derived.LaidMore
import Derived.Test.YtolpkeajokjbjaaDoorBLinesEither5
namespace Go.Proofs.YtolpkeajokjbjaaDoor.linesEither
open Go.ChangeShapes Go.WideShapes Go.ChangeAt Go.RowKit Go.L
open Go.ChangeMaps (open_string shut_string)
set_option linter.unusedVariables false
theorem own : ownKnob Tryd.prog.godebug = none := by kernel_rfl
theorem laidOut : laidOutB Tryd.prog = true := by kernel_rfl
set_option maxRecDepth 100000 in
theorem lifted (os : Os) (started : os.Started) (H : Type) (enc : TypeId × Value → H) :
    ReturnsInHanded {} Tryd.checked os 7 .any (fun w args => (Rows.linesEitherSpec.pre enc Tryd.prog Tryd.f7 [] false w args ∧ laidMetH Tryd.prog laidL w) ∧ sizedMet enc Tryd.prog Tryd.f7 (OpenSpec.ofChange Rows.linesEitherSpec) false w args) (Rows.linesEitherSpec.post enc Tryd.prog Tryd.f7 false true false false) := by
  refine returnsInHanded_of_change_and (C := Tryd.checked) (X := fun w _ => laidMetH Tryd.prog laidL w) (fun _ _ _ hh h => h.of_heap hh) own started (by kernel_rfl) Tryd.func7
    (ChangeSpec.witness_shaped (enc := enc) (C := Tryd.checked) (os := os) (X := fun w _ => laidMetH Tryd.prog laidL w) false (World.doorLaid Tryd.prog 2000 os) #[(.slice none 0 0), (.agg #[(.int .i64 0), (.int .u8 0), (.int .u8 0), (.int .u8 0), (.int .u8 0), (.int .u8 0), (.int .u8 0), (.int .u8 0), (.int .u8 0), (.int .u8 0), (.int .u8 0), (.int .u8 0), (.int .u8 0), (.int .u8 0), (.int .u8 0), (.int .u8 0), (.int .u8 0), (.int .u8 0), (.int .u8 0), (.int .u8 0), (.int .u8 0), (.int .u8 0), (.int .u8 0), (.int .u8 0), (.int .u8 0), (.int .u8 0), (.int .u8 0), (.int .u8 0), (.int .u8 0), (.int .u8 0), (.int .u8 0), (.int .u8 0), (.int .u8 0), (.int .i64 0), (.int .u8 0), (.int .u8 0), (.int .u8 0), (.int .u8 0), (.int .u8 0), (.int .u8 0), (.int .u8 0), (.int .u8 0), (.int .u8 0), (.int .u8 0), (.int .u8 0), (.int .u8 0), (.int .u8 0), (.int .u8 0), (.int .u8 0), (.int .u8 0), (.int .u8 0), (.int .u8 0), (.int .u8 0), (.int .u8 0), (.int .u8 0), (.int .u8 0), (.int .u8 0), (.int .u8 0), (.int .u8 0), (.int .u8 0), (.int .u8 0), (.int .u8 0), (.int .u8 0), (.int .u8 0), (.int .u8 0), (.int .u8 0), (.int .i64 0), (.slice none 0 0), (.slice none 0 0), (.int .u8 0), (.int .u8 0), (.int .u8 0), (.int .u8 0), (.int .u8 0), (.int .u8 0), (.int .u8 0), (.int .u8 0), (.int .u8 0), (.int .u8 0), (.int .u8 0), (.int .u8 0), (.int .u8 0), (.int .u8 0), (.int .u8 0), (.int .u8 0), (.int .u8 0), (.int .u8 0), (.int .u8 0), (.int .u8 0), (.int .u8 0), (.int .u8 0), (.int .u8 0), (.int .u8 0), (.int .u8 0), (.int .u8 0), (.int .u8 0), (.int .u8 0), (.int .u8 0), (.int .u8 0), (.int .u8 0), (.int .u8 0)]), (.agg #[(.int .i64 0), (.int .u8 0), (.int .u8 0), (.int .u8 0), (.int .u8 0), (.int .u8 0), (.int .u8 0), (.int .u8 0), (.int .u8 0), (.int .u8 0), (.int .u8 0), (.int .u8 0), (.int .u8 0), (.int .u8 0), (.int .u8 0), (.int .u8 0), (.int .u8 0), (.int .u8 0), (.int .u8 0), (.int .u8 0), (.int .u8 0), (.int .u8 0), (.int .u8 0), (.int .u8 0), (.int .u8 0), (.int .u8 0), (.int .u8 0), (.int .u8 0), (.int .u8 0), (.int .u8 0), (.int .u8 0), (.int .u8 0), (.int .u8 0), (.int .i64 0), (.int .u8 0), (.int .u8 0), (.int .u8 0), (.int .u8 0), (.int .u8 0), (.int .u8 0), (.int .u8 0), (.int .u8 0), (.int .u8 0), (.int .u8 0), (.int .u8 0), (.int .u8 0), (.int .u8 0), (.int .u8 0), (.int .u8 0), (.int .u8 0), (.int .u8 0), (.int .u8 0), (.int .u8 0), (.int .u8 0), (.int .u8 0), (.int .u8 0), (.int .u8 0), (.int .u8 0), (.int .u8 0), (.int .u8 0), (.int .u8 0), (.int .u8 0), (.int .u8 0), (.int .u8 0), (.int .u8 0), (.int .u8 0), (.int .i64 0), (.slice none 0 0), (.slice none 0 0), (.int .u8 0), (.int .u8 0), (.int .u8 0), (.int .u8 0), (.int .u8 0), (.int .u8 0), (.int .u8 0), (.int .u8 0), (.int .u8 0), (.int .u8 0), (.int .u8 0), (.int .u8 0), (.int .u8 0), (.int .u8 0), (.int .u8 0), (.int .u8 0), (.int .u8 0), (.int .u8 0), (.int .u8 0), (.int .u8 0), (.int .u8 0), (.int .u8 0), (.int .u8 0), (.int .u8 0), (.int .u8 0), (.int .u8 0), (.int .u8 0), (.int .u8 0), (.int .u8 0), (.int .u8 0), (.int .u8 0), (.int .u8 0)])] 8 rfl (World.shaped_of_RefB (by kernel_rfl) (by kernel_rfl)) (by kernel_rfl) (by kernel_rfl) (by kernel_rfl) (door_met os _)) ?_
  intro W base args ds gs before hval0 hW hcnd hsz0 hL _
  have hsz : (DataW.weightsEach Tryd.prog (Tryd.f7.params.toList ++ Rows.linesEitherSpec.plain.varTypes Tryd.prog) (ds ++ gs)).all (· ≤ reachBytes) = true := hsz0
  have hval : ∀ (j : Nat) t v, Tryd.f7.params[j]? = some t → args[j]? = some v → Value.okWide Tryd.prog W .any base t v := hval0
  have hW' := hW
  obtain ⟨p, q, hA0, hV, rfl, hfz, hnd⟩ := hW
  have hA : DataW.TrodAll enc Tryd.prog W 0 (fun _ => true) true Tryd.f7.params.toList args.toList ds p := hA0
  rw [Tryd.params7] at hA hval hsz
  obtain ⟨v0, vs0, d0, ds0, p0, q0, hargs, rfl, rfl, h0, r0⟩ := trodAll_cons hA
  obtain ⟨v1, vs1, d1, ds1, p1, q1, rfl, rfl, rfl, h1, r1⟩ := trodAll_cons r0
  obtain ⟨v2, vs2, d2, ds2, p2, q2, rfl, rfl, rfl, h2, r2⟩ := trodAll_cons r1
  obtain ⟨rfl, rfl, rfl⟩ := trodAll_nil r2
  obtain rfl : args = #[v0, v1, v2] := by cases args; simp_all
  obtain ⟨rfl, rfl⟩ := trodVars_none hV
  have k0 := h0
  have lt0 : ∀ x ∈ p0, x.block < W.heap.size := by obtain ⟨m, hm⟩ := k0; exact DataW.trod_lt m _ _ _ hm
  have we0 : Weighs Tryd.prog 42 d0 := fun m hm => by
    have := List.all_eq_true.1 hsz m (weightsEach_mem (i := 0) rfl rfl m hm)
    simpa using this
  obtain ⟨a0, len0, cap0, rfl⟩ := okWide_slice Tryd.underlying42 (hval 0 42 v0 rfl rfl)
  obtain ⟨fuel0, hf0⟩ := h0
  obtain ⟨_, hx0, x0, rfl, w0, y0⟩ := (Opens.slice (size := 101) (B := 168) Tryd.underlying42 (by kernel_rfl) (by kernel_rfl) (by decide) (Opens.struct (m := 101) Tryd.underlying52 (by kernel_rfl) (OpF.cons (n := 1) rfl (by kernel_rfl) (Opens.int Tryd.underlying3) (OpF.cons (n := 33) rfl (by kernel_rfl) (Opens.struct (m := 33) Tryd.underlying35 (by kernel_rfl) (OpF.cons (n := 32) rfl (by kernel_rfl) (Opens.array (n := 32) (size := 1) Tryd.underlying31 (by kernel_rfl) (by decide) (by kernel_rfl) (Opens.int Tryd.underlying5)) (OpF.cons (n := 1) rfl (by kernel_rfl) (Opens.int Tryd.underlying3) (OpF.nil _)))) (OpF.cons (n := 33) rfl (by kernel_rfl) (Opens.struct (m := 33) Tryd.underlying35 (by kernel_rfl) (OpF.cons (n := 32) rfl (by kernel_rfl) (Opens.array (n := 32) (size := 1) Tryd.underlying31 (by kernel_rfl) (by decide) (by kernel_rfl) (Opens.int Tryd.underlying5)) (OpF.cons (n := 1) rfl (by kernel_rfl) (Opens.int Tryd.underlying3) (OpF.nil _)))) (OpF.cons (n := 1) rfl (by kernel_rfl) (Opens.slice (size := 33) (B := 40) Tryd.underlying26 (by kernel_rfl) (by kernel_rfl) (by decide) (Opens.struct (m := 33) Tryd.underlying35 (by kernel_rfl) (OpF.cons (n := 32) rfl (by kernel_rfl) (Opens.array (n := 32) (size := 1) Tryd.underlying31 (by kernel_rfl) (by decide) (by kernel_rfl) (Opens.int Tryd.underlying5)) (OpF.cons (n := 1) rfl (by kernel_rfl) (Opens.int Tryd.underlying3) (OpF.nil _))))) (OpF.cons (n := 1) rfl (by kernel_rfl) (Opens.slice (size := 1) (B := 16) Tryd.underlying25 (by kernel_rfl) (by kernel_rfl) (by decide) (Opens.string Tryd.underlying9)) (OpF.cons (n := 32) rfl (by kernel_rfl) (Opens.array (n := 32) (size := 1) Tryd.underlying31 (by kernel_rfl) (by decide) (by kernel_rfl) (Opens.int Tryd.underlying5)) (OpF.nil _))))))))) H enc W 0 (fun _ => true) true fuel0 _ _ hf0 we0
  have k1 := h1
  have lt1 : ∀ x ∈ p1, x.block < W.heap.size := by obtain ⟨m, hm⟩ := k1; exact DataW.trod_lt m _ _ _ hm
  have we1 : Weighs Tryd.prog 52 d1 := fun m hm => by
    have := List.all_eq_true.1 hsz m (weightsEach_mem (i := 1) rfl rfl m hm)
    simpa using this
  obtain ⟨a1, rfl, _⟩ := okWide_struct Tryd.underlying52 (hval 1 52 v1 rfl rfl)
  obtain ⟨fuel1, hf1⟩ := h1
  obtain ⟨x1, hx1, w1⟩ := (Opens.struct (m := 101) Tryd.underlying52 (by kernel_rfl) (OpF.cons (n := 1) rfl (by kernel_rfl) (Opens.int Tryd.underlying3) (OpF.cons (n := 33) rfl (by kernel_rfl) (Opens.struct (m := 33) Tryd.underlying35 (by kernel_rfl) (OpF.cons (n := 32) rfl (by kernel_rfl) (Opens.array (n := 32) (size := 1) Tryd.underlying31 (by kernel_rfl) (by decide) (by kernel_rfl) (Opens.int Tryd.underlying5)) (OpF.cons (n := 1) rfl (by kernel_rfl) (Opens.int Tryd.underlying3) (OpF.nil _)))) (OpF.cons (n := 33) rfl (by kernel_rfl) (Opens.struct (m := 33) Tryd.underlying35 (by kernel_rfl) (OpF.cons (n := 32) rfl (by kernel_rfl) (Opens.array (n := 32) (size := 1) Tryd.underlying31 (by kernel_rfl) (by decide) (by kernel_rfl) (Opens.int Tryd.underlying5)) (OpF.cons (n := 1) rfl (by kernel_rfl) (Opens.int Tryd.underlying3) (OpF.nil _)))) (OpF.cons (n := 1) rfl (by kernel_rfl) (Opens.slice (size := 33) (B := 40) Tryd.underlying26 (by kernel_rfl) (by kernel_rfl) (by decide) (Opens.struct (m := 33) Tryd.underlying35 (by kernel_rfl) (OpF.cons (n := 32) rfl (by kernel_rfl) (Opens.array (n := 32) (size := 1) Tryd.underlying31 (by kernel_rfl) (by decide) (by kernel_rfl) (Opens.int Tryd.underlying5)) (OpF.cons (n := 1) rfl (by kernel_rfl) (Opens.int Tryd.underlying3) (OpF.nil _))))) (OpF.cons (n := 1) rfl (by kernel_rfl) (Opens.slice (size := 1) (B := 16) Tryd.underlying25 (by kernel_rfl) (by kernel_rfl) (by decide) (Opens.string Tryd.underlying9)) (OpF.cons (n := 32) rfl (by kernel_rfl) (Opens.array (n := 32) (size := 1) Tryd.underlying31 (by kernel_rfl) (by decide) (by kernel_rfl) (Opens.int Tryd.underlying5)) (OpF.nil _)))))))) H enc W 0 (fun _ => true) true fuel1 _ _ hf1 we1
  have k2 := h2
  have lt2 : ∀ x ∈ p2, x.block < W.heap.size := by obtain ⟨m, hm⟩ := k2; exact DataW.trod_lt m _ _ _ hm
  have we2 : Weighs Tryd.prog 52 d2 := fun m hm => by
    have := List.all_eq_true.1 hsz m (weightsEach_mem (i := 2) rfl rfl m hm)
    simpa using this
  obtain ⟨a2, rfl, _⟩ := okWide_struct Tryd.underlying52 (hval 2 52 v2 rfl rfl)
  obtain ⟨fuel2, hf2⟩ := h2
  obtain ⟨x2, hx2, w2⟩ := (Opens.struct (m := 101) Tryd.underlying52 (by kernel_rfl) (OpF.cons (n := 1) rfl (by kernel_rfl) (Opens.int Tryd.underlying3) (OpF.cons (n := 33) rfl (by kernel_rfl) (Opens.struct (m := 33) Tryd.underlying35 (by kernel_rfl) (OpF.cons (n := 32) rfl (by kernel_rfl) (Opens.array (n := 32) (size := 1) Tryd.underlying31 (by kernel_rfl) (by decide) (by kernel_rfl) (Opens.int Tryd.underlying5)) (OpF.cons (n := 1) rfl (by kernel_rfl) (Opens.int Tryd.underlying3) (OpF.nil _)))) (OpF.cons (n := 33) rfl (by kernel_rfl) (Opens.struct (m := 33) Tryd.underlying35 (by kernel_rfl) (OpF.cons (n := 32) rfl (by kernel_rfl) (Opens.array (n := 32) (size := 1) Tryd.underlying31 (by kernel_rfl) (by decide) (by kernel_rfl) (Opens.int Tryd.underlying5)) (OpF.cons (n := 1) rfl (by kernel_rfl) (Opens.int Tryd.underlying3) (OpF.nil _)))) (OpF.cons (n := 1) rfl (by kernel_rfl) (Opens.slice (size := 33) (B := 40) Tryd.underlying26 (by kernel_rfl) (by kernel_rfl) (by decide) (Opens.struct (m := 33) Tryd.underlying35 (by kernel_rfl) (OpF.cons (n := 32) rfl (by kernel_rfl) (Opens.array (n := 32) (size := 1) Tryd.underlying31 (by kernel_rfl) (by decide) (by kernel_rfl) (Opens.int Tryd.underlying5)) (OpF.cons (n := 1) rfl (by kernel_rfl) (Opens.int Tryd.underlying3) (OpF.nil _))))) (OpF.cons (n := 1) rfl (by kernel_rfl) (Opens.slice (size := 1) (B := 16) Tryd.underlying25 (by kernel_rfl) (by kernel_rfl) (by decide) (Opens.string Tryd.underlying9)) (OpF.cons (n := 32) rfl (by kernel_rfl) (Opens.array (n := 32) (size := 1) Tryd.underlying31 (by kernel_rfl) (by decide) (by kernel_rfl) (Opens.int Tryd.underlying5)) (OpF.nil _)))))))) H enc W 0 (fun _ => true) true fuel2 _ _ hf2 we2
  clear hA0 hval0 hsz0 hsz
  refine (LCalls.runK (LinesEither_row x0 x1 x2 w0 y0 w1 w2) (fun r H' h => h.1) (reps_cons (hx0.1.2 0 _ _ rfl rfl) (reps_cons (reps_agg (by simpa [Value.cells] using hx1)) (reps_cons (reps_agg (by simpa [Value.cells] using hx2)) reps_nil))) (of_laid hL)).mono fun e W' ⟨he, bel⟩ => ?_
  subst he
  exact ⟨_, rfl, _, _, _, [], _, [], hW', trodAll_mk1 (shut_bool Tryd.underlying4 _), (trodAll_cons_mk (Below.trod laidOut (by kernel_rfl) (of_decide_eq_true (by kernel_rfl)) k0 bel lt0) (trodAll_cons_mk (Below.trod laidOut (by kernel_rfl) (of_decide_eq_true (by kernel_rfl)) k1 bel lt1) (trodAll_cons_mk (Below.trod laidOut (by kernel_rfl) (of_decide_eq_true (by kernel_rfl)) k2 bel lt2) trodAll_mk0))), rfl, bel.frame _, fun h => by cases h⟩
theorem over : Rows.linesEitherRow.holds Tryd.pinned (OpenSpec.ofChange Rows.linesEitherSpec) :=
  OpenClaim.holds_of_wide 7 Tryd.f7 rfl rfl rfl rfl rfl rfl rfl ⟨rfl, rfl, rfl, rfl, rfl⟩ rfl rfl rfl rfl rfl (by kernel_rfl) Tryd.func7 (by kernel_rfl)
    (of_decide_eq_true (by kernel_rfl)) (by unfold Func.isWrapper; first | (rw [if_pos (by decide +kernel)]; kernel_rfl) | (rw [if_neg (by decide +kernel)]; exact ⟨rfl, rfl⟩))
    (fun os started H enc _ => lifted os started H enc)
end Go.Proofs.YtolpkeajokjbjaaDoor.linesEither
namespace Go.Proofs.YtolpkeajokjbjaaDoor
theorem linesEither_holds : Rows.LinesEitherCardSaid :=
  Claim7.holds_tied_plain_at .later [] [.data] true (true, "dbb4bf12fb9edb021cca4c1f72fa4f5ee7a5be467b8cd0a68a0dbe3d2af40db0") false
    linesEither.over (fun _ h => by cases h) (by kernel_rfl) (fun _ h => by cases h) linesEither_row_tie rfl ⟨rfl, rfl⟩ (by kernel_rfl) rfl
    (fun f fn hf hfn => by
      obtain rfl : f = 7 := Option.some.inj ((show Tryd.prog.funcNamed "ingot/ingotlaw11.LinesEither" = some 7 by kernel_rfl).symm.trans hf) |>.symm
      obtain rfl : fn = Tryd.f7 := (Option.some.inj (Tryd.func7.symm.trans hfn)).symm
      exact ⟨by kernel_rfl, fun j t ht => by
        rw [Tryd.params7] at ht
        have hm : t ∈ [42, 52, 52] := by simpa using Array.mem_of_getElem? ht
        have hall : ([42, 52, 52].all fun u => !Tryd.prog.wantsStandIn u) = true := by kernel_rfl
        exact (show Tryd.prog.wantsStandIn t = false by simpa using List.all_eq_true.1 hall t hm)⟩)
    (by kernel_rfl)
#print axioms linesEither_holds
end Go.Proofs.YtolpkeajokjbjaaDoor
