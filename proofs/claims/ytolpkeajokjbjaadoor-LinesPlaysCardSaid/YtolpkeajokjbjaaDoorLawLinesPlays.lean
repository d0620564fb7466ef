/- LinesPlays: for every input that can be read the law returns true, and each argument reads as it did; no condition. -/
import Derived.Test.YtolpkeajokjbjaaDoorRows
import Derived.Test.YtolpkeajokjbjaaDoorCards
import Derived.Test.YtolpkeajokjbjaaDoorTie
import Derived.WalkKit
import Derived.ProofKit
import Derived.OpenShut
import Derived.ShutString
import Derived.ChangeOld
import Derived.Below
import Derived.SizedLaws
import Derived.Carry
import Derived.Handed
import Derived.SevenTiedAt
import Derived.Stop.Joined
import Derived.LaidMore
import Derived.Test.YtolpkeajokjbjaaDoorBLinesPlays6
namespace Go.Proofs.YtolpkeajokjbjaaDoor.linesPlays
open Go.ChangeShapes Go.WideShapes Go.ChangeAt Go.RowKit Go.L
open Go.ChangeMaps (open_string shut_string)
set_option linter.unusedVariables false
theorem own : ownKnob Tryd.prog.godebug = none := by kernel_rfl
theorem laidOut : laidOutB Tryd.prog = true := by kernel_rfl
set_option maxRecDepth 100000 in
theorem lifted (os : Os) (started : os.Started) (H : Type) (enc : TypeId × Value → H) :
    ReturnsInHanded {} Tryd.checked os 6 .any (fun w args => (Rows.linesPlaysSpec.pre enc Tryd.prog Tryd.f6 [] false w args ∧ laidMetH Tryd.prog laidL w) ∧ sizedMet enc Tryd.prog Tryd.f6 (OpenSpec.ofChange Rows.linesPlaysSpec) false w args) (Rows.linesPlaysSpec.post enc Tryd.prog Tryd.f6 false true false false) := by
  refine returnsInHanded_of_change_and (C := Tryd.checked) (X := fun w _ => laidMetH Tryd.prog laidL w) (fun _ _ _ hh h => h.of_heap hh) own started (by kernel_rfl) Tryd.func6
    (ChangeSpec.witness_shaped (enc := enc) (C := Tryd.checked) (os := os) (X := fun w _ => laidMetH Tryd.prog laidL w) false (World.doorLaid Tryd.prog 2000 os) #[(.slice none 0 0)] 8 rfl (World.shaped_of_RefB (by kernel_rfl) (by kernel_rfl)) (by kernel_rfl) (by kernel_rfl) (by kernel_rfl) (door_met os _)) ?_
  intro W base args ds gs before hval0 hW hcnd hsz0 hL _
  have hsz : (DataW.weightsEach Tryd.prog (Tryd.f6.params.toList ++ Rows.linesPlaysSpec.plain.varTypes Tryd.prog) (ds ++ gs)).all (· ≤ reachBytes) = true := hsz0
  have hval : ∀ (j : Nat) t v, Tryd.f6.params[j]? = some t → args[j]? = some v → Value.okWide Tryd.prog W .any base t v := hval0
  have hW' := hW
  obtain ⟨p, q, hA0, hV, rfl, hfz, hnd⟩ := hW
  have hA : DataW.TrodAll enc Tryd.prog W 0 (fun _ => true) true Tryd.f6.params.toList args.toList ds p := hA0
  rw [Tryd.params6] at hA hval hsz
  obtain ⟨v0, vs0, d0, ds0, p0, q0, hargs, rfl, rfl, h0, r0⟩ := trodAll_cons hA
  obtain ⟨rfl, rfl, rfl⟩ := trodAll_nil r0
  obtain rfl : args = #[v0] := by cases args; simp_all
  obtain ⟨rfl, rfl⟩ := trodVars_none hV
  have k0 := h0
  have lt0 : ∀ x ∈ p0, x.block < W.heap.size := by obtain ⟨m, hm⟩ := k0; exact DataW.trod_lt m _ _ _ hm
  have we0 : Weighs Tryd.prog 42 d0 := fun m hm => by
    have := List.all_eq_true.1 hsz m (weightsEach_mem (i := 0) rfl rfl m hm)
    simpa using this
  obtain ⟨a0, len0, cap0, rfl⟩ := okWide_slice Tryd.underlying42 (hval 0 42 v0 rfl rfl)
  obtain ⟨fuel0, hf0⟩ := h0
  obtain ⟨_, hx0, x0, rfl, w0, y0⟩ := (Opens.slice (size := 101) (B := 168) Tryd.underlying42 (by kernel_rfl) (by kernel_rfl) (by decide) (Opens.struct (m := 101) Tryd.underlying52 (by kernel_rfl) (OpF.cons (n := 1) rfl (by kernel_rfl) (Opens.int Tryd.underlying3) (OpF.cons (n := 33) rfl (by kernel_rfl) (Opens.struct (m := 33) Tryd.underlying35 (by kernel_rfl) (OpF.cons (n := 32) rfl (by kernel_rfl) (Opens.array (n := 32) (size := 1) Tryd.underlying31 (by kernel_rfl) (by decide) (by kernel_rfl) (Opens.int Tryd.underlying5)) (OpF.cons (n := 1) rfl (by kernel_rfl) (Opens.int Tryd.underlying3) (OpF.nil _)))) (OpF.cons (n := 33) rfl (by kernel_rfl) (Opens.struct (m := 33) Tryd.underlying35 (by kernel_rfl) (OpF.cons (n := 32) rfl (by kernel_rfl) (Opens.array (n := 32) (size := 1) Tryd.underlying31 (by kernel_rfl) (by decide) (by kernel_rfl) (Opens.int Tryd.underlying5)) (OpF.cons (n := 1) rfl (by kernel_rfl) (Opens.int Tryd.underlying3) (OpF.nil _)))) (OpF.cons (n := 1) rfl (by kernel_rfl) (Opens.slice (size := 33) (B := 40) Tryd.underlying26 (by kernel_rfl) (by kernel_rfl) (by decide) (Opens.struct (m := 33) Tryd.underlying35 (by kernel_rfl) (OpF.cons (n := 32) rfl (by kernel_rfl) (Opens.array (n := 32) (size := 1) Tryd.underlying31 (by kernel_rfl) (by decide) (by kernel_rfl) (Opens.int Tryd.underlying5)) (OpF.cons (n := 1) rfl (by kernel_rfl) (Opens.int Tryd.underlying3) (OpF.nil _))))) (OpF.cons (n := 1) rfl (by kernel_rfl) (Opens.slice (size := 1) (B := 16) Tryd.underlying25 (by kernel_rfl) (by kernel_rfl) (by decide) (Opens.string Tryd.underlying9)) (OpF.cons (n := 32) rfl (by kernel_rfl) (Opens.array (n := 32) (size := 1) Tryd.underlying31 (by kernel_rfl) (by decide) (by kernel_rfl) (Opens.int Tryd.underlying5)) (OpF.nil _))))))))) H enc W 0 (fun _ => true) true fuel0 _ _ hf0 we0
  clear hA0 hval0 hsz0 hsz
  refine (LCalls.runK (LinesPlays_row x0 w0 y0) (fun r H' h => h.1) (reps_cons (hx0.1.2 0 _ _ rfl rfl) reps_nil) (of_laid hL)).mono fun e W' ⟨he, bel⟩ => ?_
  subst he
  exact ⟨_, rfl, _, _, _, [], _, [], hW', trodAll_mk1 (shut_bool Tryd.underlying4 _), (trodAll_cons_mk (Below.trod laidOut (by kernel_rfl) (of_decide_eq_true (by kernel_rfl)) k0 bel lt0) trodAll_mk0), rfl, bel.frame _, fun h => by cases h⟩
theorem over : Rows.linesPlaysRow.holds Tryd.pinned (OpenSpec.ofChange Rows.linesPlaysSpec) :=
  OpenClaim.holds_of_wide 6 Tryd.f6 rfl rfl rfl rfl rfl rfl rfl ⟨rfl, rfl, rfl, rfl, rfl⟩ rfl rfl rfl rfl rfl (by kernel_rfl) Tryd.func6 (by kernel_rfl)
    (of_decide_eq_true (by kernel_rfl)) (by unfold Func.isWrapper; first | (rw [if_pos (by decide +kernel)]; kernel_rfl) | (rw [if_neg (by decide +kernel)]; exact ⟨rfl, rfl⟩))
    (fun os started H enc _ => lifted os started H enc)
end Go.Proofs.YtolpkeajokjbjaaDoor.linesPlays
namespace Go.Proofs.YtolpkeajokjbjaaDoor
theorem linesPlays_holds : Rows.LinesPlaysCardSaid :=
  Claim7.holds_tied_plain_at .later [] [.data] true (true, "dbb4bf12fb9edb021cca4c1f72fa4f5ee7a5be467b8cd0a68a0dbe3d2af40db0") false
    linesPlays.over (fun _ h => by cases h) (by kernel_rfl) (fun _ h => by cases h) linesPlays_row_tie rfl ⟨rfl, rfl⟩ (by kernel_rfl) rfl
    (fun f fn hf hfn => by
      obtain rfl : f = 6 := Option.some.inj ((show Tryd.prog.funcNamed "ingot/ingotlaw11.LinesPlays" = some 6 by kernel_rfl).symm.trans hf) |>.symm
      obtain rfl : fn = Tryd.f6 := (Option.some.inj (Tryd.func6.symm.trans hfn)).symm
      exact ⟨by kernel_rfl, fun j t ht => by
        rw [Tryd.params6] at ht
        have hm : t ∈ [42] := by simpa using Array.mem_of_getElem? ht
        have hall : ([42].all fun u => !Tryd.prog.wantsStandIn u) = true := by kernel_rfl
        exact (show Tryd.prog.wantsStandIn t = false by simpa using List.all_eq_true.1 hall t hm)⟩)
    (by kernel_rfl)
#print axioms linesPlays_holds
end Go.Proofs.YtolpkeajokjbjaaDoor
