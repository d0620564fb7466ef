/- TokenPlays: for every input that can be read the law returns true, and each argument reads as it did; no condition. -/
import Derived.Test.YtnfeepmgdahmgaaDoorRows
import Derived.Test.YtnfeepmgdahmgaaDoorTkP
import Derived.Test.YtnfeepmgdahmgaaDoorLgB
import Derived.Test.YtnfeepmgdahmgaaDoorTkL
import Derived.Test.YtnfeepmgdahmgaaDoorCards
import Derived.Test.YtnfeepmgdahmgaaDoorTie
import Derived.WalkKit
import Derived.ProofKit
import Derived.OpenShut
import Derived.ShutString
import Derived.ChangeOld
import Derived.Below
import Derived.SizedLaws
import Derived.Carry
import Derived.Handed
import Derived.SevenTiedAt
import Derived.Stop.Joined
import Derived.LaidMore
namespace Go.Proofs.YtnfeepmgdahmgaaDoor.tokenPlays
open Go.ChangeShapes Go.WideShapes Go.ChangeAt Go.RowKit Go.L
open Go.ChangeMaps (open_string shut_string)
set_option linter.unusedVariables false
theorem own : ownKnob Tryd.prog.godebug = none := by kernel_rfl
theorem laidOut : laidOutB Tryd.prog = true := by kernel_rfl
set_option maxRecDepth 100000 in
theorem lifted (os : Os) (started : os.Started) (H : Type) (enc : TypeId × Value → H) :
    ReturnsInHanded {} Tryd.checked os 5 .any (fun w args => (Rows.tokenPlaysSpec.pre enc Tryd.prog Tryd.f5 [] false w args ∧ laidMetH Tryd.prog laidL w) ∧ sizedMet enc Tryd.prog Tryd.f5 (OpenSpec.ofChange Rows.tokenPlaysSpec) false w args) (Rows.tokenPlaysSpec.post enc Tryd.prog Tryd.f5 false true false false) := by
  refine returnsInHanded_of_change_and (C := Tryd.checked) (X := fun w _ => laidMetH Tryd.prog laidL w) (fun _ _ _ hh h => h.of_heap hh) own started (by kernel_rfl) Tryd.func5
    (ChangeSpec.witness_shaped (enc := enc) (C := Tryd.checked) (os := os) (X := fun w _ => laidMetH Tryd.prog laidL w) false (World.doorLaid Tryd.prog 2000 os) #[(.slice none 0 0), (.slice none 0 0)] 8 rfl (World.shaped_of_RefB (by kernel_rfl) (by kernel_rfl)) (by kernel_rfl) (by kernel_rfl) (by kernel_rfl) (door_met os _)) ?_
  intro W base args ds gs before hval0 hW hcnd hsz0 hL _
  have hsz : (DataW.weightsEach Tryd.prog (Tryd.f5.params.toList ++ Rows.tokenPlaysSpec.plain.varTypes Tryd.prog) (ds ++ gs)).all (· ≤ reachBytes) = true := hsz0
  have hval : ∀ (j : Nat) t v, Tryd.f5.params[j]? = some t → args[j]? = some v → Value.okWide Tryd.prog W .any base t v := hval0
  have hW' := hW
  obtain ⟨p, q, hA0, hV, rfl, hfz, hnd⟩ := hW
  have hA : DataW.TrodAll enc Tryd.prog W 0 (fun _ => true) true Tryd.f5.params.toList args.toList ds p := hA0
  rw [Tryd.params5] at hA hval hsz
  obtain ⟨v0, vs0, d0, ds0, p0, q0, hargs, rfl, rfl, h0, r0⟩ := trodAll_cons hA
  obtain ⟨v1, vs1, d1, ds1, p1, q1, rfl, rfl, rfl, h1, r1⟩ := trodAll_cons r0
  obtain ⟨rfl, rfl, rfl⟩ := trodAll_nil r1
  obtain rfl : args = #[v0, v1] := by cases args; simp_all
  obtain ⟨rfl, rfl⟩ := trodVars_none hV
  have k0 := h0
  have lt0 : ∀ x ∈ p0, x.block < W.heap.size := by obtain ⟨m, hm⟩ := k0; exact DataW.trod_lt m _ _ _ hm
  have we0 : Weighs Tryd.prog 22 d0 := fun m hm => by
    have := List.all_eq_true.1 hsz m (weightsEach_mem (i := 0) rfl rfl m hm)
    simpa using this
  obtain ⟨a0, len0, cap0, rfl⟩ := okWide_slice Tryd.underlying22 (hval 0 22 v0 rfl rfl)
  obtain ⟨fuel0, hf0⟩ := h0
  obtain ⟨_, hx0, x0, rfl, w0, y0⟩ := (Opens.slice (size := 1) (B := 1) Tryd.underlying22 (by kernel_rfl) (by kernel_rfl) (by decide) (Opens.int Tryd.underlying5)) H enc W 0 (fun _ => true) true fuel0 _ _ hf0 we0
  have k1 := h1
  have lt1 : ∀ x ∈ p1, x.block < W.heap.size := by obtain ⟨m, hm⟩ := k1; exact DataW.trod_lt m _ _ _ hm
  have we1 : Weighs Tryd.prog 38 d1 := fun m hm => by
    have := List.all_eq_true.1 hsz m (weightsEach_mem (i := 1) rfl rfl m hm)
    simpa using this
  obtain ⟨a1, len1, cap1, rfl⟩ := okWide_slice Tryd.underlying38 (hval 1 38 v1 rfl rfl)
  obtain ⟨fuel1, hf1⟩ := h1
  obtain ⟨_, hx1, x1, rfl, w1, y1⟩ := (Opens.slice (size := 7) (B := 72) Tryd.underlying38 (by kernel_rfl) (by kernel_rfl) (by decide) (Opens.struct (m := 7) Tryd.underlying33 (by kernel_rfl) (OpF.cons (n := 1) rfl (by kernel_rfl) (Opens.int Tryd.underlying3) (OpF.cons (n := 1) rfl (by kernel_rfl) (Opens.string Tryd.underlying9) (OpF.cons (n := 1) rfl (by kernel_rfl) (Opens.string Tryd.underlying9) (OpF.cons (n := 1) rfl (by kernel_rfl) (Opens.int Tryd.underlying3) (OpF.cons (n := 1) rfl (by kernel_rfl) (Opens.int Tryd.underlying3) (OpF.cons (n := 1) rfl (by kernel_rfl) (Opens.int Tryd.underlying3) (OpF.cons (n := 1) rfl (by kernel_rfl) (Opens.bool Tryd.underlying4) (OpF.nil _)))))))))) H enc W 0 (fun _ => true) true fuel1 _ _ hf1 we1
  clear hA0 hval0 hsz0 hsz
  refine (LCalls.runK2 (TokenPlays_row x0 x1 w0 y0 w1 y1) (fun r H' h => h.1) (reps_cons (hx0.1.2 0 _ _ rfl rfl) (reps_cons (hx1.1.2 0 _ _ rfl rfl) reps_nil)) (of_laid hL)).mono fun e W' ⟨he, bel⟩ => ?_
  subst he
  exact ⟨_, rfl, _, _, _, [], _, [], hW', trodAll_mk1 (shut_bool Tryd.underlying4 _), (trodAll_cons_mk (Below.trod laidOut (by kernel_rfl) (of_decide_eq_true (by kernel_rfl)) k0 bel lt0) (trodAll_cons_mk (Below.trod laidOut (by kernel_rfl) (of_decide_eq_true (by kernel_rfl)) k1 bel lt1) trodAll_mk0)), rfl, bel.frame _, fun h => by cases h⟩
theorem over : Rows.tokenPlaysRow.holds Tryd.pinned (OpenSpec.ofChange Rows.tokenPlaysSpec) :=
  OpenClaim.holds_of_wide 5 Tryd.f5 rfl rfl rfl rfl rfl rfl rfl ⟨rfl, rfl, rfl, rfl, rfl⟩ rfl rfl rfl rfl rfl (by kernel_rfl) Tryd.func5 (by kernel_rfl)
    (of_decide_eq_true (by kernel_rfl)) (by unfold Func.isWrapper; first | (rw [if_pos (by decide +kernel)]; kernel_rfl) | (rw [if_neg (by decide +kernel)]; exact ⟨rfl, rfl⟩))
    (fun os started H enc _ => lifted os started H enc)
end Go.Proofs.YtnfeepmgdahmgaaDoor.tokenPlays
namespace Go.Proofs.YtnfeepmgdahmgaaDoor
theorem tokenPlays_holds : Rows.TokenPlaysCardSaid :=
  Claim7.holds_tied_plain_at .later [] [.data, .data, .data, .data] true (true, "bac944910160361950012da4c7649f5aa01fe5280c1a78807639327060bc942d") true
    tokenPlays.over (fun _ h => by cases h) (by kernel_rfl) (fun _ h => by cases h) tokenPlays_row_tie rfl ⟨rfl, rfl⟩ (by kernel_rfl) rfl
    (fun f fn hf hfn => by
      obtain rfl : f = 5 := Option.some.inj ((show Tryd.prog.funcNamed "ingot/ingotlaw16.TokenPlays" = some 5 by kernel_rfl).symm.trans hf) |>.symm
      obtain rfl : fn = Tryd.f5 := (Option.some.inj (Tryd.func5.symm.trans hfn)).symm
      exact ⟨by kernel_rfl, fun j t ht => by
        rw [Tryd.params5] at ht
        have hm : t ∈ [22, 38] := by simpa using Array.mem_of_getElem? ht
        have hall : ([22, 38].all fun u => !Tryd.prog.wantsStandIn u) = true := by kernel_rfl
        exact (show Tryd.prog.wantsStandIn t = false by simpa using List.all_eq_true.1 hall t hm)⟩)
    (by kernel_rfl)
#print axioms tokenPlays_holds
end Go.Proofs.YtnfeepmgdahmgaaDoor
