/- AuditTurned: for every input that can be read the law returns true, and each argument reads as it did; no condition. -/
import Derived.Test.YtpcfpkfchoelcaaDoorRows
import Derived.Test.YtpcfpkfchoelcaaDoorAuL
import Derived.Test.YtpcfpkfchoelcaaDoorLogR
import Derived.Test.YtpcfpkfchoelcaaDoorHsL
import Derived.Test.YtpcfpkfchoelcaaDoorCards
import Derived.Test.YtpcfpkfchoelcaaDoorTie
import Derived.WalkKit
import Derived.ProofKit
import Derived.OpenShut
import Derived.ShutString
import Derived.ChangeOld
import Derived.Below
import Derived.SizedLaws
import Derived.Carry
import Derived.Handed
import Derived.SevenTiedAt
import Derived.Stop.Joined
import Derived.LaidMore
namespace Go.Proofs.YtpcfpkfchoelcaaDoor.auditTurned
open Go.ChangeShapes Go.WideShapes Go.ChangeAt Go.RowKit Go.L
open Go.ChangeMaps (open_string shut_string)
set_option linter.unusedVariables false
theorem own : ownKnob Tryd.prog.godebug = none := by kernel_rfl
theorem laidOut : laidOutB Tryd.prog = true := by kernel_rfl
set_option maxRecDepth 100000 in
theorem lifted (os : Os) (started : os.Started) (H : Type) (enc : TypeId × Value → H) :
    ReturnsInHanded {} Tryd.checked os 6 .any (fun w args => (Rows.auditTurnedSpec.pre enc Tryd.prog Tryd.f6 [] false w args ∧ laidMetH Tryd.prog laidL w) ∧ sizedMet enc Tryd.prog Tryd.f6 (OpenSpec.ofChange Rows.auditTurnedSpec) false w args) (Rows.auditTurnedSpec.post enc Tryd.prog Tryd.f6 false true false false) := by
  refine returnsInHanded_of_change_and (C := Tryd.checked) (X := fun w _ => laidMetH Tryd.prog laidL w) (fun _ _ _ hh h => h.of_heap hh) own started (by kernel_rfl) Tryd.func6
    (ChangeSpec.witness_shaped (enc := enc) (C := Tryd.checked) (os := os) (X := fun w _ => laidMetH Tryd.prog laidL w) false (World.doorLaid Tryd.prog 2000 os) #[(.slice none 0 0), (.int .i64 0), (.string ByteArray.empty)] 8 rfl (World.shaped_of_RefB (by kernel_rfl) (by kernel_rfl)) (by kernel_rfl) (by kernel_rfl) (by kernel_rfl) (door_met os _)) ?_
  intro W base args ds gs before hval0 hW hcnd hsz0 hL _
  have hsz : (DataW.weightsEach Tryd.prog (Tryd.f6.params.toList ++ Rows.auditTurnedSpec.plain.varTypes Tryd.prog) (ds ++ gs)).all (· ≤ reachBytes) = true := hsz0
  have hval : ∀ (j : Nat) t v, Tryd.f6.params[j]? = some t → args[j]? = some v → Value.okWide Tryd.prog W .any base t v := hval0
  have hW' := hW
  obtain ⟨p, q, hA0, hV, rfl, hfz, hnd⟩ := hW
  have hA : DataW.TrodAll enc Tryd.prog W 0 (fun _ => true) true Tryd.f6.params.toList args.toList ds p := hA0
  rw [Tryd.params6] at hA hval hsz
  obtain ⟨v0, vs0, d0, ds0, p0, q0, hargs, rfl, rfl, h0, r0⟩ := trodAll_cons hA
  obtain ⟨v1, vs1, d1, ds1, p1, q1, rfl, rfl, rfl, h1, r1⟩ := trodAll_cons r0
  obtain ⟨v2, vs2, d2, ds2, p2, q2, rfl, rfl, rfl, h2, r2⟩ := trodAll_cons r1
  obtain ⟨rfl, rfl, rfl⟩ := trodAll_nil r2
  obtain rfl : args = #[v0, v1, v2] := by cases args; simp_all
  obtain ⟨rfl, rfl⟩ := trodVars_none hV
  have k0 := h0
  have lt0 : ∀ x ∈ p0, x.block < W.heap.size := by obtain ⟨m, hm⟩ := k0; exact DataW.trod_lt m _ _ _ hm
  have we0 : Weighs Tryd.prog 46 d0 := fun m hm => by
    have := List.all_eq_true.1 hsz m (weightsEach_mem (i := 0) rfl rfl m hm)
    simpa using this
  obtain ⟨a0, len0, cap0, rfl⟩ := okWide_slice Tryd.underlying46 (hval 0 46 v0 rfl rfl)
  obtain ⟨fuel0, hf0⟩ := h0
  obtain ⟨_, hx0, x0, rfl, w0, y0⟩ := (Opens.slice (size := 4) (B := 48) Tryd.underlying46 (by kernel_rfl) (by kernel_rfl) (by decide) (Opens.struct (m := 4) Tryd.underlying35 (by kernel_rfl) (OpF.cons (n := 1) rfl (by kernel_rfl) (Opens.int Tryd.underlying3) (OpF.cons (n := 1) rfl (by kernel_rfl) (Opens.string Tryd.underlying9) (OpF.cons (n := 1) rfl (by kernel_rfl) (Opens.string Tryd.underlying9) (OpF.cons (n := 1) rfl (by kernel_rfl) (Opens.bool Tryd.underlying4) (OpF.nil _))))))) H enc W 0 (fun _ => true) true fuel0 _ _ hf0 we0
  have k1 := h1
  have lt1 : ∀ x ∈ p1, x.block < W.heap.size := by obtain ⟨m, hm⟩ := k1; exact DataW.trod_lt m _ _ _ hm
  have we1 : Weighs Tryd.prog 3 d1 := fun m hm => by
    have := List.all_eq_true.1 hsz m (weightsEach_mem (i := 1) rfl rfl m hm)
    simpa using this
  obtain ⟨x1, rfl, rfl, rfl, w1⟩ := open_int Tryd.underlying3 (hval 1 3 v1 rfl rfl) h1
  have k2 := h2
  have lt2 : ∀ x ∈ p2, x.block < W.heap.size := by obtain ⟨m, hm⟩ := k2; exact DataW.trod_lt m _ _ _ hm
  have we2 : Weighs Tryd.prog 9 d2 := fun m hm => by
    have := List.all_eq_true.1 hsz m (weightsEach_mem (i := 2) rfl rfl m hm)
    simpa using this
  obtain ⟨a2, rfl, rfl, rfl, y2⟩ := open_string Tryd.underlying9 (hval 2 9 v2 rfl rfl) h2
  obtain ⟨x2, rfl⟩ : ∃ l : List UInt8, a2 = ⟨l.toArray⟩ := ⟨a2.data.toList, by cases a2; simp⟩
  have w2 : x2.length ≤ reachBytes := we2 _ (by simp [DataW.weights])
  clear hA0 hval0 hsz0 hsz
  refine (LCalls.runK (AuditTurned_row x0 x1 x2 w0 y0 w1 w2) (fun r H' h => h.1) (reps_cons (hx0.1.2 0 _ _ rfl rfl) (reps_cons (.raw _) (reps_cons (.raw _) reps_nil))) (of_laid hL)).mono fun e W' ⟨he, bel⟩ => ?_
  subst he
  exact ⟨_, rfl, _, _, _, [], _, [], hW', trodAll_mk1 (shut_bool Tryd.underlying4 _), (trodAll_cons_mk (Below.trod laidOut (by kernel_rfl) (of_decide_eq_true (by kernel_rfl)) k0 bel lt0) (trodAll_cons_mk (Below.trod laidOut (by kernel_rfl) (of_decide_eq_true (by kernel_rfl)) k1 bel lt1) (trodAll_cons_mk (Below.trod laidOut (by kernel_rfl) (of_decide_eq_true (by kernel_rfl)) k2 bel lt2) trodAll_mk0))), rfl, bel.frame _, fun h => by cases h⟩
theorem over : Rows.auditTurnedRow.holds Tryd.pinned (OpenSpec.ofChange Rows.auditTurnedSpec) :=
  OpenClaim.holds_of_wide 6 Tryd.f6 rfl rfl rfl rfl rfl rfl rfl ⟨rfl, rfl, rfl, rfl, rfl⟩ rfl rfl rfl rfl rfl (by kernel_rfl) Tryd.func6 (by kernel_rfl)
    (of_decide_eq_true (by kernel_rfl)) (by unfold Func.isWrapper; first | (rw [if_pos (by decide +kernel)]; kernel_rfl) | (rw [if_neg (by decide +kernel)]; exact ⟨rfl, rfl⟩))
    (fun os started H enc _ => lifted os started H enc)
end Go.Proofs.YtpcfpkfchoelcaaDoor.auditTurned
namespace Go.Proofs.YtpcfpkfchoelcaaDoor
theorem auditTurned_holds : Rows.AuditTurnedCardSaid :=
  Claim7.holds_tied_plain_at .later [] [.data] true (true, "c499fcfd57baa05c5a7ae24af21c798f0fe9a7bbda598077044cf2e23332157f") false
    auditTurned.over (fun _ h => by cases h) (by kernel_rfl) (fun _ h => by cases h) auditTurned_row_tie rfl ⟨rfl, rfl⟩ (by kernel_rfl) rfl
    (fun f fn hf hfn => by
      obtain rfl : f = 6 := Option.some.inj ((show Tryd.prog.funcNamed "ingot/ingotlaw19.AuditTurned" = some 6 by kernel_rfl).symm.trans hf) |>.symm
      obtain rfl : fn = Tryd.f6 := (Option.some.inj (Tryd.func6.symm.trans hfn)).symm
      exact ⟨by kernel_rfl, fun j t ht => by
        rw [Tryd.params6] at ht
        have hm : t ∈ [46, 3, 9] := by simpa using Array.mem_of_getElem? ht
        have hall : ([46, 3, 9].all fun u => !Tryd.prog.wantsStandIn u) = true := by kernel_rfl
        exact (show Tryd.prog.wantsStandIn t = false by simpa using List.all_eq_true.1 hall t hm)⟩)
    (by kernel_rfl)
#print axioms auditTurned_holds
end Go.Proofs.YtpcfpkfchoelcaaDoor
