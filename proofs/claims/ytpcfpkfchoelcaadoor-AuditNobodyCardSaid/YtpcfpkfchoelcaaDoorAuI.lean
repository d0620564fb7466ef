/- AuditVerifies: any argument. -/
import Derived.Test.YtpcfpkfchoelcaaDoorAuH
import Derived.Test.YtpcfpkfchoelcaaDoorHsL
import Derived.Test.YtpcfpkfchoelcaaDoorLogO
set_option linter.unusedVariables false
set_option linter.unusedSimpArgs false
namespace Go.Proofs.YtpcfpkfchoelcaaDoor
open Go.RowKit Go.L
attribute [local irreducible] LL LW LO
theorem flat_one {es : List (List LV)} (h : ∀ c ∈ es, c.length = 1) : ∀ x ∈ es.flatten, [x] ∈ es := fun x hx => by
  obtain ⟨c, hc, hxc⟩ := List.mem_flatten.1 hx
  have := h c hc
  match c, this with
  | [y], _ => obtain rfl := List.mem_singleton.1 hxc; exact hc
theorem flat_len {es : List (List LV)} (h : ∀ c ∈ es, c.length = 1) : es.flatten.length = es.length := by
  induction es with
  | nil => rfl
  | cons a r ih => simp only [List.flatten_cons, List.length_append, List.length_cons, h a (by simp), ih fun c hc => h c (by simp [hc])]; omega
theorem of_arr {n : Nat} {x : List LV} (h : QArr n 1 (QInt .u8) x) : ∃ l : List UInt8, l.length = n ∧ x = u8s l := by
  obtain ⟨es, rfl, hl, he⟩ := h
  have h1 : ∀ c ∈ es, c.length = 1 := fun c hc => (he c hc).1
  obtain ⟨l, h2⟩ := u8s_of n es.flatten (by rw [flat_len h1, hl]) (fun c hc => (he [c] (flat_one h1 c hc)).2)
  refine ⟨l, ?_, h2⟩
  have := congrArg List.length h2
  rw [flat_len h1, hl] at this
  simpa using this.symm
abbrev QEnt : List LV → Prop := QCons 1 (QInt .i64) (QCons 1 (QInt .i64) (QCons 1 QStr (QCons 1 QStr (QCons 32 (QArr 32 1 (QInt .u8)) QNil))))
theorem of_ent {c : List LV} (h : QEnt c) : ∃ e : Ent, c = entL e ∧ EntIn e := by
  obtain ⟨_, _, rfl, _, ⟨n1, rfl, w1⟩, _, _, rfl, _, ⟨n2, rfl, w2⟩, _, _, rfl, _, ⟨s1, rfl, w3⟩, _, _, rfl, _, ⟨s2, rfl, w4⟩, _, _, rfl, _, h5, rfl⟩ := h
  obtain ⟨p, hp, rfl⟩ := of_arr h5
  have hr := reachBytes_lt
  exact ⟨⟨n1, n2, s1, s2, p⟩, by simp, wf_i64 w1, wf_i64 w2, by show s1.length < _; omega, by show s2.length < _; omega, hp⟩
theorem of_ents {x : List (List LV)} (h : ∀ c ∈ x, QEnt c) : ∃ l : List Ent, x = ents l ∧ ∀ e ∈ l, EntIn e := Go.L.decode entL EntIn fun c hc => of_ent (h c hc)
theorem AuditVerifies_row (x0 : List (List LV)) (x1 : List LV) (h0 : ∀ c ∈ x0, QEnt c) (h1 : x0.length * 80 ≤ reachBytes) (h2 : QArr 32 1 (QInt .u8) x1) : LCalls Tryd.prog 8 [.sl 36 x0 .unk, .agg x1] [kw] (fun r H' => r = bl true ∧ H' = [kw]) := by
  obtain ⟨l, rfl, hin⟩ := of_ents h0
  obtain ⟨p, hp, rfl⟩ := of_arr h2
  rw [List.length_map] at h1
  have hr := reachBytes_lt
  exact av_calls l p (by omega) hin hp
end Go.Proofs.YtpcfpkfchoelcaaDoor
