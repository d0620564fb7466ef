/- Lines: the document's Ahead; what Behind holds. -/
import Derived.Test.YtolpkeajokjbjaaDoorLnR
set_option linter.unusedVariables false
set_option linter.unusedSimpArgs false
namespace Go.Proofs.YtolpkeajokjbjaaDoor
open Go.RowKit Go.L Go.Lib
attribute [local irreducible] LL LW LO
def aheadG (r : Rg) (a b : Vx) : Bool := hasG r a && decide (b ∈ behindG r a)
theorem behind_len (r : Rg) (v : Vx) (hne : ∀ a ∈ r.L, a.ids ≠ []) : (behindG r v).length ≤ 3 * r.L.length + 1 + (allT r).length := by
  have key : ∀ (n i : Nat) (out : List Vx), Bh r (stepsG r v) out → Bh r (stepsG r v) (bhG (stepsG r) n i out) := fun n => by
    have hadd : ∀ (l out : List Vx), (∀ w ∈ l, w ∈ allT r) → Bh r (stepsG r v) out → Bh r (stepsG r v) (addN out l) := fun l => by
      induction l with
      | nil => intro out _ h; exact h
      | cons w l ih =>
        intro out hl h
        show Bh r _ (addN (if w ∈ out then out else out ++ [w]) l)
        refine ih _ (fun x hx => hl x (List.mem_cons_of_mem _ hx)) ?_
        split
        · exact h
        · rename_i c; exact h.add c (hl w (by simp))
    induction n with
    | zero => intro i out h; exact h
    | succ n ih =>
      intro i out h
      show Bh r _ (match out[i]? with | none => out | some x => bhG (stepsG r) n (i + 1) (addN out (stepsG r x)))
      cases out[i]? with
      | none => exact h
      | some x => exact ih _ _ (hadd _ _ (fun w hw => steps_all hne hw) h)
  have h := (key ((stepsG r v).length + (allT r).length) 0 (stepsG r v) ⟨[], by simp, List.nodup_nil, fun x hx => by cases hx⟩).len
  have := steps_len r v
  unfold behindG
  omega
theorem addN_mem : ∀ (l out : List Vx) (w : Vx), w ∈ addN out l ↔ w ∈ out ∨ w ∈ l
  | [], out, w => by simp [addN]
  | a :: l, out, w => by
    show w ∈ addN (if a ∈ out then out else out ++ [a]) l ↔ _
    rw [addN_mem l, List.mem_cons]
    split
    · rename_i c
      constructor
      · rintro (e | e)
        · exact .inl e
        · exact .inr (.inr e)
      · rintro (e | e | e)
        · exact .inl e
        · exact .inl (by rw [e]; exact c)
        · exact .inr e
    · rw [List.mem_append, List.mem_singleton, or_assoc]
theorem addN_pre : ∀ (l out : List Vx), ∃ more, addN out l = out ++ more
  | [], out => ⟨[], by simp [addN]⟩
  | a :: l, out => by
    obtain ⟨more, h⟩ := addN_pre l (if a ∈ out then out else out ++ [a])
    show ∃ more, addN (if a ∈ out then out else out ++ [a]) l = _
    rw [h]
    split
    · exact ⟨more, rfl⟩
    · exact ⟨a :: more, by simp⟩
theorem take_pre {out more : List Vx} {i : Nat} (h : i ≤ out.length) : (out ++ more).take i = out.take i := List.take_append_of_le_length h
theorem Bh.addN {r : Rg} {s : List Vx} : ∀ (l out : List Vx), (∀ w ∈ l, w ∈ allT r) → Bh r s out → Bh r s (addN out l)
  | [], out, _, h => h
  | w :: l, out, hl, h => by
    show Bh r _ (Go.Proofs.YtolpkeajokjbjaaDoor.addN (if w ∈ out then out else out ++ [w]) l)
    refine Bh.addN l _ (fun x hx => hl x (List.mem_cons_of_mem _ hx)) ?_
    split
    · exact h
    · rename_i c; exact h.add c (hl w (by simp))
/-- Behind holds just what is reached. -/
theorem bh_mem {r : Rg} (hne : ∀ a ∈ r.L, a.ids ≠ []) {v : Vx} {s : List Vx} : ∀ (n i : Nat) (out : List Vx), n + i = s.length + (allT r).length → Bh r s out → i ≤ out.length → (∀ w ∈ stepsG r v, w ∈ out) → (∀ x ∈ out.take i, ∀ w ∈ stepsG r x, w ∈ out) → (∀ w ∈ out, Rch (stepsG r) v w) → ∀ w, w ∈ bhG (stepsG r) n i out ↔ Rch (stepsG r) v w
  | n, i, out, hf, hb, hi, h1, h2, h3, w => by
    have stop : out.length ≤ i → (w ∈ out ↔ Rch (stepsG r) v w) := fun hle => ⟨h3 w, fun hr => by
      rw [List.take_of_length_le hle] at h2
      exact Rch.closed (S := fun x => x ∈ out) h1 h2 hr⟩
    cases n with
    | zero => exact stop (by have := hb.len; omega)
    | succ n =>
      show w ∈ (match out[i]? with | none => out | some x => bhG (stepsG r) n (i + 1) (Go.Proofs.YtolpkeajokjbjaaDoor.addN out (stepsG r x))) ↔ _
      cases hq : out[i]? with
      | none => exact stop (List.getElem?_eq_none_iff.1 hq)
      | some x =>
        obtain ⟨hil, hix⟩ := List.getElem?_eq_some_iff.1 hq
        obtain ⟨more, hm⟩ := addN_pre (stepsG r x) out
        have hxo : x ∈ out := List.mem_of_getElem? hq
        refine bh_mem hne n (i + 1) (Go.Proofs.YtolpkeajokjbjaaDoor.addN out (stepsG r x)) (by omega) (Bh.addN _ _ (fun w hw => steps_all hne hw) hb) (by rw [hm, List.length_append]; omega) (fun w hw => (addN_mem _ _ _).2 (.inl (h1 w hw))) (fun y hy z hz => ?_) (fun w hw => ?_) w
        · rw [hm, take_pre (by omega), take_snoc hq] at hy
          rcases List.mem_append.1 hy with e | e
          · exact (addN_mem _ _ _).2 (.inl (h2 y e z hz))
          · rw [List.mem_singleton.1 e] at hz
            exact (addN_mem _ _ _).2 (.inr hz)
        · rcases (addN_mem _ _ _).1 hw with e | e
          · exact h3 w e
          · exact .step (h3 x hxo) e
theorem behind_mem {r : Rg} (hne : ∀ a ∈ r.L, a.ids ≠ []) (v w : Vx) : w ∈ behindG r v ↔ Rch (stepsG r) v w :=
  bh_mem (s := stepsG r v) hne ((stepsG r v).length + (allT r).length) 0 (stepsG r v) (by omega) ⟨[], by simp, List.nodup_nil, fun x hx => by cases hx⟩ (Nat.zero_le _) (fun w hw => hw) (fun x hx => by simp at hx) (fun w hw => .one hw) w
set_option maxHeartbeats 1000000 in
set_option maxRecDepth 100000 in
theorem rahead_calls (r : Rg) (a b : Vx) (hl : r.L.length < 100000) (hi : (idsG r.L).length < 1000000) (hne : ∀ a ∈ r.L, a.ids ≠ [] ∧ a.ids.length < 1000000) (hT : (allT r).length < 400000) : LCalls Tryd.prog 48 [.agg (rgL r), .agg (vxL a), .agg (vxL b)] [] (fun x H' => x = bl (aheadG r a b) ∧ H' = []) := by
  have hal := vxL_len a
  have hbl := vxL_len b
  have hbn := behind_len r a fun a ha => (hne a ha).1
  refine LCalls.of Tryd.func48 rfl Tryd.ntmps48 Tryd.results48 rfl (fun Rf => ?_)
  refine LW.seq ?_
  refine LW.region ?_
  refine X.act (X.box rfl Is.rfl' (by exact Cells.agg) (fun b3 => ?_))
  refine X.act (X.box rfl Is.rfl' (by exact Cells.agg) (fun b4 => ?_))
  refine X.act (X.box rfl Is.rfl' (by exact Cells.agg) (fun b5 => ?_))
  refine X.u (LU.assignR Is.rfl') rfl ?_
  refine LL.nil (after_code ?_)
  refine LW.seq ?_
  refine X.drawM 12 rfl (by kernel_rfl) rfl ?_
  refine QD.u (LU.loadO 2 rfl ⟨Tryd.sizeOf59, Tryd.isAgg59⟩ Is.rfl' (Part.whole (by (simp; done)))) rfl ?_
  refine QD.u (LU.loadO 1 rfl ⟨Tryd.sizeOf35, Tryd.isAgg35⟩ Is.rfl' (Part.whole (by assumption))) rfl ?_
  refine QD.u (LU.call (rhas_calls r a (by omega) hi) Tryd.func47 rfl rfl (Opds.cons Is.rfl' (Opds.cons Is.rfl' Opds.nil))) rfl ?_
  refine QD.u (LU.moveR Is.rfl') rfl ?_
  refine QD.gT rfl rfl (fun hg => LU.loadO 2 rfl ⟨Tryd.sizeOf59, Tryd.isAgg59⟩ (by exact Is.rfl') (Part.whole (by (simp; done)))) rfl ?_
  refine QD.gT rfl rfl (fun hg => LU.loadO 1 rfl ⟨Tryd.sizeOf35, Tryd.isAgg35⟩ (by exact Is.rfl') (Part.whole (by assumption))) rfl ?_
  refine QD.gT rfl rfl (fun hg => LU.call (behind_calls r a hl hne hT) Tryd.func62 rfl rfl (Opds.cons (by exact Is.whenE hg) (Opds.cons (by exact Is.whenE hg) Opds.nil))) rfl ?_
  refine QD.gT rfl rfl (fun hg => LU.loadO 0 rfl ⟨Tryd.sizeOf35, Tryd.isAgg35⟩ (by exact Is.rfl') (Part.whole (by assumption))) rfl ?_
  refine QD.gT rfl rfl (fun hg => LU.call (place_calls (behindG r a) .unk b (by omega)) Tryd.func63 rfl rfl (Opds.cons (by exact Is.whenE hg) (Opds.cons (by exact Is.whenE hg) Opds.nil))) rfl ?_
  refine QD.gT rfl rfl (fun hg => LU.geq (by exact Is.whenE hg) (by exact Is.rfl')) rfl ?_
  refine QD.u (LU.weak (LU.pickAnd Is.rfl' (fun hq => (by exact Is.whenE hq)) Is.rfl') (Is.of (y := bl (aheadG r a b)) (by unfold aheadG; rw [← placeG_in]; try (cases hasG r a <;> rfl)))) rfl ?_
  refine QD.u (LU.assignR Is.rfl') rfl ?_
  refine QD.nil ?_
  refine LL.nil (after_code ?_)
  refine LW.ret (after_end ?_)
  refine X.ret (H' := []) (Res.one (by exact IsR rfl)) (by repeat (first | exact HSub.refl _ | refine HSub.drop ?_)) ?_
  exact ⟨rfl, rfl⟩
end Go.Proofs.YtolpkeajokjbjaaDoor
