/- Lines: the document's Behind. -/
import Derived.Test.YtolpkeajokjbjaaDoorLnQ
set_option linter.unusedVariables false
set_option linter.unusedSimpArgs false
namespace Go.Proofs.YtolpkeajokjbjaaDoor
open Go.RowKit Go.L Go.Lib
attribute [local irreducible] LL LW LO
def addN (out : List Vx) : List Vx → List Vx
  | [] => out
  | w :: r => addN (if w ∈ out then out else out ++ [w]) r
def bhG (f : Vx → List Vx) : Nat → Nat → List Vx → List Vx
  | 0, _, out => out
  | n + 1, i, out => match out[i]? with
    | none => out
    | some x => bhG f n (i + 1) (addN out (f x))
def allT (r : Rg) : List Vx := botV :: r.L.flatMap fun a => a.ids ++ [a.down]
def behindG (r : Rg) (v : Vx) : List Vx := bhG (stepsG r) ((stepsG r v).length + (allT r).length) 0 (stepsG r v)
theorem steps_all {r : Rg} (hne : ∀ a ∈ r.L, a.ids ≠ []) {v w : Vx} (h : w ∈ stepsG r v) : w ∈ allT r := by
  unfold stepsG at h
  unfold allT
  rcases List.mem_append.1 h with e | e
  · unfold st0 at e
    split at e
    · rw [List.mem_singleton.1 e]; simp
    · cases e
  · obtain ⟨a, ha, hw⟩ := List.mem_flatMap.1 e
    refine List.mem_cons_of_mem _ (List.mem_flatMap.2 ⟨a, ha, ?_⟩)
    have hget : ∀ i, i < a.ids.length → a.ids.getD i topV ∈ a.ids := fun i hi => by
      rw [List.getD_eq_getElem?_getD, List.getElem?_eq_getElem hi]; exact List.getElem_mem hi
    rcases List.mem_append.1 hw with e | e
    · unfold st1 at e
      split at e
      · rw [List.mem_singleton.1 e]
        cases hq : a.ids with
        | nil => exact absurd hq (hne a ha)
        | cons x y => simp
      · cases e
    · rcases List.mem_append.1 e with e | e
      · unfold st2 at e
        split at e
        · rename_i c
          simp only [Bool.and_eq_true, decide_eq_true_eq] at c
          rw [List.mem_singleton.1 e]
          exact List.mem_append_left _ (hget _ (by omega))
        · cases e
      · unfold st3 at e
        split at e
        · rw [List.mem_singleton.1 e]; simp
        · cases e
theorem steps_len (r : Rg) (v : Vx) : (stepsG r v).length ≤ 3 * r.L.length + 1 := by
  unfold stepsG
  rw [List.length_append]
  have h0 := st0_len v
  have : ∀ l : List Ad, (l.flatMap fun a => st1 a v ++ (st2 a v ++ st3 a v)).length ≤ 3 * l.length := fun l => by
    induction l with
    | nil => simp
    | cons a l ih =>
      have h1 := st1_len a v
      have h2 := st2_len a v
      have h3 := st3_len a v
      rw [List.flatMap_cons, List.length_append, List.length_append, List.length_append, List.length_cons]
      omega
  have := this r.L
  omega
theorem addN_snoc (out : List Vx) : ∀ (l : List Vx) (w : Vx), addN out (l ++ [w]) = if w ∈ addN out l then addN out l else addN out l ++ [w]
  | [], w => rfl
  | a :: l, w => addN_snoc _ l w
/-- What Behind has found: the first steps, and others, each once. -/
def Bh (r : Rg) (s out : List Vx) : Prop := ∃ ex : List Vx, out = s ++ ex ∧ ex.Nodup ∧ ∀ x ∈ ex, x ∈ allT r
theorem Bh.len {r : Rg} {s out : List Vx} (h : Bh r s out) : out.length ≤ s.length + (allT r).length := by
  obtain ⟨ex, e, hn, hs⟩ := h
  have := nodup_len hn hs
  rw [e, List.length_append]
  omega
theorem Bh.add {r : Rg} {s out : List Vx} (h : Bh r s out) {w : Vx} (hw : w ∉ out) (ht : w ∈ allT r) : Bh r s (out ++ [w]) := by
  obtain ⟨ex, e, hn, hs⟩ := h
  refine ⟨ex ++ [w], by rw [e, List.append_assoc], nodup_snoc.2 ⟨hn, fun c => hw (by rw [e]; exact List.mem_append_right _ c)⟩, fun x hx => ?_⟩
  rcases List.mem_append.1 hx with a | a
  · exact hs x a
  · rw [List.mem_singleton.1 a]; exact ht
set_option maxHeartbeats 2000000 in
set_option maxRecDepth 100000 in
theorem behind_calls (r : Rg) (v : Vx) (hl : r.L.length < 100000) (hne : ∀ a ∈ r.L, a.ids ≠ [] ∧ a.ids.length < 1000000) (hT : (allT r).length < 400000) : LCalls Tryd.prog 62 [.agg (rgL r), .agg (vxL v)] [] (fun x H' => x = Vxs (behindG r v) .unk ∧ H' = []) := by
  have hvl := vxL_len v
  have hsl := steps_len r v
  have hsc := steps_calls r v (by omega) hne
  obtain ⟨s0, hs0⟩ : ∃ s0, s0 = stepsG r v := ⟨_, rfl⟩
  obtain ⟨B, hB⟩ : ∃ B, B = behindG r v := ⟨_, rfl⟩
  have hB0 : bhG (stepsG r) (s0.length + (allT r).length) 0 s0 = B := by rw [hB, hs0]; rfl
  rw [← hs0] at hsl hsc
  rw [← hB]
  refine LCalls.of Tryd.func62 rfl Tryd.ntmps62 Tryd.results62 rfl (fun Rf => ?_)
  refine LW.seq ?_
  refine LW.region ?_
  refine X.act (X.box rfl Is.rfl' (by exact Cells.agg) (fun b2 => ?_))
  refine X.act (X.box rfl Is.rfl' (by exact Cells.agg) (fun b3 => ?_))
  refine X.u (LU.assign (Is.nil 33)) rfl ?_
  refine LL.nil (after_code ?_)
  refine LW.seq ?_
  refine LW.region ?_
  refine X.u (LU.loadO 1 rfl ⟨Tryd.sizeOf59, Tryd.isAgg59⟩ Is.rfl' (Part.whole (by (simp; done)))) rfl ?_
  refine X.u (LU.loadO 0 rfl ⟨Tryd.sizeOf35, Tryd.isAgg35⟩ Is.rfl' (Part.whole (by assumption))) rfl ?_
  refine X.act (X.call (hsc) Tryd.func72 rfl rfl rfl (HSub.refl _) (Opds.cons Is.rfl' (Opds.cons Is.rfl' Opds.nil)) ?_)
  rintro r H' ⟨b11, o11, c11, rfl, rfl⟩
  refine X.u (LU.assignS Is.rfl') rfl ?_
  refine LL.nil (after_code ?_)
  refine LW.seq ?_
  refine LW.seq ?_
  refine LW.region ?_
  refine X.u (LU.assignR Is.rfl') rfl ?_
  refine LL.nil (after_code ?_)
  refine LW.block ?_
  refine X.loopK (α := Nat × List Vx × Nat × Nat × Nat) (fun ⟨i, out, b, o, c⟩ => [(6, i64 i), (5, Vxs out (.tok b o c))]) [2, 4] (fun ⟨i, out, b, o, c⟩ => .tail b o c :: .cells b3 35 (vxL v) :: .cells b2 59 (rgL r) :: Rf) (fun ⟨i, out, b, o, c⟩ => i ≤ out.length ∧ Bh r s0 out ∧ bhG (stepsG r) (s0.length + (allT r).length - i) i out = B) (fun ⟨i, out, b, o, c⟩ => s0.length + (allT r).length - i) ((0, s0, b11, o11, c11)) (EnvLe.cons (by rfl) (EnvLe.cons (by rfl) (EnvLe.nil))) (by repeat (exact HSub.refl _)) ?_ ?_
  · exact ⟨Nat.zero_le _, ⟨[], by simp, List.nodup_nil, fun x hx => by cases hx⟩, hB0⟩
  · rintro ⟨i, out, b, o, c⟩ hI
    obtain ⟨hi, hbh, hbe⟩ := hI
    have hbl := hbh.len
    refine LW.seq ?_
    refine LW.seq ?_
    refine LW.region ?_
    refine X.u (LU.moveR Is.rfl') rfl ?_
    refine X.u (LU.moveS Is.rfl') rfl ?_
    refine X.u (LU.lenN Tryd.underlying26 Is.rfl' (by (simp only [Option.getD_some, Option.getD_none, byteEls_length, intEls_length, List.length_append, List.length_cons, List.length_nil, List.length_map, List.length_drop, List.length_take, Int.toNat_natCast]; rfl))) rfl ?_
    refine X.u (LU.lss Is.rfl' Is.rfl') rfl ?_
    refine LL.nil (after_code ?_)
    refine X.cond rfl (fun h3 => ?_) (fun h3 => ?_)
    · have h3 : i < out.length := by simp at h3; omega
      obtain ⟨x, hx⟩ := at_lt h3
      have hxl := vxL_len x
      have hx32 : x.p.1.length = 32 := x.p.2
      have hsc2 := steps_calls r x (by omega) hne
      have hxln := steps_len r x
      have hxall : ∀ w ∈ stepsG r x, w ∈ allT r := fun w hw => steps_all (fun a ha => (hne a ha).1) hw
      obtain ⟨nx_, hnx⟩ : ∃ nx_, nx_ = stepsG r x := ⟨_, rfl⟩
      have hbe2 : bhG (stepsG r) (s0.length + (allT r).length - (i + 1)) (i + 1) (addN out nx_) = B := by
        rw [← hbe, show s0.length + (allT r).length - i = (s0.length + (allT r).length - (i + 1)) + 1 by omega]
        show _ = (match out[i]? with | none => out | some x => bhG (stepsG r) _ (i + 1) (addN out (stepsG r x)))
        rw [hx, hnx]
      rw [← hnx] at hsc2 hxln hxall
      refine LW.skip (after_code ?_)
      refine LW.seq ?_
      refine LW.block ?_
      refine LW.seq ?_
      refine X.drawM 5 rfl (by kernel_rfl) rfl ?_
      refine QD.u (LU.loadO 2 rfl ⟨Tryd.sizeOf59, Tryd.isAgg59⟩ Is.rfl' (Part.whole (by (simp; done)))) rfl ?_
      refine QD.u (LU.moveS Is.rfl') rfl ?_
      refine QD.u (LU.moveR Is.rfl') rfl ?_
      refine QD.u (LU.at Tryd.underlying26 ⟨Tryd.sizeOf35, Tryd.isAgg35⟩ Is.rfl' Is.rfl' (by omega) (vxs_at hx) (vx_ne x)) rfl ?_
      refine QD.u (LU.load ⟨Tryd.sizeOf35, Tryd.isAgg35⟩ Is.rfl' (by assumption) (Part.whole (by assumption))) rfl ?_
      refine QD.nil ?_
      refine X.act (X.call (hsc2) Tryd.func72 rfl rfl rfl (HSub.refl _) (Opds.cons Is.rfl' (Opds.cons Is.rfl' Opds.nil)) ?_)
      rintro r H' ⟨b23, o23, c23, rfl, rfl⟩
      refine X.u (LU.assignS Is.rfl') rfl ?_
      refine LL.nil (after_code ?_)
      refine LW.seq ?_
      refine LW.region ?_
      refine X.u (LU.assignR Is.rfl') rfl ?_
      refine LL.nil (after_code ?_)
      refine LW.block ?_
      refine X.loopK (α := Nat × List Vx × Nat × Nat × Nat) (fun ⟨j, o2, p1, p2, p3⟩ => [(8, i64 j), (5, Vxs o2 (.tok p1 p2 p3))]) [2, 4, 6, 7] (fun ⟨j, o2, p1, p2, p3⟩ => .tail p1 p2 p3 :: .cells b3 35 (vxL v) :: .cells b2 59 (rgL r) :: Rf) (fun ⟨j, o2, p1, p2, p3⟩ => j ≤ nx_.length ∧ Bh r s0 o2 ∧ o2 = addN out (nx_.take j) ∧ i < o2.length) (fun ⟨j, o2, p1, p2, p3⟩ => nx_.length - j) ((0, out, b, o, c)) (EnvLe.cons (by rfl) (EnvLe.cons (by rfl) (EnvLe.nil))) (by repeat (first | exact HSub.refl _ | refine HSub.pick 1 rfl ?_ | refine HSub.drop ?_)) ?_ ?_
      · exact ⟨Nat.zero_le _, hbh, by simp [addN], h3⟩
      · rintro ⟨j, o2, p1, p2, p3⟩ hI
        obtain ⟨hj, hb2, ho2, hio⟩ := hI
        have hbl2 := hb2.len
        refine LW.seq ?_
        refine LW.seq ?_
        refine LW.region ?_
        refine X.u (LU.moveR Is.rfl') rfl ?_
        refine X.u (LU.moveS Is.rfl') rfl ?_
        refine X.u (LU.lenN Tryd.underlying26 Is.rfl' (by (simp only [Option.getD_some, Option.getD_none, byteEls_length, intEls_length, List.length_append, List.length_cons, List.length_nil, List.length_map, List.length_drop, List.length_take, Int.toNat_natCast]; rfl))) rfl ?_
        refine X.u (LU.lss Is.rfl' Is.rfl') rfl ?_
        refine LL.nil (after_code ?_)
        refine X.cond rfl (fun h7 => ?_) (fun h7 => ?_)
        · try have h7 := of_decide_eq_true h7
          refine LW.skip (after_code ?_)
          refine LW.seq ?_
          refine LW.block ?_
          refine LW.seq ?_
          obtain ⟨w, hw⟩ := at_lt (show j < nx_.length by omega)
          have hwl := vxL_len w
          have hw32 : w.p.1.length = 32 := w.p.2
          refine LW.region ?_
          refine X.u (LU.moveS Is.rfl') rfl ?_
          refine X.u (LU.moveS Is.rfl') rfl ?_
          refine X.u (LU.moveR Is.rfl') rfl ?_
          refine X.u (LU.at Tryd.underlying26 ⟨Tryd.sizeOf35, Tryd.isAgg35⟩ Is.rfl' Is.rfl' (by omega) (vxs_at hw) (vx_ne w)) rfl ?_
          refine X.u (LU.weak (LU.load ⟨Tryd.sizeOf35, Tryd.isAgg35⟩ Is.rfl' (by assumption) (Part.whole (by assumption))) (Is.of (y := .agg (vxL w)) (rfl))) rfl ?_
          refine X.u (LU.call (place_calls o2 _ w (by omega)) Tryd.func63 rfl rfl (Opds.cons Is.rfl' (Opds.cons Is.rfl' Opds.nil))) rfl ?_
          refine X.u (LU.lss Is.rfl' Is.rfl') rfl ?_
          refine LL.nil (after_code ?_)
          refine X.cond rfl (fun h9 => ?_) (fun h9 => ?_)
          · have h9 : w ∉ o2 := placeG_neg.1 (of_decide_eq_true h9)
            have hz0 : (0 : Nat) = 0 := rfl
            refine LW.region ?_
            refine X.u (LU.moveS Is.rfl') rfl ?_
            refine X.u (LU.moveS Is.rfl') rfl ?_
            refine X.u (LU.moveR Is.rfl') rfl ?_
            refine X.u (LU.at Tryd.underlying26 ⟨Tryd.sizeOf35, Tryd.isAgg35⟩ Is.rfl' Is.rfl' (by omega) (vxs_at hw) (vx_ne w)) rfl ?_
            refine X.u (LU.weak (LU.load ⟨Tryd.sizeOf35, Tryd.isAgg35⟩ Is.rfl' (by assumption) (Part.whole (by assumption))) (Is.of (y := .agg (vxL w)) (rfl))) rfl ?_
            refine X.u (LU.lits Tryd.underlying26 Tryd.sizeOf35 Tryd.zeroValue35 (ones rfl) rfl (by decide) (by decide) (Elems.cons Is.rfl' (by exact Cells.agg) Elems.nil) (by (simp; assumption)) rfl) rfl ?_
            refine X.act (X.append 0 rfl rfl Tryd.underlying26 (El.of (P := Tryd.prog) (z := (.agg #[(.int .u8 0), (.int .u8 0), (.int .u8 0), (.int .u8 0), (.int .u8 0), (.int .u8 0), (.int .u8 0), (.int .u8 0), (.int .u8 0), (.int .u8 0), (.int .u8 0), (.int .u8 0), (.int .u8 0), (.int .u8 0), (.int .u8 0), (.int .u8 0), (.int .u8 0), (.int .u8 0), (.int .u8 0), (.int .u8 0), (.int .u8 0), (.int .u8 0), (.int .u8 0), (.int .u8 0), (.int .u8 0), (.int .u8 0), (.int .u8 0), (.int .u8 0), (.int .u8 0), (.int .u8 0), (.int .u8 0), (.int .u8 0), (.int .i64 0)])) (size := 33) (bytes := 40) rfl rfl rfl) Is.rfl' Is.rfl' (SrcL.slice Tryd.underlying26 (by decide) (by intro e he; rw [List.mem_singleton.1 he]; exact hwl)) (by simp only [Option.getD_some, Option.getD_none, byteEls_length, intEls_length, List.length_append, List.length_cons, List.length_nil, List.length_map, List.length_drop, List.length_take, Int.toNat_natCast]; omega) (by simp only [Option.getD_some, Option.getD_none, byteEls_length, intEls_length, List.length_append, List.length_cons, List.length_nil, List.length_map, List.length_drop, List.length_take, Int.toNat_natCast]; omega) (fun b43 o43 c43 => X.weak (t := 43) (Is.of (y := Vxs (o2 ++ [w]) (.tok b43 o43 c43)) (congrArg (fun z => LV.sl 33 z (.tok b43 o43 c43)) (vxs_app o2 [w]))) ?_))
            refine X.u (LU.assignS Is.rfl') rfl ?_
            refine LL.nil (after_blk (after_code ?_))
            refine LW.region ?_
            refine X.u (LU.moveR Is.rfl') rfl ?_
            refine X.u (LU.addN Is.rfl' Is.rfl' (wrap_i64 (by omega) (by omega))) rfl ?_
            refine X.u (LU.assignR Is.rfl') rfl ?_
            refine LL.nil (after_rnd ?_)
            refine X.next ((j + 1, o2 ++ [w], b43, o43, c43)) rfl (EnvLe.cons (by rfl) (EnvLe.cons (by rfl) (EnvLe.nil))) (Keeps.cons (by exact Eq.trans (b := .raw _) rfl rfl) (Keeps.cons (by exact Eq.trans (b := .sl _ _ _) rfl rfl) (Keeps.cons (by exact Eq.trans (b := .raw _) rfl rfl) (Keeps.cons (by exact Eq.trans (b := .sl _ _ _) rfl rfl) (Keeps.nil))))) (by repeat (exact HSub.refl _)) ?_ ?_
            · exact ⟨by omega, hb2.add h9 (hxall w (List.mem_of_getElem? hw)), by rw [take_snoc hw, addN_snoc, ← ho2, if_neg h9], by rw [List.length_append]; omega⟩
            · (simp; omega)
          · have h9 : w ∈ o2 := Classical.not_not.1 (fun c => of_decide_eq_false h9 (placeG_neg.2 c))
            have hz0 : (0 : Nat) = 0 := rfl
            refine LW.skip (after_blk (after_code ?_))
            refine LW.region ?_
            refine X.u (LU.moveR Is.rfl') rfl ?_
            refine X.u (LU.addN Is.rfl' Is.rfl' (wrap_i64 (by omega) (by omega))) rfl ?_
            refine X.u (LU.assignR Is.rfl') rfl ?_
            refine LL.nil (after_rnd ?_)
            refine X.next ((j + 1, o2, p1, p2, p3)) rfl (EnvLe.cons (by rfl) (EnvLe.cons (by rfl) (EnvLe.nil))) (Keeps.cons (by exact Eq.trans (b := .raw _) rfl rfl) (Keeps.cons (by exact Eq.trans (b := .sl _ _ _) rfl rfl) (Keeps.cons (by exact Eq.trans (b := .raw _) rfl rfl) (Keeps.cons (by exact Eq.trans (b := .sl _ _ _) rfl rfl) (Keeps.nil))))) (by repeat (exact HSub.refl _)) ?_ ?_
            · exact ⟨by omega, hb2, by rw [take_snoc hw, addN_snoc, ← ho2, if_pos h9], hio⟩
            · (simp; omega)
        · try have h7 := of_decide_eq_false h7
          refine LW.exit (exit_code (exit_rnd (exit_blk (after_blk (after_code ?_)))))
          refine LW.region ?_
          refine X.u (LU.moveR Is.rfl') rfl ?_
          refine X.u (LU.addN Is.rfl' Is.rfl' (wrap_i64 (by omega) (by omega))) rfl ?_
          refine X.u (LU.assignR Is.rfl') rfl ?_
          refine LL.nil (after_rnd ?_)
          refine X.next ((i + 1, o2, p1, p2, p3)) rfl (EnvLe.cons (by rfl) (EnvLe.cons (by rfl) (EnvLe.nil))) (Keeps.cons (by exact Eq.trans (b := .raw _) rfl rfl) (Keeps.cons (by exact Eq.trans (b := .sl _ _ _) rfl rfl) (Keeps.nil))) (by repeat (exact HSub.refl _)) ?_ ?_
          · have hjl : j = nx_.length := by omega
            rw [hjl, List.take_length] at ho2
            exact ⟨by omega, hb2, by rw [ho2]; exact hbe2⟩
          · (simp; omega)
    · have h3 : out.length ≤ i := by simp at h3; omega
      have hfin : out = B := by
        rw [← hbe]
        cases s0.length + (allT r).length - i with
        | zero => rfl
        | succ n =>
          show _ = (match out[i]? with | none => out | some x => bhG (stepsG r) _ (i + 1) (addN out (stepsG r x)))
          rw [List.getElem?_eq_none h3]
      refine LW.exit (exit_code (exit_rnd (exit_blk (after_code ?_))))
      refine LW.seq ?_
      refine LW.region ?_
      refine X.u (LU.moveS Is.rfl') rfl ?_
      refine X.u (LU.assignS Is.rfl') rfl ?_
      refine LL.nil (after_code ?_)
      refine LW.ret (after_end ?_)
      refine X.ret (H' := []) (Res.one (by exact IsS rfl)) (by repeat (first | exact HSub.refl _ | refine HSub.drop ?_)) ?_
      exact ⟨by rw [hfin], rfl⟩
end Go.Proofs.YtolpkeajokjbjaaDoor
