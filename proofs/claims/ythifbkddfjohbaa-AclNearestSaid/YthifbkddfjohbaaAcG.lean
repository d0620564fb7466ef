/- A rule that does not match changes no answer. -/
import Derived.Test.YthifbkddfjohbaaAcE
import Derived.Test.YthifbkddfjohbaaLogW
set_option linter.unusedVariables false
set_option linter.unusedSimpArgs false
namespace Go.Proofs.Ythifbkddfjohbaa
open Go.RowKit Go.L
theorem apart_law {l : List Rl} {r : Rl} {s : Sb} {ch p : List UInt8} {right : Int} (h : matchB r s ch p right = false) : decideB (r :: l) s ch p right = decideB l s ch p right := by
  have : speak (r :: l) s ch p right = speak l s ch p right := by unfold speak; rw [List.filter_cons, h]; rfl
  unfold decideB; rw [this]
theorem LOk.snoc {l : List Rl} {r : Rl} (h : ∀ x ∈ l, RlOk x) (hb : l.length * 64 ≤ reachBytes) (hr : RlOk r) : LOk (l ++ [r]) := ⟨fun x hx => by
  rcases List.mem_append.1 hx with h1 | h1
  · exact h x h1
  · rw [List.mem_singleton.1 h1]; exact hr, by have : reachBytes + 64 ≤ 140737488355328 := by decide
                                               simp; omega⟩
theorem LOk.cons {l : List Rl} {r : Rl} (h : ∀ x ∈ l, RlOk x) (hb : l.length * 64 ≤ reachBytes) (hr : RlOk r) : LOk (r :: l) := ⟨fun x hx => by
  rcases List.mem_cons.1 hx with h1 | h1
  · rw [h1]; exact hr
  · exact h x h1, by have : reachBytes + 64 ≤ 140737488355328 := by decide
                     simp; omega⟩
set_option maxHeartbeats 4000000 in
set_option maxRecDepth 100000 in
theorem aa_calls (l : List Rl) (k : Cap) (r : Rl) (a : Ak) (hl : ∀ x ∈ l, RlOk x) (hb : l.length * 64 ≤ reachBytes) (hro : RlOk r) (hs : SbOk a.s) : LCalls Try.prog 6 [Rls l k, .agg (rL r), .agg (aL a)] [] (fun r _ => r = .raw (.bool true)) := by
  have hrl := reach_lt
  have hl1 : LOk (l ++ [r]) := LOk.snoc hl hb hro
  have hl2 : LOk (r :: l) := LOk.cons hl hb hro
  have hl3 : LOk l := ⟨hl, by omega⟩
  refine LCalls.of Try.func6 rfl Try.ntmps6 Try.results6 rfl (fun Rf => ?_)
  refine LW.seq ?_
  refine LW.region ?_
  refine X.act (X.box rfl Is.rfl' (by exact Cells.agg) (fun b4 => ?_))
  refine X.act (X.box rfl Is.rfl' (by exact Cells.agg) (fun b5 => ?_))
  refine X.u (LU.assignR Is.rfl') rfl ?_
  refine LL.nil (after_code ?_)
  refine LW.seq ?_
  refine LW.seq ?_
  refine LW.inv (m := 9) (γ := Nat × Nat × Nat × Nat × Nat × Nat) [(0, 7), (1, 8), (2, 9), (3, 10), (4, 11), (5, 12), (6, 13), (7, 14), (8, 15)] (fun g d => match g with | ⟨p2, q2, r2, p5, q5, r5⟩ => match d with | 7 => .sl 5 [] .full | 8 => Rls l k | 9 => Rls l (.tok p2 q2 r2) | 10 => .agg (rL r) | 11 => Rls [r] .full | 12 => Rls (l ++ [r]) (.tok p5 q5 r5) | 13 => .agg (aL a) | 14 => bl (lightB (l ++ [r]) a) | 15 => bl (!lightB (l ++ [r]) a) | _ => .any) (fun g f => match g with | ⟨p2, q2, r2, p5, q5, r5⟩ => cond (f 5) (.tail p5 q5 r5) (.tail p2 q2 r2) :: .cells b5 27 (aL a) :: .cells b4 31 (rL r) :: Rf) (0, 0, 0, 0, 0, 0) rfl rfl rfl (by kernel_rfl) (HSub.tail0 0 0 0 (Nat.le_refl _) _) ?_ ?_ (fun _ _ hw h => hw.lw h)
  · intro i hi f g hfi hdir hdown
    obtain ⟨p2, q2, r2, p5, q5, r5⟩ := g
    have hc : i = 0 ∨ i = 1 ∨ i = 2 ∨ i = 3 ∨ i = 4 ∨ i = 5 ∨ i = 6 ∨ i = 7 ∨ i = 8 := by omega
    rcases hc with rfl | rfl | rfl | rfl | rfl | rfl | rfl | rfl | rfl
    · refine ⟨_, rfl, ?_⟩
      refine A.u (LU.lits Try.underlying22 Try.sizeOf31 Try.zeroValue31 (ones rfl) rfl (by decide) (by decide) Elems.nil (by intro e he; cases he) rfl) rfl ?_
      refine ⟨⟨p2, q2, r2, p5, q5, r5⟩, Weaker.mk' ?_ (HSub.refl _)⟩
      refine env_back0 (envS_hit (sl := [(0, 7), (1, 8), (2, 9), (3, 10), (4, 11), (5, 12), (6, 13), (7, 14), (8, 15)]) (j := 0) (d := 7) rfl (fun _ _ h => h))  (envS_next ?_)
      · intro p hp hne; simp only [List.mem_cons, List.not_mem_nil, or_false] at hp; rcases hp with rfl | rfl | rfl | rfl | rfl | rfl | rfl | rfl | rfl <;> first | exact absurd rfl hne | exact ⟨rfl, rfl⟩
    · refine ⟨_, rfl, ?_⟩
      refine A.u (LU.moveS Is.rfl') rfl ?_
      refine ⟨⟨p2, q2, r2, p5, q5, r5⟩, Weaker.mk' ?_ (HSub.refl _)⟩
      refine env_back0 (envS_hit (sl := [(0, 7), (1, 8), (2, 9), (3, 10), (4, 11), (5, 12), (6, 13), (7, 14), (8, 15)]) (j := 1) (d := 8) rfl (fun _ _ h => h))  (envS_next ?_)
      · intro p hp hne; simp only [List.mem_cons, List.not_mem_nil, or_false] at hp; rcases hp with rfl | rfl | rfl | rfl | rfl | rfl | rfl | rfl | rfl <;> first | exact absurd rfl hne | exact ⟨rfl, rfl⟩
    · have d0 := hdir 0 (List.mem_of_elem_eq_true (by kernel_rfl))
      have d1 := hdir 1 (List.mem_of_elem_eq_true (by kernel_rfl))
      refine ⟨_, rfl, ?_⟩
      have h5 : f 5 = false := Bool.eq_false_iff.2 (fun h => by rw [hdown 5 (by omega) h 2 (List.mem_of_elem_eq_true (by kernel_rfl))] at hfi; cases hfi)
      refine LP.weak (t := 7) (v := .sl 5 [] .full) (envS_is (j := 0) rfl d0) ?_
      refine LP.weak (t := 8) (v := Rls l k) (envS_is (j := 1) rfl d1) ?_
      refine A.act (X.appendF rfl Try.underlying22 (El.of (P := Try.prog) (z := (.agg #[(.string ByteArray.empty), (.string ByteArray.empty), (.string ByteArray.empty), (.int .i64 0), (.bool false)])) (size := 5) (bytes := 64) rfl rfl rfl) Is.rfl' Is.rfl' (SrcL.slice Try.underlying22 (by decide) (by simp)) (by simp only [Option.getD_some, Option.getD_none, byteEls_length, intEls_length, List.length_append, List.length_cons, List.length_nil, List.length_map, List.length_drop, List.length_take, Int.toNat_natCast]; omega) (by simp only [Option.getD_some, Option.getD_none, byteEls_length, intEls_length, List.length_append, List.length_cons, List.length_nil, List.length_map, List.length_drop, List.length_take, Int.toNat_natCast]; omega) (fun b9 o9 c9 => ?_))
      refine ⟨(b9, o9, c9, p5, q5, r5), Weaker.mk' ?_ (by show HSub _ (cond (f 5) _ _ :: _); rw [h5]; exact HSub.cons (HSub.drop (HSub.refl _)))⟩
      refine env_back2 (envS_hit (sl := [(0, 7), (1, 8), (2, 9), (3, 10), (4, 11), (5, 12), (6, 13), (7, 14), (8, 15)]) (j := 2) (d := 9) rfl (fun _ _ h => h)) (envS_hit (sl := [(0, 7), (1, 8), (2, 9), (3, 10), (4, 11), (5, 12), (6, 13), (7, 14), (8, 15)]) (j := 1) (d := 8) rfl (fun _ _ h => h)) (envS_hit (sl := [(0, 7), (1, 8), (2, 9), (3, 10), (4, 11), (5, 12), (6, 13), (7, 14), (8, 15)]) (j := 0) (d := 7) rfl (fun _ _ h => h)) (envS_next ?_)
      · intro p hp hne; simp only [List.mem_cons, List.not_mem_nil, or_false] at hp; rcases hp with rfl | rfl | rfl | rfl | rfl | rfl | rfl | rfl | rfl <;> first | exact absurd rfl hne | exact ⟨rfl, rfl⟩
    · refine ⟨_, rfl, ?_⟩
      refine A.u (LU.loadO 2 rfl ⟨Try.sizeOf31, Try.isAgg31⟩ Is.rfl' (Part.whole (by (simp; done)))) rfl ?_
      refine ⟨⟨p2, q2, r2, p5, q5, r5⟩, Weaker.mk' ?_ (HSub.refl _)⟩
      refine env_back0 (envS_hit (sl := [(0, 7), (1, 8), (2, 9), (3, 10), (4, 11), (5, 12), (6, 13), (7, 14), (8, 15)]) (j := 3) (d := 10) rfl (fun _ _ h => h))  (envS_next ?_)
      · intro p hp hne; simp only [List.mem_cons, List.not_mem_nil, or_false] at hp; rcases hp with rfl | rfl | rfl | rfl | rfl | rfl | rfl | rfl | rfl <;> first | exact absurd rfl hne | exact ⟨rfl, rfl⟩
    · have d3 := hdir 3 (List.mem_of_elem_eq_true (by kernel_rfl))
      refine ⟨_, rfl, ?_⟩
      refine LP.weak (t := 10) (v := .agg (rL r)) (envS_is (j := 3) rfl d3) ?_
      refine A.u (LU.lits Try.underlying22 Try.sizeOf31 Try.zeroValue31 (ones rfl) rfl (by decide) (by decide) (Elems.cons Is.rfl' (by exact Cells.agg) Elems.nil) (by simp) rfl) rfl ?_
      refine ⟨⟨p2, q2, r2, p5, q5, r5⟩, Weaker.mk' ?_ (HSub.refl _)⟩
      refine env_back1 (envS_hit (sl := [(0, 7), (1, 8), (2, 9), (3, 10), (4, 11), (5, 12), (6, 13), (7, 14), (8, 15)]) (j := 4) (d := 11) rfl (fun _ _ h => h)) (envS_hit (sl := [(0, 7), (1, 8), (2, 9), (3, 10), (4, 11), (5, 12), (6, 13), (7, 14), (8, 15)]) (j := 3) (d := 10) rfl (fun _ _ h => h)) (envS_next ?_)
      · intro p hp hne; simp only [List.mem_cons, List.not_mem_nil, or_false] at hp; rcases hp with rfl | rfl | rfl | rfl | rfl | rfl | rfl | rfl | rfl <;> first | exact absurd rfl hne | exact ⟨rfl, rfl⟩
    · have d2 := hdir 2 (List.mem_of_elem_eq_true (by kernel_rfl))
      have d4 := hdir 4 (List.mem_of_elem_eq_true (by kernel_rfl))
      refine ⟨_, rfl, ?_⟩
      refine LP.ghost (H' := .tail p2 q2 r2 :: .cells b5 27 (aL a) :: .cells b4 31 (rL r) :: Rf) (by rw [hfi]; exact HSub.refl _) ?_
      refine LP.weak (t := 9) (v := Rls l (.tok p2 q2 r2)) (envS_is (j := 2) rfl d2) ?_
      refine LP.weak (t := 11) (v := Rls [r] .full) (envS_is (j := 4) rfl d4) ?_
      refine A.act (X.append 0 rfl rfl Try.underlying22 (El.of (P := Try.prog) (z := (.agg #[(.string ByteArray.empty), (.string ByteArray.empty), (.string ByteArray.empty), (.int .i64 0), (.bool false)])) (size := 5) (bytes := 64) rfl rfl rfl) Is.rfl' Is.rfl' (SrcL.slice Try.underlying22 (by decide) (by (intro e he; simp [chunks] at he; simp [he]; done))) (by simp only [Option.getD_some, Option.getD_none, byteEls_length, intEls_length, List.length_append, List.length_cons, List.length_nil, List.length_map, List.length_drop, List.length_take, Int.toNat_natCast]; omega) (by simp only [Option.getD_some, Option.getD_none, byteEls_length, intEls_length, List.length_append, List.length_cons, List.length_nil, List.length_map, List.length_drop, List.length_take, Int.toNat_natCast]; omega) (fun b12 o12 c12 => ?_))
      refine ⟨(p2, q2, r2, b12, o12, c12), Weaker.mk' ?_ (HSub.refl _)⟩
      refine env_back2 (envS_hit (sl := [(0, 7), (1, 8), (2, 9), (3, 10), (4, 11), (5, 12), (6, 13), (7, 14), (8, 15)]) (j := 5) (d := 12) rfl (Is.of (congrArg (fun z => LV.sl 5 z (.tok b12 o12 c12)) (rEls_snoc l r)))) (envS_hit (sl := [(0, 7), (1, 8), (2, 9), (3, 10), (4, 11), (5, 12), (6, 13), (7, 14), (8, 15)]) (j := 4) (d := 11) rfl (fun _ _ h => h)) (envS_hit (sl := [(0, 7), (1, 8), (2, 9), (3, 10), (4, 11), (5, 12), (6, 13), (7, 14), (8, 15)]) (j := 2) (d := 9) rfl (fun _ _ h => h)) (envS_next ?_)
      · intro p hp hne; simp only [List.mem_cons, List.not_mem_nil, or_false] at hp; rcases hp with rfl | rfl | rfl | rfl | rfl | rfl | rfl | rfl | rfl <;> first | exact absurd rfl hne | exact ⟨rfl, rfl⟩
    · refine ⟨_, rfl, ?_⟩
      refine A.u (LU.loadO 1 rfl ⟨Try.sizeOf27, Try.isAgg27⟩ Is.rfl' (Part.whole (by (simp; done)))) rfl ?_
      refine ⟨⟨p2, q2, r2, p5, q5, r5⟩, Weaker.mk' ?_ (HSub.refl _)⟩
      refine env_back0 (envS_hit (sl := [(0, 7), (1, 8), (2, 9), (3, 10), (4, 11), (5, 12), (6, 13), (7, 14), (8, 15)]) (j := 6) (d := 13) rfl (fun _ _ h => h))  (envS_next ?_)
      · intro p hp hne; simp only [List.mem_cons, List.not_mem_nil, or_false] at hp; rcases hp with rfl | rfl | rfl | rfl | rfl | rfl | rfl | rfl | rfl <;> first | exact absurd rfl hne | exact ⟨rfl, rfl⟩
    · have d5 := hdir 5 (List.mem_of_elem_eq_true (by kernel_rfl))
      have d6 := hdir 6 (List.mem_of_elem_eq_true (by kernel_rfl))
      refine ⟨_, rfl, ?_⟩
      refine LP.weak (t := 12) (v := Rls (l ++ [r]) (.tok p5 q5 r5)) (envS_is (j := 5) rfl d5) ?_
      refine LP.weak (t := 13) (v := .agg (aL a)) (envS_is (j := 6) rfl d6) ?_
      refine A.u (LU.call (light_calls (l ++ [r]) _ a hl1 hs) Try.func14 rfl rfl (Opds.cons Is.rfl' (Opds.cons Is.rfl' Opds.nil))) rfl ?_
      refine ⟨⟨p2, q2, r2, p5, q5, r5⟩, Weaker.mk' ?_ (HSub.refl _)⟩
      refine env_back2 (envS_hit (sl := [(0, 7), (1, 8), (2, 9), (3, 10), (4, 11), (5, 12), (6, 13), (7, 14), (8, 15)]) (j := 7) (d := 14) rfl (fun _ _ h => h)) (envS_hit (sl := [(0, 7), (1, 8), (2, 9), (3, 10), (4, 11), (5, 12), (6, 13), (7, 14), (8, 15)]) (j := 6) (d := 13) rfl (fun _ _ h => h)) (envS_hit (sl := [(0, 7), (1, 8), (2, 9), (3, 10), (4, 11), (5, 12), (6, 13), (7, 14), (8, 15)]) (j := 5) (d := 12) rfl (fun _ _ h => h)) (envS_next ?_)
      · intro p hp hne; simp only [List.mem_cons, List.not_mem_nil, or_false] at hp; rcases hp with rfl | rfl | rfl | rfl | rfl | rfl | rfl | rfl | rfl <;> first | exact absurd rfl hne | exact ⟨rfl, rfl⟩
    · have d7 := hdir 7 (List.mem_of_elem_eq_true (by kernel_rfl))
      refine ⟨_, rfl, ?_⟩
      refine LP.weak (t := 14) (v := bl (lightB (l ++ [r]) a)) (envS_is (j := 7) rfl d7) ?_
      refine A.u (LU.not Is.rfl') rfl ?_
      refine ⟨⟨p2, q2, r2, p5, q5, r5⟩, Weaker.mk' ?_ (HSub.refl _)⟩
      refine env_back1 (envS_hit (sl := [(0, 7), (1, 8), (2, 9), (3, 10), (4, 11), (5, 12), (6, 13), (7, 14), (8, 15)]) (j := 8) (d := 15) rfl (fun _ _ h => h)) (envS_hit (sl := [(0, 7), (1, 8), (2, 9), (3, 10), (4, 11), (5, 12), (6, 13), (7, 14), (8, 15)]) (j := 7) (d := 14) rfl (fun _ _ h => h)) (envS_next ?_)
      · intro p hp hne; simp only [List.mem_cons, List.not_mem_nil, or_false] at hp; rcases hp with rfl | rfl | rfl | rfl | rfl | rfl | rfl | rfl | rfl <;> first | exact absurd rfl hne | exact ⟨rfl, rfl⟩
  · intro g
    obtain ⟨p2, q2, r2, p5, q5, r5⟩ := g
    refine after_code ?_
    refine X.cond rfl (fun h1 => ?_) (fun h1 => ?_)
    · try have h1 := of_decide_eq_true h1
      refine LW.seq ?_
      refine LW.region ?_
      refine X.u (LU.call (lives_calls) Try.func15 rfl rfl Opds.nil) rfl ?_
      refine X.u (LU.assignR Is.rfl') rfl ?_
      refine LL.nil (after_code ?_)
      refine LW.ret (ret_code (after_end ?_))
      refine X.ret (H' := []) (Res.one (by exact IsR rfl)) (by repeat (first | exact HSub.refl _ | refine HSub.pick 0 rfl ?_ | refine HSub.pick 1 rfl ?_ | refine HSub.pick 2 rfl ?_ | refine HSub.pick 3 rfl ?_ | refine HSub.pick 4 rfl ?_ | refine HSub.drop ?_)) ?_
      exact rfl
    · try have h1 := of_decide_eq_false h1
      refine LW.skip (after_code ?_)
      refine LW.seq ?_
      refine LW.seq ?_
      refine LW.region ?_
      refine X.u (LU.loadO 2 rfl ⟨Try.sizeOf31, Try.isAgg31⟩ Is.rfl' (Part.whole (by (simp; done)))) rfl ?_
      refine X.u (LU.fieldO Try.underlying27 rfl Try.sizeOf25 (by decide) Is.rfl') rfl ?_
      refine X.u (LU.weak (LU.loadO 1 rfl ⟨Try.sizeOf25, Try.isAgg25⟩ Is.rfl' (Part.sub (by (simp; done)))) (Is.of (y := .agg (sL a.s)) (rfl))) rfl ?_
      refine X.u (LU.fieldO Try.underlying27 rfl Try.sizeOf9 (by decide) Is.rfl') rfl ?_
      refine X.u (LU.loadO 1 rfl ⟨Try.sizeOf9, Try.isAgg9⟩ Is.rfl' (Part.one rfl)) rfl ?_
      refine X.u (LU.fieldO Try.underlying27 rfl Try.sizeOf9 (by decide) Is.rfl') rfl ?_
      refine X.u (LU.loadO 1 rfl ⟨Try.sizeOf9, Try.isAgg9⟩ Is.rfl' (Part.one rfl)) rfl ?_
      refine X.u (LU.fieldO Try.underlying27 rfl Try.sizeOf3 (by decide) Is.rfl') rfl ?_
      refine X.u (LU.loadO 1 rfl ⟨Try.sizeOf3, Try.isAgg3⟩ Is.rfl' (Part.one rfl)) rfl ?_
      refine X.u (LU.call (matches_calls r a.s a.ch a.p a.right hro hs) Try.func18 rfl rfl (Opds.cons Is.rfl' (Opds.cons Is.rfl' (Opds.cons Is.rfl' (Opds.cons Is.rfl' (Opds.cons Is.rfl' Opds.nil)))))) rfl ?_
      refine LL.nil (after_code ?_)
      refine X.cond rfl (fun h3 => ?_) (fun h3 => ?_)
      · have hm : matchB r a.s a.ch a.p a.right = true := h3
        simp only [matchB, Bool.and_eq_true, decide_eq_true_eq] at hm
        refine LW.seq ?_
        refine LW.region ?_
        refine X.u (LU.fieldO Try.underlying31 rfl Try.sizeOf9 (by decide) Is.rfl') rfl ?_
        refine X.u (LU.loadO 2 rfl ⟨Try.sizeOf9, Try.isAgg9⟩ Is.rfl' (Part.one rfl)) rfl ?_
        refine X.u (LU.fieldO Try.underlying27 rfl Try.sizeOf9 (by decide) Is.rfl') rfl ?_
        refine X.u (LU.loadO 1 rfl ⟨Try.sizeOf9, Try.isAgg9⟩ Is.rfl' (Part.one rfl)) rfl ?_
        refine X.u (LU.weak (LU.call (covers_calls r.pre a.p) Try.func22 rfl rfl (Opds.cons Is.rfl' (Opds.cons Is.rfl' Opds.nil))) (asB (c := true) rfl (by exact hm.1.2))) rfl ?_
        refine X.u (LU.moveR Is.rfl') rfl ?_
        refine X.doT rfl rfl (LU.fieldO Try.underlying31 rfl Try.sizeOf3 (by decide) (by exact Is.rfl')) rfl ?_
        refine X.doT rfl rfl (LU.loadO 2 rfl ⟨Try.sizeOf3, Try.isAgg3⟩ (by exact Is.rfl') (Part.one rfl)) rfl ?_
        refine X.doT rfl rfl (LU.fieldO Try.underlying27 rfl Try.sizeOf3 (by decide) (by exact Is.rfl')) rfl ?_
        refine X.doT rfl rfl (LU.loadO 1 rfl ⟨Try.sizeOf3, Try.isAgg3⟩ (by exact Is.rfl') (Part.one rfl)) rfl ?_
        refine X.doT rfl rfl (LU.weak (LU.eql (by exact Is.rfl') (by exact Is.rfl')) (asB (c := true) rfl (by exact decide_eq_true hm.1.1.1.2))) rfl ?_
        refine X.u (LU.pickT Is.rfl' (by exact Is.rfl')) rfl ?_
        refine X.u (LU.moveR Is.rfl') rfl ?_
        refine X.doT rfl rfl (LU.loadO 2 rfl ⟨Try.sizeOf31, Try.isAgg31⟩ (by exact Is.rfl') (Part.whole (by (simp; done)))) rfl ?_
        refine X.doT rfl rfl (LU.weak (LU.call (right_calls r hro) Try.func16 rfl rfl (Opds.cons (by exact Is.rfl') Opds.nil)) (asB (c := true) rfl (by exact hm.1.1.1.1))) rfl ?_
        refine X.u (LU.pickT Is.rfl' (by exact Is.rfl')) rfl ?_
        refine X.u (LU.moveR Is.rfl') rfl ?_
        refine X.doT rfl rfl (LU.call (lives_calls) Try.func15 rfl rfl Opds.nil) rfl ?_
        refine X.u (LU.pickT Is.rfl' (by exact Is.rfl')) rfl ?_
        refine X.u (LU.assignR Is.rfl') rfl ?_
        refine LL.nil (after_code ?_)
        refine LW.ret (ret_code (after_end ?_))
        refine X.ret (H' := []) (Res.one (by exact IsR rfl)) (by repeat (first | exact HSub.refl _ | refine HSub.pick 0 rfl ?_ | refine HSub.pick 1 rfl ?_ | refine HSub.pick 2 rfl ?_ | refine HSub.pick 3 rfl ?_ | refine HSub.pick 4 rfl ?_ | refine HSub.drop ?_)) ?_
        exact rfl
      · try have h3 := of_decide_eq_false h3
        refine LW.skip (after_code ?_)
        refine LW.seq ?_
        refine X.drawM 14 rfl (by kernel_rfl) rfl ?_
        refine QD.u (LU.moveS Is.rfl') rfl ?_
        refine QD.u (LU.loadO 1 rfl ⟨Try.sizeOf27, Try.isAgg27⟩ Is.rfl' (Part.whole (by (simp; done)))) rfl ?_
        refine QD.u (LU.call (dec_calls l k a hl3 hs) Try.func20 rfl rfl (Opds.cons Is.rfl' (Opds.cons Is.rfl' Opds.nil))) rfl ?_
        refine QD.u (LU.loadO 2 rfl ⟨Try.sizeOf31, Try.isAgg31⟩ Is.rfl' (Part.whole (by (simp; done)))) rfl ?_
        refine QD.u (LU.lits Try.underlying22 Try.sizeOf31 Try.zeroValue31 (ones rfl) rfl (by decide) (by decide) (Elems.cons Is.rfl' (by exact Cells.agg) Elems.nil) (by simp) rfl) rfl ?_
        refine QD.u (LU.moveS Is.rfl') rfl ?_
        refine QD.u (LU.weak (LU.append Try.underlying22 (El.of (P := Try.prog) (z := (.agg #[(.string ByteArray.empty), (.string ByteArray.empty), (.string ByteArray.empty), (.int .i64 0), (.bool false)])) (size := 5) (bytes := 64) rfl rfl rfl) Is.rfl' Is.rfl' (SrcL.slice Try.underlying22 (by decide) (by simp)) (by simp only [Option.getD_some, Option.getD_none, byteEls_length, intEls_length, List.length_append, List.length_cons, List.length_nil, List.length_map, List.length_drop, List.length_take, Int.toNat_natCast]; omega) (by simp only [Option.getD_some, Option.getD_none, byteEls_length, intEls_length, List.length_append, List.length_cons, List.length_nil, List.length_map, List.length_drop, List.length_take, Int.toNat_natCast]; omega)) (Is.of (y := Rls (r :: l) .unk) (rfl))) rfl ?_
        refine QD.u (LU.loadO 1 rfl ⟨Try.sizeOf27, Try.isAgg27⟩ Is.rfl' (Part.whole (by (simp; done)))) rfl ?_
        refine QD.u (LU.call (dec_calls (r :: l) .unk a hl2 hs) Try.func20 rfl rfl (Opds.cons Is.rfl' (Opds.cons Is.rfl' Opds.nil))) rfl ?_
        refine QD.u (LU.weak (LU.booleq Try.underlying4 Is.rfl' Is.rfl') (asB (c := true) rfl (by rw [apart_law h3]; simp))) rfl ?_
        refine QD.u (LU.moveR Is.rfl') rfl ?_
        refine QD.doT rfl rfl (LU.call (lives_calls) Try.func15 rfl rfl Opds.nil) rfl ?_
        refine QD.u (LU.pickT Is.rfl' (by exact Is.rfl')) rfl ?_
        refine QD.u (LU.assignR Is.rfl') rfl ?_
        refine QD.nil ?_
        refine LL.nil (after_code ?_)
        refine LW.ret (after_end ?_)
        refine X.ret (H' := []) (Res.one (by exact IsR rfl)) (by repeat (first | exact HSub.refl _ | refine HSub.pick 0 rfl ?_ | refine HSub.pick 1 rfl ?_ | refine HSub.pick 2 rfl ?_ | refine HSub.pick 3 rfl ?_ | refine HSub.pick 4 rfl ?_ | refine HSub.drop ?_)) ?_
        exact rfl
theorem AclApart_row (es : List (List LV)) (rc ac : List LV) (hq : ∀ c ∈ es, QRule c) (hb : es.length * 64 ≤ reachBytes) (hr : QRule rc) (ha : QAsk ac) : LCalls Try.prog 6 [.sl 5 es .unk, .agg rc, .agg ac] [] (fun r _ => r = .raw (.bool true)) := by
  obtain ⟨l, rfl, hl⟩ := rules_of es hq
  obtain ⟨r, rfl, hro⟩ := rule_of hr
  obtain ⟨a, rfl, hs, _⟩ := ask_of ha
  exact aa_calls l .unk r a hl (by simpa using hb) hro hs
end Go.Proofs.Ythifbkddfjohbaa
