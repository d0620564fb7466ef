/- A rule more that allows takes no right away; one more that denies gives none. -/
import Derived.Test.YthifbkddfjohbaaAcG
set_option linter.unusedVariables false
set_option linter.unusedSimpArgs false
namespace Go.Proofs.Ythifbkddfjohbaa
open Go.RowKit Go.L
theorem decide_bad {l : List Rl} {s : Sb} {ch p : List UInt8} {right : Int} (hb : badAsk p right = true) : decideB l s ch p right = false := by
  unfold decideB; rw [if_pos hb]
theorem best_cases (l : List Rl) (s : Sb) (ch p : List UInt8) (right : Int) : (∀ x ∈ l, matchB x s ch p right = false) ∨ ∃ m : Int, (∀ x ∈ l, matchB x s ch p right = true → (x.pre.length : Int) ≤ m) ∧ ∃ x ∈ l, matchB x s ch p right = true ∧ (x.pre.length : Int) = m := by
  obtain ⟨h0, h1, h2⟩ := bR_facts l (fun x => matchB x s ch p right) l.length (Nat.le_refl _)
  rw [List.take_length] at h1
  by_cases h : 0 ≤ bR l (fun x => matchB x s ch p right) l.length
  · exact .inr ⟨_, h1, h2 h⟩
  · refine .inl fun x hx => ?_
    rw [Bool.eq_false_iff]
    intro hm
    have := h1 x hx hm
    omega
/-- What is decided hangs on which rules are there. -/
theorem decide_mem {l l' : List Rl} {s : Sb} {ch p : List UInt8} {right : Int} (h : ∀ x, x ∈ l ↔ x ∈ l') : decideB l s ch p right = decideB l' s ch p right := by
  cases hb : badAsk p right with
  | true => rw [decide_bad hb, decide_bad hb]
  | false =>
    rcases best_cases l s ch p right with hn | ⟨m, h1, x, hx, h2⟩
    · rw [decide_none hb hn, decide_none hb fun x hx => hn x ((h x).2 hx)]
    · rw [decide_m hb h1 ⟨x, hx, h2⟩, decide_m hb (fun y hy => h1 y ((h y).2 hy)) ⟨x, (h x).1 hx, h2⟩]
      congr 1
      rw [Bool.eq_iff_iff, List.any_eq_true, List.any_eq_true]
      exact ⟨fun ⟨y, hy, hq⟩ => ⟨y, (h y).1 hy, hq⟩, fun ⟨y, hy, hq⟩ => ⟨y, (h y).2 hy, hq⟩⟩
theorem decide_snoc {l : List Rl} {r : Rl} {s : Sb} {ch p : List UInt8} {right : Int} (hb : badAsk p right = false) :
    (matchB r s ch p right = false ∧ decideB (l ++ [r]) s ch p right = decideB l s ch p right) ∨ (matchB r s ch p right = true ∧ decideB (l ++ [r]) s ch p right = !r.deny) ∨ (matchB r s ch p right = true ∧ decideB (l ++ [r]) s ch p right = decideB l s ch p right) ∨ (matchB r s ch p right = true ∧ decideB (l ++ [r]) s ch p right = (decideB l s ch p right && !r.deny)) := by
  cases hm : matchB r s ch p right with
  | false =>
    refine .inl ⟨rfl, ?_⟩
    have : speak (l ++ [r]) s ch p right = speak l s ch p right := by unfold speak; rw [List.filter_append, List.filter_cons, hm]; simp
    unfold decideB; rw [this]
  | true =>
    refine .inr ?_
    rcases best_cases l s ch p right with hn | ⟨m, h1, x, hx, h2, h3⟩
    · refine .inl ⟨rfl, ?_⟩
      rw [decide_m hb (m := r.pre.length) (fun y hy hmy => ?_) ⟨r, by simp, hm, rfl⟩]
      · congr 1
        rw [List.any_append, List.any_eq_false.2 (fun y hy => by rw [hn y hy]; simp)]
        simp [hm]
      · rcases List.mem_append.1 hy with h | h
        · rw [hn y h] at hmy; cases hmy
        · rw [List.mem_singleton.1 h]; omega
    · by_cases hlt : m < (r.pre.length : Int)
      · refine .inl ⟨rfl, ?_⟩
        rw [decide_m hb (m := r.pre.length) (fun y hy hmy => ?_) ⟨r, by simp, hm, rfl⟩]
        · congr 1
          rw [List.any_append, List.any_eq_false.2 (fun y hy => ?_)]
          · simp [hm]
          · intro hc
            simp only [Bool.and_eq_true, decide_eq_true_eq] at hc
            have := h1 y hy hc.1.1
            omega
        · rcases List.mem_append.1 hy with h | h
          · have := h1 y h hmy; omega
          · rw [List.mem_singleton.1 h]; omega
      · have hd := decide_m (s := s) (ch := ch) hb h1 ⟨x, hx, h2, h3⟩
        have hd2 := decide_m (l := l ++ [r]) (s := s) (ch := ch) hb (m := m) (fun y hy hmy => by
          rcases List.mem_append.1 hy with h | h
          · exact h1 y h hmy
          · rw [List.mem_singleton.1 h]; omega) ⟨x, by simp [hx], h2, h3⟩
        rw [List.any_append] at hd2
        by_cases he : (r.pre.length : Int) = m
        · refine .inr (.inr ⟨rfl, ?_⟩)
          rw [hd2, hd]; simp [hm, he]
        · refine .inr (.inl ⟨rfl, ?_⟩)
          rw [hd2, hd]; simp [he]
theorem mono_law (l : List Rl) (r : Rl) (s : Sb) (ch p : List UInt8) (right : Int) :
    (((!decideB l s ch p right || decideB (l ++ [r]) s ch p right) || r.deny) && ((decideB l s ch p right || !decideB (l ++ [r]) s ch p right) || !r.deny)) = true := by
  cases hb : badAsk p right with
  | true => rw [decide_bad hb, decide_bad hb]; simp
  | false =>
    rcases decide_snoc (l := l) (r := r) (s := s) (ch := ch) hb with h | h | h | h <;> rw [h.2] <;> cases decideB l s ch p right <;> cases r.deny <;> rfl
set_option maxHeartbeats 4000000 in
set_option maxRecDepth 100000 in
theorem am_calls (l : List Rl) (k : Cap) (r : Rl) (a : Ak) (hl : ∀ x ∈ l, RlOk x) (hb : l.length * 64 ≤ reachBytes) (hro : RlOk r) (hs : SbOk a.s) : LCalls Try.prog 4 [Rls l k, .agg (rL r), .agg (aL a)] [] (fun r _ => r = .raw (.bool true)) := by
  have hrl := reach_lt
  have hl1 : LOk (l ++ [r]) := LOk.snoc hl hb hro
  have hl3 : LOk l := ⟨hl, by omega⟩
  have hlaw := mono_law l r a.s a.ch a.p a.right
  refine LCalls.of Try.func4 rfl Try.ntmps4 Try.results4 rfl (fun Rf => ?_)
  refine LW.seq ?_
  refine LW.region ?_
  refine X.act (X.box rfl Is.rfl' (by exact Cells.agg) (fun b4 => ?_))
  refine X.act (X.box rfl Is.rfl' (by exact Cells.agg) (fun b5 => ?_))
  refine X.u (LU.assignR Is.rfl') rfl ?_
  refine LL.nil (after_code ?_)
  refine LW.seq ?_
  refine LW.seq ?_
  refine LW.inv (m := 9) (γ := Nat × Nat × Nat × Nat × Nat × Nat) [(0, 9), (1, 10), (2, 11), (3, 12), (4, 13), (5, 14), (6, 15), (7, 16), (8, 17)] (fun g d => match g with | ⟨p2, q2, r2, p5, q5, r5⟩ => match d with | 9 => .sl 5 [] .full | 10 => Rls l k | 11 => Rls l (.tok p2 q2 r2) | 12 => .agg (rL r) | 13 => Rls [r] .full | 14 => Rls (l ++ [r]) (.tok p5 q5 r5) | 15 => .agg (aL a) | 16 => bl (lightB (l ++ [r]) a) | 17 => bl (!lightB (l ++ [r]) a) | _ => .any) (fun g f => match g with | ⟨p2, q2, r2, p5, q5, r5⟩ => cond (f 5) (.tail p5 q5 r5) (.tail p2 q2 r2) :: .cells b5 27 (aL a) :: .cells b4 31 (rL r) :: Rf) (0, 0, 0, 0, 0, 0) rfl rfl rfl (by kernel_rfl) (HSub.tail0 0 0 0 (Nat.le_refl _) _) ?_ ?_ (fun _ _ hw h => hw.lw h)
  · intro i hi f g hfi hdir hdown
    obtain ⟨p2, q2, r2, p5, q5, r5⟩ := g
    have hc : i = 0 ∨ i = 1 ∨ i = 2 ∨ i = 3 ∨ i = 4 ∨ i = 5 ∨ i = 6 ∨ i = 7 ∨ i = 8 := by omega
    rcases hc with rfl | rfl | rfl | rfl | rfl | rfl | rfl | rfl | rfl
    · refine ⟨_, rfl, ?_⟩
      refine A.u (LU.lits Try.underlying22 Try.sizeOf31 Try.zeroValue31 (ones rfl) rfl (by decide) (by decide) Elems.nil (by intro e he; cases he) rfl) rfl ?_
      refine ⟨⟨p2, q2, r2, p5, q5, r5⟩, Weaker.mk' ?_ (HSub.refl _)⟩
      refine env_back0 (envS_hit (sl := [(0, 9), (1, 10), (2, 11), (3, 12), (4, 13), (5, 14), (6, 15), (7, 16), (8, 17)]) (j := 0) (d := 9) rfl (fun _ _ h => h))  (envS_next ?_)
      · intro p hp hne; simp only [List.mem_cons, List.not_mem_nil, or_false] at hp; rcases hp with rfl | rfl | rfl | rfl | rfl | rfl | rfl | rfl | rfl <;> first | exact absurd rfl hne | exact ⟨rfl, rfl⟩
    · refine ⟨_, rfl, ?_⟩
      refine A.u (LU.moveS Is.rfl') rfl ?_
      refine ⟨⟨p2, q2, r2, p5, q5, r5⟩, Weaker.mk' ?_ (HSub.refl _)⟩
      refine env_back0 (envS_hit (sl := [(0, 9), (1, 10), (2, 11), (3, 12), (4, 13), (5, 14), (6, 15), (7, 16), (8, 17)]) (j := 1) (d := 10) rfl (fun _ _ h => h))  (envS_next ?_)
      · intro p hp hne; simp only [List.mem_cons, List.not_mem_nil, or_false] at hp; rcases hp with rfl | rfl | rfl | rfl | rfl | rfl | rfl | rfl | rfl <;> first | exact absurd rfl hne | exact ⟨rfl, rfl⟩
    · have d0 := hdir 0 (List.mem_of_elem_eq_true (by kernel_rfl))
      have d1 := hdir 1 (List.mem_of_elem_eq_true (by kernel_rfl))
      refine ⟨_, rfl, ?_⟩
      have h5 : f 5 = false := Bool.eq_false_iff.2 (fun h => by rw [hdown 5 (by omega) h 2 (List.mem_of_elem_eq_true (by kernel_rfl))] at hfi; cases hfi)
      refine LP.weak (t := 9) (v := .sl 5 [] .full) (envS_is (j := 0) rfl d0) ?_
      refine LP.weak (t := 10) (v := Rls l k) (envS_is (j := 1) rfl d1) ?_
      refine A.act (X.appendF rfl Try.underlying22 (El.of (P := Try.prog) (z := (.agg #[(.string ByteArray.empty), (.string ByteArray.empty), (.string ByteArray.empty), (.int .i64 0), (.bool false)])) (size := 5) (bytes := 64) rfl rfl rfl) Is.rfl' Is.rfl' (SrcL.slice Try.underlying22 (by decide) (by simp)) (by simp only [Option.getD_some, Option.getD_none, byteEls_length, intEls_length, List.length_append, List.length_cons, List.length_nil, List.length_map, List.length_drop, List.length_take, Int.toNat_natCast]; omega) (by simp only [Option.getD_some, Option.getD_none, byteEls_length, intEls_length, List.length_append, List.length_cons, List.length_nil, List.length_map, List.length_drop, List.length_take, Int.toNat_natCast]; omega) (fun b11 o11 c11 => ?_))
      refine ⟨(b11, o11, c11, p5, q5, r5), Weaker.mk' ?_ (by show HSub _ (cond (f 5) _ _ :: _); rw [h5]; exact HSub.cons (HSub.drop (HSub.refl _)))⟩
      refine env_back2 (envS_hit (sl := [(0, 9), (1, 10), (2, 11), (3, 12), (4, 13), (5, 14), (6, 15), (7, 16), (8, 17)]) (j := 2) (d := 11) rfl (fun _ _ h => h)) (envS_hit (sl := [(0, 9), (1, 10), (2, 11), (3, 12), (4, 13), (5, 14), (6, 15), (7, 16), (8, 17)]) (j := 1) (d := 10) rfl (fun _ _ h => h)) (envS_hit (sl := [(0, 9), (1, 10), (2, 11), (3, 12), (4, 13), (5, 14), (6, 15), (7, 16), (8, 17)]) (j := 0) (d := 9) rfl (fun _ _ h => h)) (envS_next ?_)
      · intro p hp hne; simp only [List.mem_cons, List.not_mem_nil, or_false] at hp; rcases hp with rfl | rfl | rfl | rfl | rfl | rfl | rfl | rfl | rfl <;> first | exact absurd rfl hne | exact ⟨rfl, rfl⟩
    · refine ⟨_, rfl, ?_⟩
      refine A.u (LU.loadO 2 rfl ⟨Try.sizeOf31, Try.isAgg31⟩ Is.rfl' (Part.whole (by (simp; done)))) rfl ?_
      refine ⟨⟨p2, q2, r2, p5, q5, r5⟩, Weaker.mk' ?_ (HSub.refl _)⟩
      refine env_back0 (envS_hit (sl := [(0, 9), (1, 10), (2, 11), (3, 12), (4, 13), (5, 14), (6, 15), (7, 16), (8, 17)]) (j := 3) (d := 12) rfl (fun _ _ h => h))  (envS_next ?_)
      · intro p hp hne; simp only [List.mem_cons, List.not_mem_nil, or_false] at hp; rcases hp with rfl | rfl | rfl | rfl | rfl | rfl | rfl | rfl | rfl <;> first | exact absurd rfl hne | exact ⟨rfl, rfl⟩
    · have d3 := hdir 3 (List.mem_of_elem_eq_true (by kernel_rfl))
      refine ⟨_, rfl, ?_⟩
      refine LP.weak (t := 12) (v := .agg (rL r)) (envS_is (j := 3) rfl d3) ?_
      refine A.u (LU.lits Try.underlying22 Try.sizeOf31 Try.zeroValue31 (ones rfl) rfl (by decide) (by decide) (Elems.cons Is.rfl' (by exact Cells.agg) Elems.nil) (by simp) rfl) rfl ?_
      refine ⟨⟨p2, q2, r2, p5, q5, r5⟩, Weaker.mk' ?_ (HSub.refl _)⟩
      refine env_back1 (envS_hit (sl := [(0, 9), (1, 10), (2, 11), (3, 12), (4, 13), (5, 14), (6, 15), (7, 16), (8, 17)]) (j := 4) (d := 13) rfl (fun _ _ h => h)) (envS_hit (sl := [(0, 9), (1, 10), (2, 11), (3, 12), (4, 13), (5, 14), (6, 15), (7, 16), (8, 17)]) (j := 3) (d := 12) rfl (fun _ _ h => h)) (envS_next ?_)
      · intro p hp hne; simp only [List.mem_cons, List.not_mem_nil, or_false] at hp; rcases hp with rfl | rfl | rfl | rfl | rfl | rfl | rfl | rfl | rfl <;> first | exact absurd rfl hne | exact ⟨rfl, rfl⟩
    · have d2 := hdir 2 (List.mem_of_elem_eq_true (by kernel_rfl))
      have d4 := hdir 4 (List.mem_of_elem_eq_true (by kernel_rfl))
      refine ⟨_, rfl, ?_⟩
      refine LP.ghost (H' := .tail p2 q2 r2 :: .cells b5 27 (aL a) :: .cells b4 31 (rL r) :: Rf) (by rw [hfi]; exact HSub.refl _) ?_
      refine LP.weak (t := 11) (v := Rls l (.tok p2 q2 r2)) (envS_is (j := 2) rfl d2) ?_
      refine LP.weak (t := 13) (v := Rls [r] .full) (envS_is (j := 4) rfl d4) ?_
      refine A.act (X.append 0 rfl rfl Try.underlying22 (El.of (P := Try.prog) (z := (.agg #[(.string ByteArray.empty), (.string ByteArray.empty), (.string ByteArray.empty), (.int .i64 0), (.bool false)])) (size := 5) (bytes := 64) rfl rfl rfl) Is.rfl' Is.rfl' (SrcL.slice Try.underlying22 (by decide) (by (intro e he; simp [chunks] at he; simp [he]; done))) (by simp only [Option.getD_some, Option.getD_none, byteEls_length, intEls_length, List.length_append, List.length_cons, List.length_nil, List.length_map, List.length_drop, List.length_take, Int.toNat_natCast]; omega) (by simp only [Option.getD_some, Option.getD_none, byteEls_length, intEls_length, List.length_append, List.length_cons, List.length_nil, List.length_map, List.length_drop, List.length_take, Int.toNat_natCast]; omega) (fun b14 o14 c14 => ?_))
      refine ⟨(p2, q2, r2, b14, o14, c14), Weaker.mk' ?_ (HSub.refl _)⟩
      refine env_back2 (envS_hit (sl := [(0, 9), (1, 10), (2, 11), (3, 12), (4, 13), (5, 14), (6, 15), (7, 16), (8, 17)]) (j := 5) (d := 14) rfl (Is.of (congrArg (fun z => LV.sl 5 z (.tok b14 o14 c14)) (rEls_snoc l r)))) (envS_hit (sl := [(0, 9), (1, 10), (2, 11), (3, 12), (4, 13), (5, 14), (6, 15), (7, 16), (8, 17)]) (j := 4) (d := 13) rfl (fun _ _ h => h)) (envS_hit (sl := [(0, 9), (1, 10), (2, 11), (3, 12), (4, 13), (5, 14), (6, 15), (7, 16), (8, 17)]) (j := 2) (d := 11) rfl (fun _ _ h => h)) (envS_next ?_)
      · intro p hp hne; simp only [List.mem_cons, List.not_mem_nil, or_false] at hp; rcases hp with rfl | rfl | rfl | rfl | rfl | rfl | rfl | rfl | rfl <;> first | exact absurd rfl hne | exact ⟨rfl, rfl⟩
    · refine ⟨_, rfl, ?_⟩
      refine A.u (LU.loadO 1 rfl ⟨Try.sizeOf27, Try.isAgg27⟩ Is.rfl' (Part.whole (by (simp; done)))) rfl ?_
      refine ⟨⟨p2, q2, r2, p5, q5, r5⟩, Weaker.mk' ?_ (HSub.refl _)⟩
      refine env_back0 (envS_hit (sl := [(0, 9), (1, 10), (2, 11), (3, 12), (4, 13), (5, 14), (6, 15), (7, 16), (8, 17)]) (j := 6) (d := 15) rfl (fun _ _ h => h))  (envS_next ?_)
      · intro p hp hne; simp only [List.mem_cons, List.not_mem_nil, or_false] at hp; rcases hp with rfl | rfl | rfl | rfl | rfl | rfl | rfl | rfl | rfl <;> first | exact absurd rfl hne | exact ⟨rfl, rfl⟩
    · have d5 := hdir 5 (List.mem_of_elem_eq_true (by kernel_rfl))
      have d6 := hdir 6 (List.mem_of_elem_eq_true (by kernel_rfl))
      refine ⟨_, rfl, ?_⟩
      refine LP.weak (t := 14) (v := Rls (l ++ [r]) (.tok p5 q5 r5)) (envS_is (j := 5) rfl d5) ?_
      refine LP.weak (t := 15) (v := .agg (aL a)) (envS_is (j := 6) rfl d6) ?_
      refine A.u (LU.call (light_calls (l ++ [r]) _ a hl1 hs) Try.func14 rfl rfl (Opds.cons Is.rfl' (Opds.cons Is.rfl' Opds.nil))) rfl ?_
      refine ⟨⟨p2, q2, r2, p5, q5, r5⟩, Weaker.mk' ?_ (HSub.refl _)⟩
      refine env_back2 (envS_hit (sl := [(0, 9), (1, 10), (2, 11), (3, 12), (4, 13), (5, 14), (6, 15), (7, 16), (8, 17)]) (j := 7) (d := 16) rfl (fun _ _ h => h)) (envS_hit (sl := [(0, 9), (1, 10), (2, 11), (3, 12), (4, 13), (5, 14), (6, 15), (7, 16), (8, 17)]) (j := 6) (d := 15) rfl (fun _ _ h => h)) (envS_hit (sl := [(0, 9), (1, 10), (2, 11), (3, 12), (4, 13), (5, 14), (6, 15), (7, 16), (8, 17)]) (j := 5) (d := 14) rfl (fun _ _ h => h)) (envS_next ?_)
      · intro p hp hne; simp only [List.mem_cons, List.not_mem_nil, or_false] at hp; rcases hp with rfl | rfl | rfl | rfl | rfl | rfl | rfl | rfl | rfl <;> first | exact absurd rfl hne | exact ⟨rfl, rfl⟩
    · have d7 := hdir 7 (List.mem_of_elem_eq_true (by kernel_rfl))
      refine ⟨_, rfl, ?_⟩
      refine LP.weak (t := 16) (v := bl (lightB (l ++ [r]) a)) (envS_is (j := 7) rfl d7) ?_
      refine A.u (LU.not Is.rfl') rfl ?_
      refine ⟨⟨p2, q2, r2, p5, q5, r5⟩, Weaker.mk' ?_ (HSub.refl _)⟩
      refine env_back1 (envS_hit (sl := [(0, 9), (1, 10), (2, 11), (3, 12), (4, 13), (5, 14), (6, 15), (7, 16), (8, 17)]) (j := 8) (d := 17) rfl (fun _ _ h => h)) (envS_hit (sl := [(0, 9), (1, 10), (2, 11), (3, 12), (4, 13), (5, 14), (6, 15), (7, 16), (8, 17)]) (j := 7) (d := 16) rfl (fun _ _ h => h)) (envS_next ?_)
      · intro p hp hne; simp only [List.mem_cons, List.not_mem_nil, or_false] at hp; rcases hp with rfl | rfl | rfl | rfl | rfl | rfl | rfl | rfl | rfl <;> first | exact absurd rfl hne | exact ⟨rfl, rfl⟩
  · intro g
    obtain ⟨p2, q2, r2, p5, q5, r5⟩ := g
    refine after_code ?_
    refine X.cond rfl (fun h1 => ?_) (fun h1 => ?_)
    · try have h1 := of_decide_eq_true h1
      refine LW.seq ?_
      refine LW.region ?_
      refine X.u (LU.call (lives_calls) Try.func15 rfl rfl Opds.nil) rfl ?_
      refine X.u (LU.assignR Is.rfl') rfl ?_
      refine LL.nil (after_code ?_)
      refine LW.ret (ret_code (after_end ?_))
      refine X.ret (H' := []) (Res.one (by exact IsR rfl)) (by repeat (first | exact HSub.refl _ | refine HSub.pick 0 rfl ?_ | refine HSub.pick 1 rfl ?_ | refine HSub.pick 2 rfl ?_ | refine HSub.pick 3 rfl ?_ | refine HSub.pick 4 rfl ?_ | refine HSub.drop ?_)) ?_
      exact rfl
    · try have h1 := of_decide_eq_false h1
      refine LW.skip (after_code ?_)
      refine LW.seq ?_
      refine LW.inv (m := 13) (γ := Nat × Nat × Nat × Nat × Nat × Nat) [(0, 19), (1, 20), (2, 21), (3, 22), (4, 23), (5, 24), (6, 25), (7, 26), (8, 27), (9, 28), (10, 29), (11, 7), (12, 8)] (fun g d => match g with | ⟨p2, q2, r2, p5, q5, r5⟩ => match d with | 19 => Rls l k | 20 => .agg (aL a) | 21 => bl (decideB l a.s a.ch a.p a.right) | 22 => .sl 5 [] .full | 23 => Rls l k | 24 => Rls l (.tok p2 q2 r2) | 25 => .agg (rL r) | 26 => Rls [r] .full | 27 => Rls (l ++ [r]) (.tok p5 q5 r5) | 28 => .agg (aL a) | 29 => bl (decideB (l ++ [r]) a.s a.ch a.p a.right) | 7 => bl (decideB l a.s a.ch a.p a.right) | 8 => bl (decideB (l ++ [r]) a.s a.ch a.p a.right) | _ => .any) (fun g f => match g with | ⟨p2, q2, r2, p5, q5, r5⟩ => cond (f 8) (.tail p5 q5 r5) (.tail p2 q2 r2) :: .cells b5 27 (aL a) :: .cells b4 31 (rL r) :: Rf) (0, 0, 0, 0, 0, 0) rfl rfl rfl (by kernel_rfl) ((HSub.trans (HSub.drop (HSub.refl _)) (HSub.tail0 0 0 0 (Nat.le_refl _) _))) ?_ ?_ (fun _ _ hw h => hw.lw h)
      · intro i hi f g hfi hdir hdown
        obtain ⟨p2, q2, r2, p5, q5, r5⟩ := g
        have hc : i = 0 ∨ i = 1 ∨ i = 2 ∨ i = 3 ∨ i = 4 ∨ i = 5 ∨ i = 6 ∨ i = 7 ∨ i = 8 ∨ i = 9 ∨ i = 10 ∨ i = 11 ∨ i = 12 := by omega
        rcases hc with rfl | rfl | rfl | rfl | rfl | rfl | rfl | rfl | rfl | rfl | rfl | rfl | rfl
        · refine ⟨_, rfl, ?_⟩
          refine A.u (LU.moveS Is.rfl') rfl ?_
          refine ⟨⟨p2, q2, r2, p5, q5, r5⟩, Weaker.mk' ?_ (HSub.refl _)⟩
          refine env_back0 (envS_hit (sl := [(0, 19), (1, 20), (2, 21), (3, 22), (4, 23), (5, 24), (6, 25), (7, 26), (8, 27), (9, 28), (10, 29), (11, 7), (12, 8)]) (j := 0) (d := 19) rfl (fun _ _ h => h))  (envS_next ?_)
          · intro p hp hne; simp only [List.mem_cons, List.not_mem_nil, or_false] at hp; rcases hp with rfl | rfl | rfl | rfl | rfl | rfl | rfl | rfl | rfl | rfl | rfl | rfl | rfl <;> first | exact absurd rfl hne | exact ⟨rfl, rfl⟩
        · refine ⟨_, rfl, ?_⟩
          refine A.u (LU.loadO 1 rfl ⟨Try.sizeOf27, Try.isAgg27⟩ Is.rfl' (Part.whole (by (simp; done)))) rfl ?_
          refine ⟨⟨p2, q2, r2, p5, q5, r5⟩, Weaker.mk' ?_ (HSub.refl _)⟩
          refine env_back0 (envS_hit (sl := [(0, 19), (1, 20), (2, 21), (3, 22), (4, 23), (5, 24), (6, 25), (7, 26), (8, 27), (9, 28), (10, 29), (11, 7), (12, 8)]) (j := 1) (d := 20) rfl (fun _ _ h => h))  (envS_next ?_)
          · intro p hp hne; simp only [List.mem_cons, List.not_mem_nil, or_false] at hp; rcases hp with rfl | rfl | rfl | rfl | rfl | rfl | rfl | rfl | rfl | rfl | rfl | rfl | rfl <;> first | exact absurd rfl hne | exact ⟨rfl, rfl⟩
        · have d0 := hdir 0 (List.mem_of_elem_eq_true (by kernel_rfl))
          have d1 := hdir 1 (List.mem_of_elem_eq_true (by kernel_rfl))
          refine ⟨_, rfl, ?_⟩
          refine LP.weak (t := 19) (v := Rls l k) (envS_is (j := 0) rfl d0) ?_
          refine LP.weak (t := 20) (v := .agg (aL a)) (envS_is (j := 1) rfl d1) ?_
          refine A.u (LU.call (dec_calls l k a hl3 hs) Try.func20 rfl rfl (Opds.cons Is.rfl' (Opds.cons Is.rfl' Opds.nil))) rfl ?_
          refine ⟨⟨p2, q2, r2, p5, q5, r5⟩, Weaker.mk' ?_ (HSub.refl _)⟩
          refine env_back2 (envS_hit (sl := [(0, 19), (1, 20), (2, 21), (3, 22), (4, 23), (5, 24), (6, 25), (7, 26), (8, 27), (9, 28), (10, 29), (11, 7), (12, 8)]) (j := 2) (d := 21) rfl (fun _ _ h => h)) (envS_hit (sl := [(0, 19), (1, 20), (2, 21), (3, 22), (4, 23), (5, 24), (6, 25), (7, 26), (8, 27), (9, 28), (10, 29), (11, 7), (12, 8)]) (j := 1) (d := 20) rfl (fun _ _ h => h)) (envS_hit (sl := [(0, 19), (1, 20), (2, 21), (3, 22), (4, 23), (5, 24), (6, 25), (7, 26), (8, 27), (9, 28), (10, 29), (11, 7), (12, 8)]) (j := 0) (d := 19) rfl (fun _ _ h => h)) (envS_next ?_)
          · intro p hp hne; simp only [List.mem_cons, List.not_mem_nil, or_false] at hp; rcases hp with rfl | rfl | rfl | rfl | rfl | rfl | rfl | rfl | rfl | rfl | rfl | rfl | rfl <;> first | exact absurd rfl hne | exact ⟨rfl, rfl⟩
        · refine ⟨_, rfl, ?_⟩
          refine A.u (LU.lits Try.underlying22 Try.sizeOf31 Try.zeroValue31 (ones rfl) rfl (by decide) (by decide) Elems.nil (by intro e he; cases he) rfl) rfl ?_
          refine ⟨⟨p2, q2, r2, p5, q5, r5⟩, Weaker.mk' ?_ (HSub.refl _)⟩
          refine env_back0 (envS_hit (sl := [(0, 19), (1, 20), (2, 21), (3, 22), (4, 23), (5, 24), (6, 25), (7, 26), (8, 27), (9, 28), (10, 29), (11, 7), (12, 8)]) (j := 3) (d := 22) rfl (fun _ _ h => h))  (envS_next ?_)
          · intro p hp hne; simp only [List.mem_cons, List.not_mem_nil, or_false] at hp; rcases hp with rfl | rfl | rfl | rfl | rfl | rfl | rfl | rfl | rfl | rfl | rfl | rfl | rfl <;> first | exact absurd rfl hne | exact ⟨rfl, rfl⟩
        · refine ⟨_, rfl, ?_⟩
          refine A.u (LU.moveS Is.rfl') rfl ?_
          refine ⟨⟨p2, q2, r2, p5, q5, r5⟩, Weaker.mk' ?_ (HSub.refl _)⟩
          refine env_back0 (envS_hit (sl := [(0, 19), (1, 20), (2, 21), (3, 22), (4, 23), (5, 24), (6, 25), (7, 26), (8, 27), (9, 28), (10, 29), (11, 7), (12, 8)]) (j := 4) (d := 23) rfl (fun _ _ h => h))  (envS_next ?_)
          · intro p hp hne; simp only [List.mem_cons, List.not_mem_nil, or_false] at hp; rcases hp with rfl | rfl | rfl | rfl | rfl | rfl | rfl | rfl | rfl | rfl | rfl | rfl | rfl <;> first | exact absurd rfl hne | exact ⟨rfl, rfl⟩
        · have d2 := hdir 2 (List.mem_of_elem_eq_true (by kernel_rfl))
          have d3 := hdir 3 (List.mem_of_elem_eq_true (by kernel_rfl))
          have d4 := hdir 4 (List.mem_of_elem_eq_true (by kernel_rfl))
          refine ⟨_, rfl, ?_⟩
          have h8 : f 8 = false := Bool.eq_false_iff.2 (fun h => by rw [hdown 8 (by omega) h 5 (List.mem_of_elem_eq_true (by kernel_rfl))] at hfi; cases hfi)
          refine LP.weak (t := 22) (v := .sl 5 [] .full) (envS_is (j := 3) rfl d3) ?_
          refine LP.weak (t := 23) (v := Rls l k) (envS_is (j := 4) rfl d4) ?_
          refine A.act (X.appendF rfl Try.underlying22 (El.of (P := Try.prog) (z := (.agg #[(.string ByteArray.empty), (.string ByteArray.empty), (.string ByteArray.empty), (.int .i64 0), (.bool false)])) (size := 5) (bytes := 64) rfl rfl rfl) Is.rfl' Is.rfl' (SrcL.slice Try.underlying22 (by decide) (by simp)) (by simp only [Option.getD_some, Option.getD_none, byteEls_length, intEls_length, List.length_append, List.length_cons, List.length_nil, List.length_map, List.length_drop, List.length_take, Int.toNat_natCast]; omega) (by simp only [Option.getD_some, Option.getD_none, byteEls_length, intEls_length, List.length_append, List.length_cons, List.length_nil, List.length_map, List.length_drop, List.length_take, Int.toNat_natCast]; omega) (fun b24 o24 c24 => ?_))
          refine ⟨(b24, o24, c24, p5, q5, r5), Weaker.mk' ?_ (by show HSub _ (cond (f 8) _ _ :: _); rw [h8]; exact HSub.cons (HSub.drop (HSub.refl _)))⟩
          refine env_back2 (envS_hit (sl := [(0, 19), (1, 20), (2, 21), (3, 22), (4, 23), (5, 24), (6, 25), (7, 26), (8, 27), (9, 28), (10, 29), (11, 7), (12, 8)]) (j := 5) (d := 24) rfl (fun _ _ h => h)) (envS_hit (sl := [(0, 19), (1, 20), (2, 21), (3, 22), (4, 23), (5, 24), (6, 25), (7, 26), (8, 27), (9, 28), (10, 29), (11, 7), (12, 8)]) (j := 4) (d := 23) rfl (fun _ _ h => h)) (envS_hit (sl := [(0, 19), (1, 20), (2, 21), (3, 22), (4, 23), (5, 24), (6, 25), (7, 26), (8, 27), (9, 28), (10, 29), (11, 7), (12, 8)]) (j := 3) (d := 22) rfl (fun _ _ h => h)) (envS_next ?_)
          · intro p hp hne; simp only [List.mem_cons, List.not_mem_nil, or_false] at hp; rcases hp with rfl | rfl | rfl | rfl | rfl | rfl | rfl | rfl | rfl | rfl | rfl | rfl | rfl <;> first | exact absurd rfl hne | exact ⟨rfl, rfl⟩
        · refine ⟨_, rfl, ?_⟩
          refine A.u (LU.loadO 2 rfl ⟨Try.sizeOf31, Try.isAgg31⟩ Is.rfl' (Part.whole (by (simp; done)))) rfl ?_
          refine ⟨⟨p2, q2, r2, p5, q5, r5⟩, Weaker.mk' ?_ (HSub.refl _)⟩
          refine env_back0 (envS_hit (sl := [(0, 19), (1, 20), (2, 21), (3, 22), (4, 23), (5, 24), (6, 25), (7, 26), (8, 27), (9, 28), (10, 29), (11, 7), (12, 8)]) (j := 6) (d := 25) rfl (fun _ _ h => h))  (envS_next ?_)
          · intro p hp hne; simp only [List.mem_cons, List.not_mem_nil, or_false] at hp; rcases hp with rfl | rfl | rfl | rfl | rfl | rfl | rfl | rfl | rfl | rfl | rfl | rfl | rfl <;> first | exact absurd rfl hne | exact ⟨rfl, rfl⟩
        · have d6 := hdir 6 (List.mem_of_elem_eq_true (by kernel_rfl))
          refine ⟨_, rfl, ?_⟩
          refine LP.weak (t := 25) (v := .agg (rL r)) (envS_is (j := 6) rfl d6) ?_
          refine A.u (LU.lits Try.underlying22 Try.sizeOf31 Try.zeroValue31 (ones rfl) rfl (by decide) (by decide) (Elems.cons Is.rfl' (by exact Cells.agg) Elems.nil) (by simp) rfl) rfl ?_
          refine ⟨⟨p2, q2, r2, p5, q5, r5⟩, Weaker.mk' ?_ (HSub.refl _)⟩
          refine env_back1 (envS_hit (sl := [(0, 19), (1, 20), (2, 21), (3, 22), (4, 23), (5, 24), (6, 25), (7, 26), (8, 27), (9, 28), (10, 29), (11, 7), (12, 8)]) (j := 7) (d := 26) rfl (fun _ _ h => h)) (envS_hit (sl := [(0, 19), (1, 20), (2, 21), (3, 22), (4, 23), (5, 24), (6, 25), (7, 26), (8, 27), (9, 28), (10, 29), (11, 7), (12, 8)]) (j := 6) (d := 25) rfl (fun _ _ h => h)) (envS_next ?_)
          · intro p hp hne; simp only [List.mem_cons, List.not_mem_nil, or_false] at hp; rcases hp with rfl | rfl | rfl | rfl | rfl | rfl | rfl | rfl | rfl | rfl | rfl | rfl | rfl <;> first | exact absurd rfl hne | exact ⟨rfl, rfl⟩
        · have d5 := hdir 5 (List.mem_of_elem_eq_true (by kernel_rfl))
          have d7 := hdir 7 (List.mem_of_elem_eq_true (by kernel_rfl))
          refine ⟨_, rfl, ?_⟩
          refine LP.ghost (H' := .tail p2 q2 r2 :: .cells b5 27 (aL a) :: .cells b4 31 (rL r) :: Rf) (by rw [hfi]; exact HSub.refl _) ?_
          refine LP.weak (t := 24) (v := Rls l (.tok p2 q2 r2)) (envS_is (j := 5) rfl d5) ?_
          refine LP.weak (t := 26) (v := Rls [r] .full) (envS_is (j := 7) rfl d7) ?_
          refine A.act (X.append 0 rfl rfl Try.underlying22 (El.of (P := Try.prog) (z := (.agg #[(.string ByteArray.empty), (.string ByteArray.empty), (.string ByteArray.empty), (.int .i64 0), (.bool false)])) (size := 5) (bytes := 64) rfl rfl rfl) Is.rfl' Is.rfl' (SrcL.slice Try.underlying22 (by decide) (by (intro e he; simp [chunks] at he; simp [he]; done))) (by simp only [Option.getD_some, Option.getD_none, byteEls_length, intEls_length, List.length_append, List.length_cons, List.length_nil, List.length_map, List.length_drop, List.length_take, Int.toNat_natCast]; omega) (by simp only [Option.getD_some, Option.getD_none, byteEls_length, intEls_length, List.length_append, List.length_cons, List.length_nil, List.length_map, List.length_drop, List.length_take, Int.toNat_natCast]; omega) (fun b27 o27 c27 => ?_))
          refine ⟨(p2, q2, r2, b27, o27, c27), Weaker.mk' ?_ (HSub.refl _)⟩
          refine env_back2 (envS_hit (sl := [(0, 19), (1, 20), (2, 21), (3, 22), (4, 23), (5, 24), (6, 25), (7, 26), (8, 27), (9, 28), (10, 29), (11, 7), (12, 8)]) (j := 8) (d := 27) rfl (Is.of (congrArg (fun z => LV.sl 5 z (.tok b27 o27 c27)) (rEls_snoc l r)))) (envS_hit (sl := [(0, 19), (1, 20), (2, 21), (3, 22), (4, 23), (5, 24), (6, 25), (7, 26), (8, 27), (9, 28), (10, 29), (11, 7), (12, 8)]) (j := 7) (d := 26) rfl (fun _ _ h => h)) (envS_hit (sl := [(0, 19), (1, 20), (2, 21), (3, 22), (4, 23), (5, 24), (6, 25), (7, 26), (8, 27), (9, 28), (10, 29), (11, 7), (12, 8)]) (j := 5) (d := 24) rfl (fun _ _ h => h)) (envS_next ?_)
          · intro p hp hne; simp only [List.mem_cons, List.not_mem_nil, or_false] at hp; rcases hp with rfl | rfl | rfl | rfl | rfl | rfl | rfl | rfl | rfl | rfl | rfl | rfl | rfl <;> first | exact absurd rfl hne | exact ⟨rfl, rfl⟩
        · refine ⟨_, rfl, ?_⟩
          refine A.u (LU.loadO 1 rfl ⟨Try.sizeOf27, Try.isAgg27⟩ Is.rfl' (Part.whole (by (simp; done)))) rfl ?_
          refine ⟨⟨p2, q2, r2, p5, q5, r5⟩, Weaker.mk' ?_ (HSub.refl _)⟩
          refine env_back0 (envS_hit (sl := [(0, 19), (1, 20), (2, 21), (3, 22), (4, 23), (5, 24), (6, 25), (7, 26), (8, 27), (9, 28), (10, 29), (11, 7), (12, 8)]) (j := 9) (d := 28) rfl (fun _ _ h => h))  (envS_next ?_)
          · intro p hp hne; simp only [List.mem_cons, List.not_mem_nil, or_false] at hp; rcases hp with rfl | rfl | rfl | rfl | rfl | rfl | rfl | rfl | rfl | rfl | rfl | rfl | rfl <;> first | exact absurd rfl hne | exact ⟨rfl, rfl⟩
        · have d8 := hdir 8 (List.mem_of_elem_eq_true (by kernel_rfl))
          have d9 := hdir 9 (List.mem_of_elem_eq_true (by kernel_rfl))
          refine ⟨_, rfl, ?_⟩
          refine LP.weak (t := 27) (v := Rls (l ++ [r]) (.tok p5 q5 r5)) (envS_is (j := 8) rfl d8) ?_
          refine LP.weak (t := 28) (v := .agg (aL a)) (envS_is (j := 9) rfl d9) ?_
          refine A.u (LU.call (dec_calls (l ++ [r]) _ a hl1 hs) Try.func20 rfl rfl (Opds.cons Is.rfl' (Opds.cons Is.rfl' Opds.nil))) rfl ?_
          refine ⟨⟨p2, q2, r2, p5, q5, r5⟩, Weaker.mk' ?_ (HSub.refl _)⟩
          refine env_back2 (envS_hit (sl := [(0, 19), (1, 20), (2, 21), (3, 22), (4, 23), (5, 24), (6, 25), (7, 26), (8, 27), (9, 28), (10, 29), (11, 7), (12, 8)]) (j := 10) (d := 29) rfl (fun _ _ h => h)) (envS_hit (sl := [(0, 19), (1, 20), (2, 21), (3, 22), (4, 23), (5, 24), (6, 25), (7, 26), (8, 27), (9, 28), (10, 29), (11, 7), (12, 8)]) (j := 9) (d := 28) rfl (fun _ _ h => h)) (envS_hit (sl := [(0, 19), (1, 20), (2, 21), (3, 22), (4, 23), (5, 24), (6, 25), (7, 26), (8, 27), (9, 28), (10, 29), (11, 7), (12, 8)]) (j := 8) (d := 27) rfl (fun _ _ h => h)) (envS_next ?_)
          · intro p hp hne; simp only [List.mem_cons, List.not_mem_nil, or_false] at hp; rcases hp with rfl | rfl | rfl | rfl | rfl | rfl | rfl | rfl | rfl | rfl | rfl | rfl | rfl <;> first | exact absurd rfl hne | exact ⟨rfl, rfl⟩
        · have d0 := hdir 0 (List.mem_of_elem_eq_true (by kernel_rfl))
          have d1 := hdir 1 (List.mem_of_elem_eq_true (by kernel_rfl))
          have d2 := hdir 2 (List.mem_of_elem_eq_true (by kernel_rfl))
          have d10 := hdir 10 (List.mem_of_elem_eq_true (by kernel_rfl))
          refine ⟨_, rfl, ?_⟩
          refine LP.weak (t := 21) (v := bl (decideB l a.s a.ch a.p a.right)) (envS_is (j := 2) rfl d2) ?_
          refine A.u (LU.assignR Is.rfl') rfl ?_
          refine ⟨⟨p2, q2, r2, p5, q5, r5⟩, Weaker.mk' ?_ (HSub.refl _)⟩
          refine env_back1 (envS_hit (sl := [(0, 19), (1, 20), (2, 21), (3, 22), (4, 23), (5, 24), (6, 25), (7, 26), (8, 27), (9, 28), (10, 29), (11, 7), (12, 8)]) (j := 11) (d := 7) rfl (fun _ _ h => h)) (envS_hit (sl := [(0, 19), (1, 20), (2, 21), (3, 22), (4, 23), (5, 24), (6, 25), (7, 26), (8, 27), (9, 28), (10, 29), (11, 7), (12, 8)]) (j := 2) (d := 21) rfl (fun _ _ h => h)) (envS_next ?_)
          · intro p hp hne; simp only [List.mem_cons, List.not_mem_nil, or_false] at hp; rcases hp with rfl | rfl | rfl | rfl | rfl | rfl | rfl | rfl | rfl | rfl | rfl | rfl | rfl <;> first | exact absurd rfl hne | exact ⟨rfl, rfl⟩
        · have d0 := hdir 0 (List.mem_of_elem_eq_true (by kernel_rfl))
          have d1 := hdir 1 (List.mem_of_elem_eq_true (by kernel_rfl))
          have d2 := hdir 2 (List.mem_of_elem_eq_true (by kernel_rfl))
          have d3 := hdir 3 (List.mem_of_elem_eq_true (by kernel_rfl))
          have d4 := hdir 4 (List.mem_of_elem_eq_true (by kernel_rfl))
          have d5 := hdir 5 (List.mem_of_elem_eq_true (by kernel_rfl))
          have d6 := hdir 6 (List.mem_of_elem_eq_true (by kernel_rfl))
          have d7 := hdir 7 (List.mem_of_elem_eq_true (by kernel_rfl))
          have d8 := hdir 8 (List.mem_of_elem_eq_true (by kernel_rfl))
          have d9 := hdir 9 (List.mem_of_elem_eq_true (by kernel_rfl))
          have d10 := hdir 10 (List.mem_of_elem_eq_true (by kernel_rfl))
          have d11 := hdir 11 (List.mem_of_elem_eq_true (by kernel_rfl))
          refine ⟨_, rfl, ?_⟩
          refine LP.weak (t := 29) (v := bl (decideB (l ++ [r]) a.s a.ch a.p a.right)) (envS_is (j := 10) rfl d10) ?_
          refine A.u (LU.assignR Is.rfl') rfl ?_
          refine ⟨⟨p2, q2, r2, p5, q5, r5⟩, Weaker.mk' ?_ (HSub.refl _)⟩
          refine env_back1 (envS_hit (sl := [(0, 19), (1, 20), (2, 21), (3, 22), (4, 23), (5, 24), (6, 25), (7, 26), (8, 27), (9, 28), (10, 29), (11, 7), (12, 8)]) (j := 12) (d := 8) rfl (fun _ _ h => h)) (envS_hit (sl := [(0, 19), (1, 20), (2, 21), (3, 22), (4, 23), (5, 24), (6, 25), (7, 26), (8, 27), (9, 28), (10, 29), (11, 7), (12, 8)]) (j := 10) (d := 29) rfl (fun _ _ h => h)) (envS_next ?_)
          · intro p hp hne; simp only [List.mem_cons, List.not_mem_nil, or_false] at hp; rcases hp with rfl | rfl | rfl | rfl | rfl | rfl | rfl | rfl | rfl | rfl | rfl | rfl | rfl <;> first | exact absurd rfl hne | exact ⟨rfl, rfl⟩
      · intro g
        obtain ⟨p2, q2, r2, p5, q5, r5⟩ := g
        refine after_code ?_
        refine LW.seq ?_
        refine LW.region ?_
        refine X.u (LU.moveR Is.rfl') rfl ?_
        refine X.u (LU.not Is.rfl') rfl ?_
        refine X.u (LU.moveR Is.rfl') rfl ?_
        refine X.gF rfl rfl (fun hg => LU.moveR (by exact Is.rfl')) rfl ?_
        refine X.u (LU.pickOr Is.rfl' Is.rfl' (fun hq => (by exact Is.whenN hq))) rfl ?_
        refine X.u (LU.moveR Is.rfl') rfl ?_
        refine X.gF rfl rfl (fun hg => LU.fieldO Try.underlying31 rfl Try.sizeOf4 (by decide) (by exact Is.rfl')) rfl ?_
        refine X.gF rfl rfl (fun hg => LU.loadO 2 rfl ⟨Try.sizeOf4, Try.isAgg4⟩ (by exact Is.whenN hg) (Part.one rfl)) rfl ?_
        refine X.u (LU.pickOr Is.rfl' Is.rfl' (fun hq => (by exact Is.whenN hq))) rfl ?_
        refine X.u (LU.moveR Is.rfl') rfl ?_
        refine X.gT rfl rfl (fun hg => LU.moveR (by exact Is.rfl')) rfl ?_
        refine X.gT rfl rfl (fun hg => LU.moveR (by exact Is.whenE hg)) rfl ?_
        refine X.gF2 rfl rfl (fun hg0 hg => LU.moveR (by exact Is.rfl')) rfl ?_
        refine X.gF2 rfl rfl (fun hg0 hg => LU.not (by exact Is.whenE (by rw [hg0, hg]; rfl))) rfl ?_
        refine X.gT rfl rfl (fun hg => LU.pickOr (by exact Is.whenE hg) (by exact Is.rfl') (fun hq => (by exact Is.whenE (by rw [hg, hq]; rfl)))) rfl ?_
        refine X.gT rfl rfl (fun hg => LU.moveR (by exact Is.whenE hg)) rfl ?_
        refine X.gF2 rfl rfl (fun hg0 hg => LU.fieldO Try.underlying31 rfl Try.sizeOf4 (by decide) (by exact Is.rfl')) rfl ?_
        refine X.gF2 rfl rfl (fun hg0 hg => LU.loadO 2 rfl ⟨Try.sizeOf4, Try.isAgg4⟩ (by exact Is.whenE (by rw [hg0, hg]; rfl)) (Part.one rfl)) rfl ?_
        refine X.gF2 rfl rfl (fun hg0 hg => LU.not (by exact Is.whenE (by rw [hg0, hg]; rfl))) rfl ?_
        refine X.gT rfl rfl (fun hg => LU.pickOr (by exact Is.whenE hg) (by exact Is.rfl') (fun hq => (by exact Is.whenE (by rw [hg, hq]; rfl)))) rfl ?_
        refine X.u (LU.pickAnd Is.rfl' (fun hq => (by exact Is.whenE hq)) Is.rfl') rfl ?_
        refine X.u (LU.moveR Is.rfl') rfl ?_
        refine X.gT rfl rfl (fun hg => LU.call (lives_calls) Try.func15 rfl rfl Opds.nil) rfl ?_
        refine X.u (LU.pickAnd Is.rfl' (fun hq => (by exact Is.whenE hq)) Is.rfl') rfl ?_
        refine X.u (LU.assignR Is.rfl') rfl ?_
        refine LL.nil (after_code ?_)
        refine LW.ret (after_end ?_)
        refine X.ret (H' := []) (Res.one (by exact IsR rfl)) (by repeat (first | exact HSub.refl _ | refine HSub.pick 0 rfl ?_ | refine HSub.pick 1 rfl ?_ | refine HSub.pick 2 rfl ?_ | refine HSub.pick 3 rfl ?_ | refine HSub.pick 4 rfl ?_ | refine HSub.drop ?_)) ?_
        rw [hlaw]; rfl
theorem AclMonotone_row (es : List (List LV)) (rc ac : List LV) (hq : ∀ c ∈ es, QRule c) (hb : es.length * 64 ≤ reachBytes) (hr : QRule rc) (ha : QAsk ac) : LCalls Try.prog 4 [.sl 5 es .unk, .agg rc, .agg ac] [] (fun r _ => r = .raw (.bool true)) := by
  obtain ⟨l, rfl, hl⟩ := rules_of es hq
  obtain ⟨r, rfl, hro⟩ := rule_of hr
  obtain ⟨a, rfl, hs, _⟩ := ask_of ha
  exact am_calls l .unk r a hl (by simpa using hb) hro hs
end Go.Proofs.Ythifbkddfjohbaa
