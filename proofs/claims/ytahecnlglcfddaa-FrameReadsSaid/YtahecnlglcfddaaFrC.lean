/- The frames that bytes begin with, gone through. -/
import Derived.Test.YtahecnlglcfddaaFrB
import Derived.Test.YtahecnlglcfddaaLogY
set_option linter.unusedVariables false
set_option linter.unusedSimpArgs false
namespace Go.Proofs.Ytahecnlglcfddaa
open Go.RowKit Go.L
attribute [local irreducible] LL LW LO LP LA
abbrev ptr (g : Nat) : Value := .pointer (some ⟨g, 0, none⟩)
/-- The places at which whole frames begin, and how long each is. -/
abbrev plc (l : List (Nat × List UInt8)) : List (List LV) := l.map fun y => [i64 (y.1 : Nat), i64 ((y.2.length + 12 : Nat) : Int)]
theorem drop_get' {α : Type} {l : List α} {k : Nat} {x : α} {t : List α} (h : l.drop k = x :: t) : l[k]? = some x ∧ l.drop (k + 1) = t := by
  have h1 : l[k]? = some x := by
    have := List.getElem?_drop (xs := l) (i := k) (j := 0)
    rw [h] at this
    simpa using this.symm
  exact ⟨h1, by rw [← List.drop_drop, h]; rfl⟩
theorem drop_end' {α : Type} {l : List α} {k : Nat} (h : k ≤ l.length) (hd : l.drop k = []) : k = l.length := by
  have h2 := List.drop_eq_nil_iff.1 hd
  omega
set_option maxRecDepth 100000 in
theorem places_iter (l : List UInt8) (c : Cap) (hl : l.length < 1099511627776) (g : Nat) : LIter Try.prog 45 #[ptr g] (plc (frs 0 l)) [.cells g 22 [Bytes l c]] [.cells g 22 [Bytes l c]] := by
  intro α β F G φ ψ yv hy p0 hp0
  refine LCalls.of Try.func45 rfl Try.ntmps45 Try.results45 rfl (fun Rf => ?_)
  refine LW.seq ?_
  refine LW.region ?_
  refine X.u (LU.assignR Is.rfl') rfl ?_
  refine LL.nil (after_code ?_)
  refine LW.block ?_
  refine X.loopK (α := Nat × α × Nat) (fun ⟨k, p, a⟩ => [(3, i64 a)]) [0, 1] (fun ⟨k, p, a⟩ => .cells g 22 [Bytes l c] :: (F p ++ Rf)) (fun ⟨k, p, a⟩ => φ k p ∧ k ≤ (frs 0 l).length ∧ (frs 0 l).drop k = frs a (l.drop a) ∧ a ≤ l.length) (fun ⟨k, p, a⟩ => l.length - a) (⟨0, p0, 0⟩) (EnvLe.cons (by rfl) (EnvLe.nil)) (by repeat (exact HSub.refl _)) ?_ ?_
  · exact ⟨hp0, Nat.zero_le _, rfl, Nat.zero_le _⟩
  · rintro ⟨k, p, a⟩ hI
    obtain ⟨hp, hk, hd, ha⟩ := hI
    have hdl : (l.drop a).length = l.length - a := by simp
    obtain ⟨u, hu⟩ : ∃ u, u = unfr (l.drop a) := ⟨_, rfl⟩
    have hcall := unfr_calls (l.drop a) .unk (by omega)
    rw [← hu] at hcall
    rcases Nat.eq_zero_or_pos u.2.2 with he | he
    have hok := unfr_pos (show (unfr (l.drop a)).2.2 = 0 by rw [← hu]; exact he)
    have hok2 := (unfr_ok (l.drop a) (by rw [← hu]; exact he)).1
    rw [frs_ok (at_ := a) (l := l.drop a) (by rw [← hu]; exact he), ← hu] at hd
    rw [← hu] at hok hok2
    obtain ⟨hx, hd⟩ := drop_get' hd
    have hxp : (plc (frs 0 l))[k]? = some [i64 (a : Nat), i64 (u.2.1 : Nat)] := by rw [List.getElem?_map, hx, hok2]; rfl
    have hkl := (List.getElem?_eq_some_iff.1 hx).1
    · refine LW.block ?_
      refine LW.seq ?_
      refine LW.region ?_
      refine X.u (LU.loadO 0 rfl ⟨Try.sizeOf22, Try.isAgg22⟩ Is.rfl' (Part.one rfl)) rfl ?_
      refine X.u (LU.moveR Is.rfl') rfl ?_
      refine X.u (LU.sliceB (i := some ((a : Nat) : Int)) (j := none) Try.sizeOf5 Try.underlying22 Is.rfl' ⟨_, Is.rfl'⟩ trivial (by simp only [Option.getD_some]; omega) (by simp only [Option.getD_some, Option.getD_none]; omega) (by simp) (m := l.drop a) (by simp only [Option.getD_some, Option.getD_none, Int.toNat_natCast]; rw [List.take_of_length_le (by simp)])) rfl ?_
      refine X.u (LU.call (hcall) Try.func24 rfl rfl (Opds.cons Is.rfl' Opds.nil)) rfl ?_
      refine X.u (LU.moveT Is.rfl') rfl ?_
      refine X.u (LU.extract Is.rfl' rfl) rfl ?_
      refine X.u (LU.extract Is.rfl' rfl) rfl ?_
      refine X.u (LU.extract Is.rfl' rfl) rfl ?_
      refine X.u (LU.assignS Is.rfl') rfl ?_
      refine X.u (LU.assignR Is.rfl') rfl ?_
      refine X.u (LU.assignR Is.rfl') rfl ?_
      refine LL.nil (after_code ?_)
      refine LW.seq ?_
      refine LW.seq ?_
      refine LW.region ?_
      refine X.u (LU.moveR Is.rfl') rfl ?_
      refine X.u (LU.weak (LU.neq Is.rfl' Is.rfl') (asB (c := false) rfl (by rw [he]; try rfl))) rfl ?_
      refine X.u (LU.moveR Is.rfl') rfl ?_
      refine X.doF rfl rfl (LU.moveR (by exact Is.rfl')) rfl ?_
      refine X.doF rfl rfl (LU.moveR (by exact Is.rfl')) rfl ?_
      refine X.doF rfl rfl (LU.moveR (by exact Is.rfl')) rfl ?_
      refine X.actG rfl rfl (X.yield (hy k p _ hxp hp) (by exact Is.rfl') rfl (hsub_swap1 _ _ _) (Opds.cons (by exact Is.rfl') (Opds.cons (by exact Is.rfl') Opds.nil)) ?_)
      rintro r H' (⟨q, rfl, hq, rfl⟩ | ⟨q, rfl, hq, rfl⟩)
      · refine X.doF rfl rfl (LU.not (by exact Is.rfl')) rfl ?_
        refine X.u (LU.pickF Is.rfl' (by exact Is.rfl')) rfl ?_
        refine LL.nil (after_code ?_)
        refine X.condF rfl ?_ ?_
        · rfl
        refine LW.skip (after_code ?_)
        refine LW.region ?_
        refine X.u (LU.moveR Is.rfl') rfl ?_
        refine X.u (LU.moveR Is.rfl') rfl ?_
        refine X.u (LU.addN Is.rfl' Is.rfl' (wrap_i64 (by omega) (by omega))) rfl ?_
        refine X.u (LU.assignR Is.rfl') rfl ?_
        refine LL.nil (after_blk (after_rnd ?_))
        refine X.nghost (hsub_back1 _ _ _) ?_
        refine X.next (⟨k + 1, q, a + u.2.1⟩) rfl (EnvLe.cons (by rfl) (EnvLe.nil)) (Keeps.cons (by exact Eq.trans (b := .raw _) rfl rfl) (Keeps.cons (by exact Eq.trans (b := .raw _) rfl rfl) (Keeps.nil))) (by repeat (exact HSub.refl _)) ?_ ?_
        · exact ⟨hq, hkl, by rw [hd, List.drop_drop]; try (congr 1 <;> omega), by omega⟩
        · (simp; omega)
      · refine X.doF rfl rfl (LU.not (by exact Is.rfl')) rfl ?_
        refine X.u (LU.pickF Is.rfl' (by exact Is.rfl')) rfl ?_
        refine LL.nil (after_code ?_)
        refine X.condT rfl ?_ ?_
        · rfl
        refine LW.ret (ret_code (ret_blk (ret_rnd (ret_blk (after_end ?_)))))
        refine X.ret (H' := [.cells g 22 [Bytes l c]] ++ G q) Res.none (hsub_back1 _ _ _) ?_
        exact .inr ⟨q, hq, rfl⟩
    · refine LW.block ?_
      refine LW.seq ?_
      refine LW.region ?_
      refine X.u (LU.loadO 0 rfl ⟨Try.sizeOf22, Try.isAgg22⟩ Is.rfl' (Part.one rfl)) rfl ?_
      refine X.u (LU.moveR Is.rfl') rfl ?_
      refine X.u (LU.sliceB (i := some ((a : Nat) : Int)) (j := none) Try.sizeOf5 Try.underlying22 Is.rfl' ⟨_, Is.rfl'⟩ trivial (by simp only [Option.getD_some]; omega) (by simp only [Option.getD_some, Option.getD_none]; omega) (by simp) (m := l.drop a) (by simp only [Option.getD_some, Option.getD_none, Int.toNat_natCast]; rw [List.take_of_length_le (by simp)])) rfl ?_
      refine X.u (LU.call (hcall) Try.func24 rfl rfl (Opds.cons Is.rfl' Opds.nil)) rfl ?_
      refine X.u (LU.moveT Is.rfl') rfl ?_
      refine X.u (LU.extract Is.rfl' rfl) rfl ?_
      refine X.u (LU.extract Is.rfl' rfl) rfl ?_
      refine X.u (LU.extract Is.rfl' rfl) rfl ?_
      refine X.u (LU.assignS Is.rfl') rfl ?_
      refine X.u (LU.assignR Is.rfl') rfl ?_
      refine X.u (LU.assignR Is.rfl') rfl ?_
      refine LL.nil (after_code ?_)
      refine LW.seq ?_
      refine LW.seq ?_
      refine LW.region ?_
      refine X.u (LU.moveR Is.rfl') rfl ?_
      refine X.u (LU.weak (LU.neq Is.rfl' Is.rfl') (asB (c := true) rfl (by have hne : u.2.2 ≠ 0 := Nat.pos_iff_ne_zero.1 he; simp [hne]))) rfl ?_
      refine X.u (LU.moveR Is.rfl') rfl ?_
      refine X.skipF rfl rfl rfl ?_
      refine X.skipF rfl rfl rfl ?_
      refine X.skipF rfl rfl rfl ?_
      refine X.skipF rfl rfl rfl ?_
      refine X.skipF rfl rfl rfl ?_
      refine X.u (LU.pickT Is.rfl' (by exact Is.rfl')) rfl ?_
      refine LL.nil (after_code ?_)
      refine X.condT rfl ?_ ?_
      · rfl
      refine LW.ret (ret_code (ret_blk (ret_rnd (ret_blk (after_end ?_)))))
      refine X.ret (H' := [.cells g 22 [Bytes l c]] ++ F p) Res.none (HSub.refl _) ?_
      rw [frs_bad (at_ := a) (l := l.drop a) (by rw [← hu]; omega)] at hd
      exact .inl ⟨p, by rw [List.length_map, ← drop_end' hk hd]; exact hp, rfl⟩
abbrev placesF (b : Nat) : LV := .raw (.func (.func 45) #[] #[ptr b])
set_option maxRecDepth 100000 in
theorem places_calls (l : List UInt8) (k : Cap) : LCalls Try.prog 44 [Bytes l k] [] (fun r H' => ∃ b, r = placesF b ∧ H' = [.cells b 22 [Bytes l k]]) := by
  refine LCalls.of Try.func44 rfl Try.ntmps44 Try.results44 rfl (fun Rf => ?_)
  refine LW.seq ?_
  refine LW.region ?_
  refine X.act (X.box rfl Is.rfl' (by exact Cells.sl) (fun b1 => ?_))
  refine X.u (LU.assignR Is.rfl') rfl ?_
  refine LL.nil (after_code ?_)
  refine LW.seq ?_
  refine LW.region ?_
  refine X.u (LU.closure (vs := [_]) (Opds.cons Is.rfl' Opds.nil)) rfl ?_
  refine X.u (LU.assignR Is.rfl') rfl ?_
  refine LL.nil (after_code ?_)
  refine LW.ret (after_end ?_)
  refine X.ret (H' := [.cells b1 22 [Bytes l k]]) (Res.one (by exact IsR rfl)) (by repeat (exact HSub.refl _)) ?_
  exact ⟨b1, rfl, rfl⟩
theorem frs_get : ∀ (n : Nat) (a : Nat) (l : List UInt8) (k : Nat) (y : Nat × List UInt8), l.length ≤ n → (frs a l)[k]? = some y → a ≤ y.1 ∧ y.1 - a + y.2.length + 12 ≤ l.length ∧ y.2 = (l.drop (y.1 - a + 8)).take y.2.length
  | n, a, l, k, y, hn, h => by
    by_cases he : (unfr l).2.2 = 0
    · have hp := unfr_pos he
      obtain ⟨h1, h2, h3, _⟩ := unfr_ok l he
      rw [frs_ok he] at h
      cases k with
      | zero =>
        simp only [List.getElem?_cons_zero, Option.some_inj] at h
        subst h
        refine ⟨Nat.le_refl _, by simp; omega, ?_⟩
        simp only [Nat.sub_self, Nat.zero_add]
        exact h3
      | succ k =>
        cases n with
        | zero => omega
        | succ n =>
          rw [List.getElem?_cons_succ] at h
          obtain ⟨g1, g2, g3⟩ := frs_get n _ _ k y (by simp; omega) h
          simp only [List.length_drop] at g2
          refine ⟨by omega, by omega, ?_⟩
          rw [List.drop_drop] at g3
          rw [show y.1 - a + 8 = (unfr l).2.1 + (y.1 - (a + (unfr l).2.1) + 8) by omega]
          exact g3
    · rw [frs_bad he] at h
      simp at h
theorem frs_len' : ∀ (n a : Nat) (l : List UInt8), l.length ≤ n → (frs a l).length ≤ l.length
  | n, a, l, hn => by
    by_cases he : (unfr l).2.2 = 0
    · have hp := unfr_pos he
      rw [frs_ok he]
      cases n with
      | zero => omega
      | succ n =>
        have := frs_len' n (a + (unfr l).2.1) (l.drop (unfr l).2.1) (by simp; omega)
        simp only [List.length_cons, List.length_drop] at this ⊢
        omega
    · rw [frs_bad he]; simp
theorem frs_len (l : List UInt8) (k : Nat) (h : k ≤ (frs 0 l).length) : k ≤ l.length := Nat.le_trans h (frs_len' l.length 0 l (Nat.le_refl _))
/-- What a frame that is handed out comes with. -/
def Jfr (y : Nat × List UInt8) (x : List LV) (Hx : List Atom) : Prop := ∃ b c rest, y.2.length ≤ c ∧ x = [i64 (y.1 : Nat), .raw (.slice (some ⟨b, 0, none⟩) y.2.length c)] ∧ Hx = [.cells b 5 (u8s y.2 ++ raws rest)]
structure Gh (n : Nat) where
  a : Nat
  b : Nat
  c : Nat
  r : List Value
  h : n ≤ c
set_option maxHeartbeats 2000000 in
set_option maxRecDepth 100000 in
theorem all_iter (b : List UInt8) (hb : b.length < 1099511627776) (gg : Nat) : LIterW Try.prog 43 #[ptr gg] (frs 0 b) Jfr [.cells gg 22 [Bytes b .unk]] [.cells gg 22 [Bytes b .unk]] := by
  intro α β F G φ ψ yv hone hy p0 hp0
  refine LCalls.of Try.func43 rfl Try.ntmps43 Try.results43 rfl (fun Rf => ?_)
  refine LW.seq ?_
  refine LW.region ?_
  refine X.act (X.box rfl Is.rfl' (Cells.raw hone) (fun b2 => ?_))
  refine LL.nil (after_code ?_)
  refine LW.seq ?_
  refine LW.region ?_
  refine X.u (LU.loadO 1 rfl ⟨Try.sizeOf22, Try.isAgg22⟩ Is.rfl' (Part.one rfl)) rfl ?_
  refine X.act (X.call (places_calls b .unk) Try.func44 rfl rfl rfl (HSub.refl _) (Opds.cons Is.rfl' Opds.nil) ?_)
  rintro r H' ⟨b6, rfl, rfl⟩
  refine LL.nil (after_code ?_)
  refine LW.block ?_
  refine X.range (items := plc (frs 0 b)) Is.rfl' Try.func45 rfl rfl (places_iter b .unk hb b6) rfl (by intro x hx; obtain ⟨y, _, rfl⟩ := List.mem_map.1 hx; rfl) (α := α) (β := β) (fun p => .cells b2 80 [.raw yv] :: .cells gg 22 [Bytes b .unk] :: F p) (fun (q) => .cells b2 80 [.raw yv] :: .cells gg 22 [Bytes b .unk] :: G q) (fun k p => φ k p) (fun c (q) => c = .ret ∧ (ψ q)) (p0) ?_ (by (refine HSub.pick 0 rfl ?_); (refine HSub.pick 0 rfl ?_); (refine HSub.pick 0 rfl ?_); exact HSub.refl _) ?_ ?_ ?_
  · exact hp0
  · rintro k p x hx hI R1
    rw [List.getElem?_map] at hx
    obtain ⟨y, hy1, rfl⟩ := Option.map_eq_some_iff.1 hx
    obtain ⟨_, hyl, hyd⟩ := frs_get b.length 0 b k y (Nat.le_refl _) hy1
    rw [Nat.sub_zero] at hyl hyd
    refine LW.seq ?_
    refine LW.region ?_
    refine X.u (LU.assignR Is.rfl') rfl ?_
    refine LL.nil (after_code ?_)
    refine LW.region ?_
    refine X.u (LU.assignR Is.rfl') rfl ?_
    refine LL.nil (after_end ?_)
    refine ⟨rfl, _, _, rfl, fun R2 => ?_⟩
    refine LW.block ?_
    refine LW.seq ?_
    refine LW.invM (m := 12) (γ := Gh y.2.length) [(0, 9), (1, 10), (2, 11), (3, 12), (4, 13), (5, 14), (6, 15), (7, 16), (8, 17), (9, 18), (10, 19), (11, 20)] (fun g d => match g with | ⟨ga, gb, gc, gr, gh⟩ => match d with | 9 => .raw yv | 10 => i64 (y.1 : Nat) | 11 => .raw (.slice (some ⟨ga, 0, none⟩) 0 0) | 12 => Bytes b .unk | 13 => i64 (y.1 : Nat) | 14 => i64 ((y.1 + 8 : Nat) : Int) | 15 => i64 (y.1 : Nat) | 16 => i64 ((y.2.length + 12 : Nat) : Int) | 17 => i64 ((y.1 + (y.2.length + 12) : Nat) : Int) | 18 => i64 ((y.1 + y.2.length + 8 : Nat) : Int) | 19 => Bytes y.2 .unk | 20 => .raw (.slice (some ⟨gb, 0, none⟩) y.2.length gc) | _ => .any) (fun g f => match g with | ⟨ga, gb, gc, gr, gh⟩ => cond (f 11) (.cells gb 5 (u8s y.2 ++ raws gr)) (cond (f 2) (.cells ga 5 []) (.tail 0 0 0)) :: .cells b2 80 [.raw yv] :: .cells gg 22 [Bytes b .unk] :: (F p ++ R2)) ⟨0, 0, y.2.length, [], Nat.le_refl _⟩ rfl (by kernel_rfl) rfl rfl (HSub.tail0 0 0 0 (Nat.le_refl _) _) ?_ ?_
    · intro i hi f g hfi hdir hdown
      obtain ⟨ga, gb, gc, gr, gh⟩ := g
      have hc : i = 0 ∨ i = 1 ∨ i = 2 ∨ i = 3 ∨ i = 4 ∨ i = 5 ∨ i = 6 ∨ i = 7 ∨ i = 8 ∨ i = 9 ∨ i = 10 ∨ i = 11 := by omega
      rcases hc with rfl | rfl | rfl | rfl | rfl | rfl | rfl | rfl | rfl | rfl | rfl | rfl
      · refine ⟨_, rfl, ?_⟩
        refine A.u (LU.loadO 1 rfl ⟨Try.sizeOf80, Try.isAgg80⟩ Is.rfl' (Part.one rfl)) rfl ?_
        refine ⟨⟨ga, gb, gc, gr, gh⟩, Weaker.mk' ?_ (HSub.refl _)⟩
        refine env_back0 (envS_hit (sl := [(0, 9), (1, 10), (2, 11), (3, 12), (4, 13), (5, 14), (6, 15), (7, 16), (8, 17), (9, 18), (10, 19), (11, 20)]) (j := 0) (d := 9) rfl (fun _ _ h => h))  (envS_next ?_)
        · intro p hp hne; simp only [List.mem_cons, List.not_mem_nil, or_false] at hp; rcases hp with rfl | rfl | rfl | rfl | rfl | rfl | rfl | rfl | rfl | rfl | rfl | rfl <;> first | exact absurd rfl hne | exact ⟨rfl, rfl⟩
      · refine ⟨_, rfl, ?_⟩
        refine A.u (LU.moveR Is.rfl') rfl ?_
        refine ⟨⟨ga, gb, gc, gr, gh⟩, Weaker.mk' ?_ (HSub.refl _)⟩
        refine env_back0 (envS_hit (sl := [(0, 9), (1, 10), (2, 11), (3, 12), (4, 13), (5, 14), (6, 15), (7, 16), (8, 17), (9, 18), (10, 19), (11, 20)]) (j := 1) (d := 10) rfl (fun _ _ h => h))  (envS_next ?_)
        · intro p hp hne; simp only [List.mem_cons, List.not_mem_nil, or_false] at hp; rcases hp with rfl | rfl | rfl | rfl | rfl | rfl | rfl | rfl | rfl | rfl | rfl | rfl <;> first | exact absurd rfl hne | exact ⟨rfl, rfl⟩
      · refine ⟨_, rfl, ?_⟩
        have h11 : f 11 = false := Bool.eq_false_iff.2 (fun h => by rw [hdown 11 (by omega) h 2 (List.mem_of_elem_eq_true (by kernel_rfl))] at hfi; cases hfi)
        refine A.act (X.litO rfl Try.underlying22 Try.sizeOf5 Try.zeroValue5 (ones rfl) rfl (by decide) (by decide) Elems.nil (by simp) rfl (fun b11 => ?_))
        refine ⟨⟨b11, gb, gc, gr, gh⟩, Weaker.mk' ?_ (by show HSub _ (cond (f 11) _ (cond true _ _) :: _); rw [h11]; exact HSub.cons (HSub.drop (HSub.refl _)))⟩
        refine env_back0 (envS_hit (sl := [(0, 9), (1, 10), (2, 11), (3, 12), (4, 13), (5, 14), (6, 15), (7, 16), (8, 17), (9, 18), (10, 19), (11, 20)]) (j := 2) (d := 11) rfl (fun _ _ h => h))  (envS_next ?_)
        · intro p hp hne; simp only [List.mem_cons, List.not_mem_nil, or_false] at hp; rcases hp with rfl | rfl | rfl | rfl | rfl | rfl | rfl | rfl | rfl | rfl | rfl | rfl <;> first | exact absurd rfl hne | exact ⟨rfl, rfl⟩
      · refine ⟨_, rfl, ?_⟩
        refine A.u (LU.loadO 2 rfl ⟨Try.sizeOf22, Try.isAgg22⟩ Is.rfl' (Part.one rfl)) rfl ?_
        refine ⟨⟨ga, gb, gc, gr, gh⟩, Weaker.mk' ?_ (HSub.refl _)⟩
        refine env_back0 (envS_hit (sl := [(0, 9), (1, 10), (2, 11), (3, 12), (4, 13), (5, 14), (6, 15), (7, 16), (8, 17), (9, 18), (10, 19), (11, 20)]) (j := 3) (d := 12) rfl (fun _ _ h => h))  (envS_next ?_)
        · intro p hp hne; simp only [List.mem_cons, List.not_mem_nil, or_false] at hp; rcases hp with rfl | rfl | rfl | rfl | rfl | rfl | rfl | rfl | rfl | rfl | rfl | rfl <;> first | exact absurd rfl hne | exact ⟨rfl, rfl⟩
      · refine ⟨_, rfl, ?_⟩
        refine A.u (LU.moveR Is.rfl') rfl ?_
        refine ⟨⟨ga, gb, gc, gr, gh⟩, Weaker.mk' ?_ (HSub.refl _)⟩
        refine env_back0 (envS_hit (sl := [(0, 9), (1, 10), (2, 11), (3, 12), (4, 13), (5, 14), (6, 15), (7, 16), (8, 17), (9, 18), (10, 19), (11, 20)]) (j := 4) (d := 13) rfl (fun _ _ h => h))  (envS_next ?_)
        · intro p hp hne; simp only [List.mem_cons, List.not_mem_nil, or_false] at hp; rcases hp with rfl | rfl | rfl | rfl | rfl | rfl | rfl | rfl | rfl | rfl | rfl | rfl <;> first | exact absurd rfl hne | exact ⟨rfl, rfl⟩
      · have d4 := hdir 4 (List.mem_of_elem_eq_true (by kernel_rfl))
        refine ⟨_, rfl, ?_⟩
        refine LP.weak (t := 13) (v := i64 (y.1 : Nat)) (envS_is (j := 4) rfl d4) ?_
        refine A.u (LU.weak (LU.addN Is.rfl' Is.rfl' (wrap_i64 (by omega) (by omega))) (Is.of (y := i64 ((y.1 + 8 : Nat) : Int)) (rfl))) rfl ?_
        refine ⟨⟨ga, gb, gc, gr, gh⟩, Weaker.mk' ?_ (HSub.refl _)⟩
        refine env_back1 (envS_hit (sl := [(0, 9), (1, 10), (2, 11), (3, 12), (4, 13), (5, 14), (6, 15), (7, 16), (8, 17), (9, 18), (10, 19), (11, 20)]) (j := 5) (d := 14) rfl (fun _ _ h => h)) (envS_hit (sl := [(0, 9), (1, 10), (2, 11), (3, 12), (4, 13), (5, 14), (6, 15), (7, 16), (8, 17), (9, 18), (10, 19), (11, 20)]) (j := 4) (d := 13) rfl (fun _ _ h => h)) (envS_next ?_)
        · intro p hp hne; simp only [List.mem_cons, List.not_mem_nil, or_false] at hp; rcases hp with rfl | rfl | rfl | rfl | rfl | rfl | rfl | rfl | rfl | rfl | rfl | rfl <;> first | exact absurd rfl hne | exact ⟨rfl, rfl⟩
      · refine ⟨_, rfl, ?_⟩
        refine A.u (LU.moveR Is.rfl') rfl ?_
        refine ⟨⟨ga, gb, gc, gr, gh⟩, Weaker.mk' ?_ (HSub.refl _)⟩
        refine env_back0 (envS_hit (sl := [(0, 9), (1, 10), (2, 11), (3, 12), (4, 13), (5, 14), (6, 15), (7, 16), (8, 17), (9, 18), (10, 19), (11, 20)]) (j := 6) (d := 15) rfl (fun _ _ h => h))  (envS_next ?_)
        · intro p hp hne; simp only [List.mem_cons, List.not_mem_nil, or_false] at hp; rcases hp with rfl | rfl | rfl | rfl | rfl | rfl | rfl | rfl | rfl | rfl | rfl | rfl <;> first | exact absurd rfl hne | exact ⟨rfl, rfl⟩
      · refine ⟨_, rfl, ?_⟩
        refine A.u (LU.moveR Is.rfl') rfl ?_
        refine ⟨⟨ga, gb, gc, gr, gh⟩, Weaker.mk' ?_ (HSub.refl _)⟩
        refine env_back0 (envS_hit (sl := [(0, 9), (1, 10), (2, 11), (3, 12), (4, 13), (5, 14), (6, 15), (7, 16), (8, 17), (9, 18), (10, 19), (11, 20)]) (j := 7) (d := 16) rfl (fun _ _ h => h))  (envS_next ?_)
        · intro p hp hne; simp only [List.mem_cons, List.not_mem_nil, or_false] at hp; rcases hp with rfl | rfl | rfl | rfl | rfl | rfl | rfl | rfl | rfl | rfl | rfl | rfl <;> first | exact absurd rfl hne | exact ⟨rfl, rfl⟩
      · have d6 := hdir 6 (List.mem_of_elem_eq_true (by kernel_rfl))
        have d7 := hdir 7 (List.mem_of_elem_eq_true (by kernel_rfl))
        refine ⟨_, rfl, ?_⟩
        refine LP.weak (t := 15) (v := i64 (y.1 : Nat)) (envS_is (j := 6) rfl d6) ?_
        refine LP.weak (t := 16) (v := i64 ((y.2.length + 12 : Nat) : Int)) (envS_is (j := 7) rfl d7) ?_
        refine A.u (LU.weak (LU.addN Is.rfl' Is.rfl' (wrap_i64 (by omega) (by omega))) (Is.of (y := i64 ((y.1 + (y.2.length + 12) : Nat) : Int)) (rfl))) rfl ?_
        refine ⟨⟨ga, gb, gc, gr, gh⟩, Weaker.mk' ?_ (HSub.refl _)⟩
        refine env_back2 (envS_hit (sl := [(0, 9), (1, 10), (2, 11), (3, 12), (4, 13), (5, 14), (6, 15), (7, 16), (8, 17), (9, 18), (10, 19), (11, 20)]) (j := 8) (d := 17) rfl (fun _ _ h => h)) (envS_hit (sl := [(0, 9), (1, 10), (2, 11), (3, 12), (4, 13), (5, 14), (6, 15), (7, 16), (8, 17), (9, 18), (10, 19), (11, 20)]) (j := 7) (d := 16) rfl (fun _ _ h => h)) (envS_hit (sl := [(0, 9), (1, 10), (2, 11), (3, 12), (4, 13), (5, 14), (6, 15), (7, 16), (8, 17), (9, 18), (10, 19), (11, 20)]) (j := 6) (d := 15) rfl (fun _ _ h => h)) (envS_next ?_)
        · intro p hp hne; simp only [List.mem_cons, List.not_mem_nil, or_false] at hp; rcases hp with rfl | rfl | rfl | rfl | rfl | rfl | rfl | rfl | rfl | rfl | rfl | rfl <;> first | exact absurd rfl hne | exact ⟨rfl, rfl⟩
      · have d8 := hdir 8 (List.mem_of_elem_eq_true (by kernel_rfl))
        refine ⟨_, rfl, ?_⟩
        refine LP.weak (t := 17) (v := i64 ((y.1 + (y.2.length + 12) : Nat) : Int)) (envS_is (j := 8) rfl d8) ?_
        refine A.u (LU.weak (LU.subN Is.rfl' Is.rfl' (wrap_i64 (by omega) (by omega))) (Is.of (y := i64 ((y.1 + y.2.length + 8 : Nat) : Int)) (congrArg i64 (by omega)))) rfl ?_
        refine ⟨⟨ga, gb, gc, gr, gh⟩, Weaker.mk' ?_ (HSub.refl _)⟩
        refine env_back1 (envS_hit (sl := [(0, 9), (1, 10), (2, 11), (3, 12), (4, 13), (5, 14), (6, 15), (7, 16), (8, 17), (9, 18), (10, 19), (11, 20)]) (j := 9) (d := 18) rfl (fun _ _ h => h)) (envS_hit (sl := [(0, 9), (1, 10), (2, 11), (3, 12), (4, 13), (5, 14), (6, 15), (7, 16), (8, 17), (9, 18), (10, 19), (11, 20)]) (j := 8) (d := 17) rfl (fun _ _ h => h)) (envS_next ?_)
        · intro p hp hne; simp only [List.mem_cons, List.not_mem_nil, or_false] at hp; rcases hp with rfl | rfl | rfl | rfl | rfl | rfl | rfl | rfl | rfl | rfl | rfl | rfl <;> first | exact absurd rfl hne | exact ⟨rfl, rfl⟩
      · have d3 := hdir 3 (List.mem_of_elem_eq_true (by kernel_rfl))
        have d5 := hdir 5 (List.mem_of_elem_eq_true (by kernel_rfl))
        have d9 := hdir 9 (List.mem_of_elem_eq_true (by kernel_rfl))
        refine ⟨_, rfl, ?_⟩
        refine LP.weak (t := 12) (v := Bytes b .unk) (envS_is (j := 3) rfl d3) ?_
        refine LP.weak (t := 14) (v := i64 ((y.1 + 8 : Nat) : Int)) (envS_is (j := 5) rfl d5) ?_
        refine LP.weak (t := 18) (v := i64 ((y.1 + y.2.length + 8 : Nat) : Int)) (envS_is (j := 9) rfl d9) ?_
        refine A.u (LU.sliceB (i := some ((y.1 + 8 : Nat) : Int)) (j := some ((y.1 + y.2.length + 8 : Nat) : Int)) Try.sizeOf5 Try.underlying22 Is.rfl' ⟨_, Is.rfl'⟩ ⟨_, Is.rfl'⟩ (by simp only [Option.getD_some]; omega) (by simp only [Option.getD_some]; omega) (by simp only [Option.getD_some]; omega) (m := y.2) (by simp only [Option.getD_some, Int.toNat_natCast]; rw [show y.1 + y.2.length + 8 - (y.1 + 8) = y.2.length by omega]; exact hyd.symm)) rfl ?_
        refine ⟨⟨ga, gb, gc, gr, gh⟩, Weaker.mk' ?_ (HSub.refl _)⟩
        refine env_back3 (envS_hit (sl := [(0, 9), (1, 10), (2, 11), (3, 12), (4, 13), (5, 14), (6, 15), (7, 16), (8, 17), (9, 18), (10, 19), (11, 20)]) (j := 10) (d := 19) rfl (fun _ _ h => h)) (envS_hit (sl := [(0, 9), (1, 10), (2, 11), (3, 12), (4, 13), (5, 14), (6, 15), (7, 16), (8, 17), (9, 18), (10, 19), (11, 20)]) (j := 9) (d := 18) rfl (fun _ _ h => h)) (envS_hit (sl := [(0, 9), (1, 10), (2, 11), (3, 12), (4, 13), (5, 14), (6, 15), (7, 16), (8, 17), (9, 18), (10, 19), (11, 20)]) (j := 5) (d := 14) rfl (fun _ _ h => h)) (envS_hit (sl := [(0, 9), (1, 10), (2, 11), (3, 12), (4, 13), (5, 14), (6, 15), (7, 16), (8, 17), (9, 18), (10, 19), (11, 20)]) (j := 3) (d := 12) rfl (fun _ _ h => h)) (envS_next ?_)
        · intro p hp hne; simp only [List.mem_cons, List.not_mem_nil, or_false] at hp; rcases hp with rfl | rfl | rfl | rfl | rfl | rfl | rfl | rfl | rfl | rfl | rfl | rfl <;> first | exact absurd rfl hne | exact ⟨rfl, rfl⟩
      · have d2 := hdir 2 (List.mem_of_elem_eq_true (by kernel_rfl))
        have d10 := hdir 10 (List.mem_of_elem_eq_true (by kernel_rfl))
        refine ⟨_, rfl, ?_⟩
        refine LP.ghost (H' := .cells ga 5 [] :: .cells b2 80 [.raw yv] :: .cells gg 22 [Bytes b .unk] :: (F p ++ R2)) (by show HSub (cond (f 11) _ (cond (f 2) _ _) :: _) _; rw [hfi, d2]; exact HSub.refl _) ?_
        refine LP.weak (t := 11) (v := .raw (.slice (some ⟨ga, 0, none⟩) 0 0)) (envS_is (j := 2) rfl d2) ?_
        refine LP.weak (t := 19) (v := Bytes y.2 .unk) (envS_is (j := 10) rfl d10) ?_
        refine A.act (X.appendO (z := (.int .u8 0)) 0 rfl rfl Try.underlying22 (El.of (P := Try.prog) (z := (.int .u8 0)) (size := 1) (bytes := 1) rfl rfl rfl) (ones rfl) Is.rfl' Is.rfl' (by simp) (SrcL.slice Try.underlying22 (by decide) (by exact byteEls_size _)) (by simp only [Option.getD_some, Option.getD_none, byteEls_length, intEls_length, List.length_append, List.length_cons, List.length_nil, List.length_map, List.length_drop, List.length_take, Int.toNat_natCast]; omega) (by simp only [Option.getD_some, Option.getD_none, byteEls_length, intEls_length, List.length_append, List.length_cons, List.length_nil, List.length_map, List.length_drop, List.length_take, Int.toNat_natCast]; omega) (fun b20 c20 rest20 hc20 hr20 => ?_))
        refine ⟨⟨ga, b20, c20, rest20, by rw [byteEls_length] at hc20; exact hc20⟩, Weaker.mk' ?_ (by rw [byteEls_flat]; exact HSub.refl _)⟩
        refine env_back2 (envS_hit (sl := [(0, 9), (1, 10), (2, 11), (3, 12), (4, 13), (5, 14), (6, 15), (7, 16), (8, 17), (9, 18), (10, 19), (11, 20)]) (j := 11) (d := 20) rfl (Is.of (congrArg (fun n => LV.raw (.slice (some ⟨b20, 0, none⟩) n c20)) (byteEls_length y.2)))) (envS_hit (sl := [(0, 9), (1, 10), (2, 11), (3, 12), (4, 13), (5, 14), (6, 15), (7, 16), (8, 17), (9, 18), (10, 19), (11, 20)]) (j := 10) (d := 19) rfl (fun _ _ h => h)) (envS_hit (sl := [(0, 9), (1, 10), (2, 11), (3, 12), (4, 13), (5, 14), (6, 15), (7, 16), (8, 17), (9, 18), (10, 19), (11, 20)]) (j := 2) (d := 11) rfl (fun _ _ h => h)) (envS_next ?_)
        · intro p hp hne; simp only [List.mem_cons, List.not_mem_nil, or_false] at hp; rcases hp with rfl | rfl | rfl | rfl | rfl | rfl | rfl | rfl | rfl | rfl | rfl | rfl <;> first | exact absurd rfl hne | exact ⟨rfl, rfl⟩
    · intro g f hf
      obtain ⟨ga, gb, gc, gr, gh⟩ := g
      refine X.ghost (H' := .cells gb 5 (u8s y.2 ++ raws gr) :: .cells b2 80 [.raw yv] :: .cells gg 22 [Bytes b .unk] :: (F p ++ R2)) (by show HSub (cond (f 11) _ _ :: _) _; rw [hf 11 (by omega)]; exact HSub.refl _) ?_
      refine X.act (X.yield (hy k p y _ _ hy1 ⟨gb, gc, gr, gh, rfl, rfl⟩ hI) Is.rfl' rfl (HSub.perm (K := ([.cells gb 5 (u8s y.2 ++ raws gr)] ++ F p) ++ (.cells b2 80 [.raw yv] :: .cells gg 22 [Bytes b .unk] :: R2)) (perm_of fun x => (by simp only [List.count_append, List.count_cons, List.count_nil]; omega))) (Opds.cons Is.rfl' (Opds.cons Is.rfl' Opds.nil)) ?_)
      rintro r H' (⟨q, rfl, hq, rfl⟩ | ⟨q, rfl, hq, rfl⟩)
      · refine X.ghost (hsub_back2 _ _ _ _) ?_
        refine X.u (LU.not Is.rfl') rfl ?_
        refine LL.nil (after_code ?_)
        refine X.condF rfl ?_ ?_
        · rfl
        refine LW.skip (after_blk (after_end ?_))
        refine ⟨q, ?_, (by repeat (exact HSub.refl _))⟩
        exact hq
      · refine X.ghost (hsub_back2 _ _ _ _) ?_
        refine X.u (LU.not Is.rfl') rfl ?_
        refine LL.nil (after_code ?_)
        refine X.condT rfl ?_ ?_
        · rfl
        refine LW.ret (ret_blk (after_end ?_))
        refine ⟨q, ⟨rfl, ?_⟩, (by repeat (exact HSub.refl _))⟩
        exact hq
  · rintro D p hI
    refine after_blk (after_end ?_)
    refine X.eghost (H' := .obj D (.deferred (some [])) :: .cells gg 22 [Bytes b .unk] :: (F p ++ Rf)) (HSub.trans (HSub.perm (K := .cells b6 22 [Bytes b .unk] :: .cells b2 80 [.raw yv] :: .obj D (.deferred (some [])) :: .cells gg 22 [Bytes b .unk] :: (F p ++ Rf)) (perm_of fun x => (by simp only [List.count_append, List.count_cons, List.count_nil]; omega))) (HSub.drop (HSub.drop (HSub.refl _)))) ?_
    refine X.normalM (H' := [.cells gg 22 [Bytes b .unk]] ++ F p) 0 rfl Res.none (HSub.refl _) ?_
    exact .inl ⟨p, by rw [List.length_map] at hI; exact hI, rfl⟩
  · rintro D c (q) ⟨rfl, hL⟩
    refine LW.ret (ret_blk (after_end ?_))
    refine X.eghost (H' := .obj D (.deferred (some [])) :: .cells gg 22 [Bytes b .unk] :: (G q ++ Rf)) (HSub.trans (HSub.perm (K := .cells b6 22 [Bytes b .unk] :: .cells b2 80 [.raw yv] :: .obj D (.deferred (some [])) :: .cells gg 22 [Bytes b .unk] :: (G q ++ Rf)) (perm_of fun x => (by simp only [List.count_append, List.count_cons, List.count_nil]; omega))) (HSub.drop (HSub.drop (HSub.refl _)))) ?_
    refine X.retM (H' := [.cells gg 22 [Bytes b .unk]] ++ G q) 0 rfl Res.none (HSub.refl _) ?_
    exact .inr ⟨q, hL, rfl⟩
abbrev allF (g : Nat) : LV := .raw (.func (.func 43) #[] #[ptr g])
set_option maxRecDepth 100000 in
theorem all_calls (b : List UInt8) (k : Cap) (hb : b.length < 1099511627776) : LCalls Try.prog 31 [Bytes b k] [] (fun r H' => ∃ g, r = allF g ∧ H' = [.cells g 22 [Bytes b .unk]]) := by
  refine LCalls.of Try.func31 rfl Try.ntmps31 Try.results31 rfl (fun Rf => ?_)
  refine LW.seq ?_
  refine LW.region ?_
  refine X.u (LU.assignR Is.rfl') rfl ?_
  refine LL.nil (after_code ?_)
  refine LW.seq ?_
  refine LW.region ?_
  refine X.u (LU.lits Try.underlying22 Try.sizeOf5 Try.zeroValue5 (ones rfl) rfl (by decide) (by decide) Elems.nil (by intro e he; cases he) rfl) rfl ?_
  refine X.u (LU.moveS Is.rfl') rfl ?_
  refine X.u (LU.weak (LU.append Try.underlying22 (El.of (P := Try.prog) (z := (.int .u8 0)) (size := 1) (bytes := 1) rfl rfl rfl) Is.rfl' Is.rfl' (SrcL.slice Try.underlying22 (by decide) (by exact byteEls_size _)) (by simp only [Option.getD_some, Option.getD_none, byteEls_length, intEls_length, List.length_append, List.length_cons, List.length_nil, List.length_map, List.length_drop, List.length_take, Int.toNat_natCast]; omega) (by simp only [Option.getD_some, Option.getD_none, byteEls_length, intEls_length, List.length_append, List.length_cons, List.length_nil, List.length_map, List.length_drop, List.length_take, Int.toNat_natCast]; omega)) (Is.of (y := Bytes b .unk) (rfl))) rfl ?_
  refine X.act (X.alloc rfl Try.zeroValue22 (by exact Cells.raw rfl) (fun b3 => ?_))
  refine X.act (X.store 0 rfl Try.sizeOf22 Is.rfl' Is.rfl' (by exact Cells.sl) (by (simp; done)) (by (simp; done)) ?_)
  refine LL.nil (after_code ?_)
  refine LW.seq ?_
  refine X.wcells (ys := [Bytes b .unk]) (putAt_all (by simp [raws])) ?_
  refine LW.region ?_
  refine X.u (LU.closure (vs := [_]) (Opds.cons Is.rfl' Opds.nil)) rfl ?_
  refine X.u (LU.assignR Is.rfl') rfl ?_
  refine LL.nil (after_code ?_)
  refine LW.ret (after_end ?_)
  refine X.ret (H' := [.cells b3 22 [Bytes b .unk]]) (Res.one (by exact IsR rfl)) (by repeat (exact HSub.refl _)) ?_
  exact ⟨b3, rfl, rfl⟩
end Go.Proofs.Ytahecnlglcfddaa
