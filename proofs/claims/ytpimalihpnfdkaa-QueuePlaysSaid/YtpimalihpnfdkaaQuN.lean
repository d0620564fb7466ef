/- The merge queue: Drain. -/
import Derived.Test.YtpimalihpnfdkaaQuM
import Derived.Test.YtpimalihpnfdkaaLogRx
set_option linter.unusedVariables false
set_option linter.unusedSimpArgs false
namespace Go.Proofs.Ytpimalihpnfdkaa
open Go.RowKit Go.L
attribute [local irreducible] LL LW LO
/-- How those that wait end, if the j-th try answers ans j. -/
def evs (ans : Nat → Int) (ws : List Int) : List Ed := ws.mapIdx fun j x => (x, outE (ans j), ans j)
theorem evs_len (ans : Nat → Int) (ws : List Int) : (evs ans ws).length = ws.length := List.length_mapIdx
theorem evs_at {ans : Nat → Int} {ws : List Int} {j : Nat} {x : Int} (h : ws[j]? = some x) : (evs ans ws)[j]? = some (x, outE (ans j), ans j) := by
  unfold evs; rw [List.getElem?_mapIdx, h]; rfl
theorem evs_snoc {ans : Nat → Int} {ws : List Int} {j : Nat} {x : Int} (h : ws[j]? = some x) : (evs ans ws).take (j + 1) = (evs ans ws).take j ++ [(x, outE (ans j), ans j)] := take_snocE (evs_at h)
theorem drop_erase (l : List Int) (j : Nat) : (l.drop j).eraseIdx 0 = l.drop (j + 1) := by
  rw [List.eraseIdx_zero, List.tail_drop]
theorem drop_zero {l : List Int} {j : Nat} {x : Int} (h : l[j]? = some x) : (l.drop j)[0]? = some x := by
  rw [List.getElem?_drop, Nat.add_zero]; exact h
theorem stepA_calls (Ht : Nat → List Atom) (ans : Nat → Int) (ff : FuncId) (first caps : Array Value) (ws : List Int) (hw : ws.length ≤ 64) (hh : ∀ (j : Nat) (x : Int), ws[j]? = some x → FnCalls Try.prog (.func (.func ff) first caps) [i64 x] (Ht j) (fun v H' => v = i64 (ans j) ∧ H' = Ht (j + 1))) (g : Nat) (es : List Ed) (he : es.length ≤ 3000000000000) (b o c p q r : Nat) (j : Nat) (x : Int) (hx : ws[j]? = some x) : LCalls Try.prog 33 [pt g, .raw (.func (.func ff) first caps)] (qa g (ws.drop j) es .nilFunc b o c p q r :: .tail b o c :: .tail p q r :: Ht j) (fun v H' => ∃ b' o' c' p' q' r', v = .tup [.agg (edL (x, outE (ans j), ans j)), i64 0] ∧ H' = qa g (ws.drop (j + 1)) (es ++ [(x, outE (ans j), ans j)]) .nilFunc b' o' c' p' q' r' :: .tail b' o' c' :: .tail p' q' r' :: Ht (j + 1)) := by
  have hl : (ws.drop j).length ≤ 64 := by rw [List.length_drop]; omega
  have hn := (hh j x hx).around [qa g (ws.drop j) es (.func (.func ff) first caps) b o c p q r, .tail b o c, .tail p q r]
  refine (stepG_calls (Post := fun why ws2 es2 Ht2 => why = ans j ∧ ws2 = ws.drop j ∧ es2 = es ∧ Ht2 = Ht (j + 1)) (Ht j) g (ws.drop j) es b o c p q r ff first caps x (drop_zero hx) (by omega) (hn.mono fun v H' h => ?_)).mono fun v H' h => ?_
  · obtain ⟨H0, rfl, rfl, rfl⟩ := h
    exact ⟨ans j, ws.drop j, es, b, o, c, p, q, r, Ht (j + 1), rfl, rfl, drop_zero hx, by omega, he, rfl, rfl, rfl, rfl⟩
  · obtain ⟨why, ws2, es2, b', o', c', p', q', r', Ht', rfl, rfl, rfl, rfl, rfl, rfl⟩ := h
    exact ⟨b', o', c', p', q', r', rfl, by rw [drop_erase]⟩
structure T6 where
  b : Nat
  o : Nat
  c : Nat
  p : Nat
  q : Nat
  r : Nat
structure TL where
  W : List Int
  E : List Ed
  t : T6
  j : Nat
set_option maxHeartbeats 1000000 in
set_option maxRecDepth 100000 in
theorem steps_iter (Ht : Nat → List Atom) (ans : Nat → Int) (ff : FuncId) (first caps : Array Value) (ws : List Int) (hw : ws.length ≤ 64) (hh : ∀ (j : Nat) (x : Int), ws[j]? = some x → FnCalls Try.prog (.func (.func ff) first caps) [i64 x] (Ht j) (fun v H' => v = i64 (ans j) ∧ H' = Ht (j + 1))) (g : Nat) (es : List Ed) (he : es.length ≤ 2999999999000) (b o c p q r : Nat) (bn bq bt : Nat) :
    LIterX Try.prog 68 #[.pointer (some ⟨bn, 0, none⟩), .pointer (some ⟨bq, 0, none⟩), .pointer (some ⟨bt, 0, none⟩)] (evs ans ws) (fun y x Hx => x = [.agg (edL y)] ∧ Hx = [])
      (qa g ws es .nilFunc b o c p q r :: .tail b o c :: .tail p q r :: .cells bn 3 [i64 (ws.length : Nat)] :: .cells bq 51 [pt g] :: .cells bt 30 [.raw (.func (.func ff) first caps)] :: Ht 0)
      (fun z : T6 => qa g [] (es ++ evs ans ws) .nilFunc z.b z.o z.c z.p z.q z.r :: .tail z.b z.o z.c :: .tail z.p z.q z.r :: .cells bn 3 [i64 (ws.length : Nat)] :: .cells bq 51 [pt g] :: .cells bt 30 [.raw (.func (.func ff) first caps)] :: Ht ws.length)
      (fun z : TL => qa g z.W z.E .nilFunc z.t.b z.t.o z.t.c z.t.p z.t.q z.t.r :: .tail z.t.b z.t.o z.t.c :: .tail z.t.p z.t.q z.t.r :: .cells bn 3 [i64 (ws.length : Nat)] :: .cells bq 51 [pt g] :: .cells bt 30 [.raw (.func (.func ff) first caps)] :: Ht z.j) := by
  intro α β F G φ ψ yv hy1 hy p0 hp0
  refine LCalls.of Try.func68 rfl Try.ntmps68 Try.results68 rfl (fun Rf => ?_)
  refine X.wghost (H' := qa g ws es .nilFunc b o c p q r :: .tail b o c :: .tail p q r :: .cells bn 3 [i64 (ws.length : Nat)] :: .cells bq 51 [pt g] :: .cells bt 30 [.raw (.func (.func ff) first caps)] :: (Ht 0 ++ (F p0 ++ Rf))) (HSub.perm (perm_of fun x => (by simp only [List.count_append, List.count_cons, List.count_nil]; omega))) ?_
  refine LW.seq ?_
  refine LW.region ?_
  refine X.u (LU.loadO 3 rfl ⟨Try.sizeOf3, Try.isAgg3⟩ Is.rfl' (Part.one rfl)) rfl ?_
  refine X.u (LU.moveR Is.rfl') rfl ?_
  refine LL.nil (after_code ?_)
  refine LW.block ?_
  refine X.loopK (α := Nat × α × Nat × Nat × Nat × Nat × Nat × Nat) (fun ⟨j, pp, b, o, c, p, q, r⟩ => [(8, i64 j)]) [0, 2, 3, 7] (fun ⟨j, pp, b, o, c, p, q, r⟩ => qa g (ws.drop j) (es ++ (evs ans ws).take j) .nilFunc b o c p q r :: .tail b o c :: .tail p q r :: .cells bn 3 [i64 (ws.length : Nat)] :: .cells bq 51 [pt g] :: .cells bt 30 [.raw (.func (.func ff) first caps)] :: (Ht j ++ (F pp ++ Rf))) (fun ⟨j, pp, b, o, c, p, q, r⟩ => φ j pp ∧ j ≤ ws.length) (fun ⟨j, pp, b, o, c, p, q, r⟩ => ws.length - j) (⟨0, p0, b, o, c, p, q, r⟩) (EnvLe.cons (by rfl) (EnvLe.nil)) (by show L.HSub _ (qa g (ws.drop 0) (es ++ (evs ans ws).take 0) .nilFunc b o c p q r :: _); rw [List.take_zero, List.append_nil, List.drop_zero]; exact HSub.refl _) ?_ ?_
  · exact ⟨hp0, Nat.zero_le _⟩
  · rintro ⟨j, pp, b, o, c, p, q, r⟩ hI
    obtain ⟨hp, hj⟩ := hI
    refine LW.seq ?_
    refine LW.region ?_
    refine X.u (LU.lss Is.rfl' Is.rfl') rfl ?_
    refine LL.nil (after_code ?_)
    refine LW.seq ?_
    refine X.cond rfl (fun h1 => ?_) (fun h1 => ?_)
    · have h1 : j < ws.length := by have := of_decide_eq_true h1; omega
      obtain ⟨x, hx⟩ := at_lt h1
      have hst := stepA_calls Ht ans ff first caps ws hw hh g (es ++ (evs ans ws).take j) (by rw [List.length_append, List.length_take, evs_len]; omega) b o c p q r j x hx
      rw [List.append_assoc, ← evs_snoc hx] at hst
      refine X.wghost (H' := qa g (ws.drop j) (es ++ (evs ans ws).take j) .nilFunc b o c p q r :: .tail b o c :: .tail p q r :: .cells bn 3 [i64 (ws.length : Nat)] :: .cells bq 51 [pt g] :: .cells bt 30 [.raw (.func (.func ff) first caps)] :: (Ht j ++ (F pp ++ Rf))) (HSub.refl _) ?_
      refine LW.skip (after_code ?_)
      refine LW.seq ?_
      refine LW.block ?_
      refine LW.seq ?_
      refine LW.region ?_
      refine X.u (LU.loadO 4 rfl ⟨Try.sizeOf51, Try.isAgg51⟩ Is.rfl' (Part.one rfl)) rfl ?_
      refine X.u (LU.loadO 5 rfl ⟨Try.sizeOf30, Try.isAgg30⟩ Is.rfl' (Part.one rfl)) rfl ?_
      refine X.act (X.call (hst) Try.func33 rfl rfl rfl (HSub.perm (K := (qa g (ws.drop j) (es ++ (evs ans ws).take j) .nilFunc b o c p q r :: .tail b o c :: .tail p q r :: Ht j) ++ (.cells bn 3 [i64 (ws.length : Nat)] :: .cells bq 51 [pt g] :: .cells bt 30 [.raw (.func (.func ff) first caps)] :: (F pp ++ Rf))) (perm_of fun x => (by simp only [List.count_append, List.count_cons]; omega))) (Opds.cons Is.rfl' (Opds.cons Is.rfl' Opds.nil)) ?_)
      rintro r H' ⟨b2_, o2_, c2_, p2_, q2_, r2_, rfl, rfl⟩
      refine X.ghost (H' := qa g (ws.drop (j + 1)) (es ++ (evs ans ws).take (j + 1)) .nilFunc b2_ o2_ c2_ p2_ q2_ r2_ :: .tail b2_ o2_ c2_ :: .tail p2_ q2_ r2_ :: .cells bn 3 [i64 (ws.length : Nat)] :: .cells bq 51 [pt g] :: .cells bt 30 [.raw (.func (.func ff) first caps)] :: (Ht (j + 1) ++ (F pp ++ Rf))) (HSub.perm (perm_of fun x => (by simp only [List.count_append, List.count_cons, List.count_nil]; omega))) ?_
      refine X.u (LU.moveT Is.rfl') rfl ?_
      refine X.u (LU.extract Is.rfl' rfl) rfl ?_
      refine X.u (LU.extract Is.rfl' rfl) rfl ?_
      refine X.act (X.alloc rfl Try.zeroValue58 (by exact Cells.rawagg (by decide)) (fun b5 => ?_))
      refine X.act (X.store 0 rfl Try.sizeOf58 Is.rfl' Is.rfl' (by exact Cells.agg) (by (simp; done)) (by exact Nat.le_of_ble_eq_true rfl) ?_)
      refine X.u (LU.assignR Is.rfl') rfl ?_
      refine LL.nil (after_code ?_)
      refine LW.seq ?_
      refine X.wghost (H' := .cells b5 58 (edL (x, outE (ans j), ans j)) :: qa g (ws.drop (j + 1)) (es ++ (evs ans ws).take (j + 1)) .nilFunc b2_ o2_ c2_ p2_ q2_ r2_ :: .tail b2_ o2_ c2_ :: .tail p2_ q2_ r2_ :: .cells bn 3 [i64 (ws.length : Nat)] :: .cells bq 51 [pt g] :: .cells bt 30 [.raw (.func (.func ff) first caps)] :: (Ht (j + 1) ++ (F pp ++ Rf))) (HSub.refl _) ?_
      refine LW.region ?_
      refine X.u (LU.moveR Is.rfl') rfl ?_
      refine X.u (LU.neq Is.rfl' Is.rfl') rfl ?_
      refine X.u (LU.moveR Is.rfl') rfl ?_
      refine X.doF rfl rfl (LU.moveR (by exact Is.rfl')) rfl ?_
      refine X.doF rfl rfl (LU.loadO 0 rfl ⟨Try.sizeOf58, Try.isAgg58⟩ (by exact Is.rfl') (Part.whole (by (simp; done)))) rfl ?_
      refine X.actG rfl rfl (X.yield (hy j pp (x, outE (ans j), ans j) _ _ (evs_at hx) ⟨rfl, rfl⟩ hp) (by exact Is.rfl') rfl (HSub.perm (K := ([] ++ F pp) ++ (.cells b5 58 (edL (x, outE (ans j), ans j)) :: qa g (ws.drop (j + 1)) (es ++ (evs ans ws).take (j + 1)) .nilFunc b2_ o2_ c2_ p2_ q2_ r2_ :: .tail b2_ o2_ c2_ :: .tail p2_ q2_ r2_ :: .cells bn 3 [i64 (ws.length : Nat)] :: .cells bq 51 [pt g] :: .cells bt 30 [.raw (.func (.func ff) first caps)] :: (Ht (j + 1) ++ Rf))) (perm_of fun x => (by simp only [List.count_append, List.count_cons, List.count_nil]; omega))) (Opds.cons (by exact Is.rfl') Opds.nil) ?_)
      rintro r H' (⟨q2, rfl, hq, rfl⟩ | ⟨q2, rfl, hq, rfl⟩)
      · refine X.doF rfl rfl (LU.not (by exact Is.rfl')) rfl ?_
        refine X.u (LU.pickF Is.rfl' (by exact Is.rfl')) rfl ?_
        refine LL.nil (after_code ?_)
        refine X.condF rfl ?_ ?_
        · rfl
        refine LW.skip (after_blk (after_code ?_))
        refine LW.region ?_
        refine X.u (LU.addN Is.rfl' Is.rfl' (wrap_i64 (by omega) (by omega))) rfl ?_
        refine X.u (LU.moveR Is.rfl') rfl ?_
        refine LL.nil (after_rnd ?_)
        refine X.nghost (H' := .cells b5 58 (edL (x, outE (ans j), ans j)) :: qa g (ws.drop (j + 1)) (es ++ (evs ans ws).take (j + 1)) .nilFunc b2_ o2_ c2_ p2_ q2_ r2_ :: .tail b2_ o2_ c2_ :: .tail p2_ q2_ r2_ :: .cells bn 3 [i64 (ws.length : Nat)] :: .cells bq 51 [pt g] :: .cells bt 30 [.raw (.func (.func ff) first caps)] :: (Ht (j + 1) ++ (F q2 ++ Rf))) (HSub.perm (perm_of fun x => (by simp only [List.count_append, List.count_cons, List.count_nil]; omega))) ?_
        refine X.next (⟨j + 1, q2, b2_, o2_, c2_, p2_, q2_, r2_⟩) rfl (EnvLe.cons (by rfl) (EnvLe.nil)) (Keeps.cons (by exact Eq.trans (b := .raw _) rfl rfl) (Keeps.cons (by exact Eq.trans (b := .raw _) rfl rfl) (Keeps.cons (by exact Eq.trans (b := .raw _) rfl rfl) (Keeps.cons (by exact Eq.trans (b := .raw _) rfl rfl) (Keeps.nil))))) (HSub.drop (HSub.refl _)) ?_ ?_
        · exact ⟨hq, by omega⟩
        · (simp; omega)
      · refine X.doF rfl rfl (LU.not (by exact Is.rfl')) rfl ?_
        refine X.u (LU.pickF Is.rfl' (by exact Is.rfl')) rfl ?_
        refine LL.nil (after_code ?_)
        refine X.condT rfl ?_ ?_
        · rfl
        refine LW.ret (ret_blk (ret_code (ret_rnd (ret_blk (after_end ?_)))))
        refine X.ret (H' := (qa g (ws.drop (j + 1)) (es ++ (evs ans ws).take (j + 1)) .nilFunc b2_ o2_ c2_ p2_ q2_ r2_ :: .tail b2_ o2_ c2_ :: .tail p2_ q2_ r2_ :: .cells bn 3 [i64 (ws.length : Nat)] :: .cells bq 51 [pt g] :: .cells bt 30 [.raw (.func (.func ff) first caps)] :: Ht (j + 1)) ++ G q2) Res.none (HSub.trans (B := .cells b5 58 (edL (x, outE (ans j), ans j)) :: (((qa g (ws.drop (j + 1)) (es ++ (evs ans ws).take (j + 1)) .nilFunc b2_ o2_ c2_ p2_ q2_ r2_ :: .tail b2_ o2_ c2_ :: .tail p2_ q2_ r2_ :: .cells bn 3 [i64 (ws.length : Nat)] :: .cells bq 51 [pt g] :: .cells bt 30 [.raw (.func (.func ff) first caps)] :: Ht (j + 1)) ++ G q2) ++ Rf)) (HSub.perm (perm_of fun x => (by simp only [List.count_append, List.count_cons, List.count_nil]; omega))) (HSub.drop (HSub.refl _))) ?_
        exact .inr ⟨q2, ⟨_, _, ⟨b2_, o2_, c2_, p2_, q2_, r2_⟩, j + 1⟩, hq, rfl⟩
    · have h1 : ¬ j < ws.length := by have := of_decide_eq_false h1; omega
      obtain rfl : j = ws.length := by omega
      refine X.wghost (H' := qa g [] (es ++ evs ans ws) .nilFunc b o c p q r :: .tail b o c :: .tail p q r :: .cells bn 3 [i64 (ws.length : Nat)] :: .cells bq 51 [pt g] :: .cells bt 30 [.raw (.func (.func ff) first caps)] :: (Ht ws.length ++ (F pp ++ Rf))) (by show L.HSub (qa g (ws.drop ws.length) (es ++ (evs ans ws).take ws.length) .nilFunc b o c p q r :: _) _; rw [List.drop_length, List.take_of_length_le (by rw [evs_len]; exact Nat.le_refl _)]; exact HSub.refl _) ?_
      refine LW.exit (exit_code (exit_rnd (exit_blk (after_end ?_))))
      refine X.normal (H' := (qa g [] (es ++ evs ans ws) .nilFunc b o c p q r :: .tail b o c :: .tail p q r :: .cells bn 3 [i64 (ws.length : Nat)] :: .cells bq 51 [pt g] :: .cells bt 30 [.raw (.func (.func ff) first caps)] :: Ht ws.length) ++ F pp) Res.none (HSub.perm (perm_of fun x => (by simp only [List.count_append, List.count_cons, List.count_nil]; omega))) ?_
      exact .inl ⟨pp, ⟨b, o, c, p, q, r⟩, by rw [evs_len]; exact hp, rfl⟩
set_option maxRecDepth 100000 in
theorem steps_calls (g : Nat) (n : Int) (ff : FuncId) (first caps : Array Value) : LCalls Try.prog 65 [pt g, i64 n, .raw (.func (.func ff) first caps)] [] (fun r H' => ∃ bn bq bt, r = .raw (.func (.func 68) #[] #[.pointer (some ⟨bn, 0, none⟩), .pointer (some ⟨bq, 0, none⟩), .pointer (some ⟨bt, 0, none⟩)]) ∧ H' = [.cells bn 3 [i64 n], .cells bq 51 [pt g], .cells bt 30 [.raw (.func (.func ff) first caps)]]) := by
  refine LCalls.of Try.func65 rfl Try.ntmps65 Try.results65 rfl (fun Rf => ?_)
  refine LW.seq ?_
  refine LW.region ?_
  refine X.act (X.box rfl Is.rfl' (by exact Cells.raw rfl) (fun b3 => ?_))
  refine X.act (X.box rfl Is.rfl' (by exact Cells.raw rfl) (fun b4 => ?_))
  refine X.act (X.box rfl Is.rfl' (by exact Cells.raw rfl) (fun b5 => ?_))
  refine X.u (LU.assignR Is.rfl') rfl ?_
  refine LL.nil (after_code ?_)
  refine LW.seq ?_
  refine LW.region ?_
  refine X.u (LU.closure (vs := [_, _, _]) (Opds.cons Is.rfl' (Opds.cons Is.rfl' (Opds.cons Is.rfl' Opds.nil)))) rfl ?_
  refine X.u (LU.assignR Is.rfl') rfl ?_
  refine LL.nil (after_code ?_)
  refine LW.ret (after_end ?_)
  refine X.ret (H' := [.cells b4 3 [i64 n], .cells b3 51 [pt g], .cells b5 30 [.raw (.func (.func ff) first caps)]]) (Res.one (by exact IsR rfl)) (by repeat (first | exact HSub.refl _ | refine HSub.pick 1 rfl ?_)) ?_
  exact ⟨b4, b3, b5, rfl, rfl⟩
set_option maxHeartbeats 1000000 in
set_option maxRecDepth 100000 in
theorem drain_calls (Ht : Nat → List Atom) (ans : Nat → Int) (ff : FuncId) (first caps : Array Value) (ws : List Int) (hw : ws.length ≤ 64) (hh : ∀ (j : Nat) (x : Int), ws[j]? = some x → FnCalls Try.prog (.func (.func ff) first caps) [i64 x] (Ht j) (fun v H' => v = i64 (ans j) ∧ H' = Ht (j + 1))) (g : Nat) (es : List Ed) (he : es.length ≤ 2999999999000) (b o c p q r : Nat) : LCalls Try.prog 42 [pt g, .raw (.func (.func ff) first caps)] (qa g ws es .nilFunc b o c p q r :: .tail b o c :: .tail p q r :: Ht 0) (fun v H' => ∃ b' o' c' p' q' r', v = .sl 3 (eds (evs ans ws)) .unk ∧ H' = qa g [] (es ++ evs ans ws) .nilFunc b' o' c' p' q' r' :: .tail b' o' c' :: .tail p' q' r' :: Ht ws.length) := by
  have hlen := evs_len ans ws
  refine LCalls.of Try.func42 rfl Try.ntmps42 Try.results42 rfl (fun Rf => ?_)
  refine X.wghost (H' := qa g ws es .nilFunc b o c p q r :: .tail b o c :: .tail p q r :: (Ht 0 ++ Rf)) (HSub.refl _) ?_
  refine LW.seq ?_
  refine LW.region ?_
  refine X.u (LU.assign (Is.nil 3)) rfl ?_
  refine LL.nil (after_code ?_)
  refine LW.seq ?_
  refine LW.seq ?_
  refine LW.region ?_
  refine X.u (LU.moveR Is.rfl') rfl ?_
  refine X.u (LU.call1 0 rfl (none_calls21 g ws es .nilFunc b o c p q r) Try.func57 rfl rfl (Opds.cons Is.rfl' Opds.nil)) rfl ?_
  refine X.u (LU.moveR Is.rfl') rfl ?_
  refine X.doF rfl rfl (LU.moveR (by exact Is.rfl')) rfl ?_
  refine X.doF rfl rfl (LU.nilFEqS Try.underlying30 (by exact Is.rfl') (by exact Is.rfl')) rfl ?_
  refine X.u (LU.pickF Is.rfl' (by exact Is.rfl')) rfl ?_
  refine X.u (LU.moveR Is.rfl') rfl ?_
  refine X.doF rfl rfl (LU.moveR (by exact Is.rfl')) rfl ?_
  refine X.doF rfl rfl (LU.nilCheck (by exact Is.rfl')) rfl ?_
  refine X.doF rfl rfl (LU.fieldO Try.underlying77 rfl Try.sizeOf30 (by decide) (by exact Is.rfl')) rfl ?_
  refine X.doF rfl rfl (LU.loadO 0 rfl ⟨Try.sizeOf30, Try.isAgg30⟩ (by exact Is.rfl') (Part.one rfl)) rfl ?_
  refine X.doF rfl rfl (LU.nilFNeN Try.underlying30 (by exact Is.rfl') (by exact Is.rfl')) rfl ?_
  refine X.u (LU.pickF Is.rfl' (by exact Is.rfl')) rfl ?_
  refine LL.nil (after_code ?_)
  refine X.condF rfl ?_ ?_
  · rfl
  refine LW.skip (after_code ?_)
  refine LW.seq ?_
  refine LW.region ?_
  refine X.act (X.alloc rfl Try.zeroValue54 (by exact Cells.raw rfl) (fun b5 => ?_))
  refine LL.nil (after_code ?_)
  refine LW.seq ?_
  refine LW.seq ?_
  refine X.wghost (H' := .cells b5 54 [.sl 3 [] (.tok 0 0 0)] :: .tail 0 0 0 :: qa g ws es .nilFunc b o c p q r :: .tail b o c :: .tail p q r :: (Ht 0 ++ Rf)) (HSub.trans (HSub.cell 0 rfl ((Is.nil 3).trans (Is.full_tok 0 0))) (HSub.trans (HSub.tail0 0 0 0 (Nat.le_refl _) _) (HSub.pick 1 rfl (HSub.pick 0 rfl (HSub.refl _))))) ?_
  refine LW.region ?_
  refine X.u (LU.moveR Is.rfl') rfl ?_
  refine X.u (LU.moveR Is.rfl') rfl ?_
  refine X.u (LU.nilCheck Is.rfl') rfl ?_
  refine X.u (LU.fieldO Try.underlying77 rfl Try.sizeOf24 (by decide) Is.rfl') rfl ?_
  refine X.u (LU.loadO 2 rfl ⟨Try.sizeOf24, Try.isAgg24⟩ Is.rfl' (Part.one rfl)) rfl ?_
  refine X.u (LU.lenN Try.underlying24 Is.rfl' (by (simp only [Option.getD_some, Option.getD_none, byteEls_length, intEls_length, List.length_append, List.length_cons, List.length_nil, List.length_map, List.length_drop, List.length_take, Int.toNat_natCast]; rfl))) rfl ?_
  refine X.u (LU.moveR Is.rfl') rfl ?_
  refine X.act (X.call (steps_calls g (ws.length : Nat) ff first caps) Try.func65 rfl rfl rfl (HSub.refl _) (Opds.cons Is.rfl' (Opds.cons Is.rfl' (Opds.cons Is.rfl' Opds.nil))) ?_)
  rintro r H' ⟨bn, bq, bt, rfl, rfl⟩
  refine LL.nil (after_code ?_)
  refine LW.block ?_
  refine X.rangeX (items := evs ans ws) (J := (fun y x Hx => x = [.agg (edL y)] ∧ Hx = [])) Is.rfl' Try.func68 rfl rfl (steps_iter Ht ans ff first caps ws hw hh g es he b o c p q r bn bq bt) rfl (by rintro y _ x Hx ⟨rfl, _⟩; rfl) (α := Nat × Nat × Nat × Nat) (β := Unit) (fun ⟨m, tb, to, tc⟩ => .cells b5 54 [.sl 3 (eds ((evs ans ws).take m)) (.tok tb to tc)] :: [.tail tb to tc]) (fun u => []) (fun k ⟨m, tb, to, tc⟩ => m = k) (fun c u => False) ((0, 0, 0, 0)) ?_ (HSub.perm (K := (qa g ws es .nilFunc b o c p q r :: .tail b o c :: .tail p q r :: .cells bn 3 [i64 (ws.length : Nat)] :: .cells bq 51 [pt g] :: .cells bt 30 [.raw (.func (.func ff) first caps)] :: Ht 0) ++ ((.cells b5 54 [.sl 3 [] (.tok 0 0 0)] :: [.tail 0 0 0]) ++ Rf)) (perm_of fun x => (by simp only [List.count_append, List.count_cons, List.count_nil]; omega))) ?_ ?_ ?_
  · exact rfl
  · rintro k ⟨m, tb, to, tc⟩ y x Hx hx hJ hI R1
    subst hI
    obtain ⟨rfl, rfl⟩ := hJ
    have hml := (List.getElem?_eq_some_iff.1 hx).1
    refine LW.region ?_
    refine X.act (X.alloc rfl Try.zeroValue58 (by exact Cells.rawagg (by decide)) (fun b6 => ?_))
    refine X.act (X.store 0 rfl Try.sizeOf58 Is.rfl' Is.rfl' (by exact Cells.agg) (by (simp; done)) (by exact Nat.le_of_ble_eq_true rfl) ?_)
    refine LL.nil (after_end ?_)
    refine ⟨rfl, (.cells b6 58 (edL y) :: .cells b5 54 [.sl 3 (eds ((evs ans ws).take m)) (.tok tb to tc)] :: [.tail tb to tc]), _, rfl, fun R2 => ?_⟩
    refine LW.block ?_
    refine LW.region ?_
    refine X.u (LU.loadO 1 rfl ⟨Try.sizeOf54, Try.isAgg54⟩ Is.rfl' (Part.one rfl)) rfl ?_
    refine X.u (LU.loadO 0 rfl ⟨Try.sizeOf58, Try.isAgg58⟩ Is.rfl' (Part.whole (by (simp; done)))) rfl ?_
    refine X.u (LU.lits Try.underlying54 Try.sizeOf58 Try.zeroValue58 (ones rfl) rfl (by decide) (by decide) (Elems.cons Is.rfl' (by exact Cells.agg) Elems.nil) (by (simp; done)) rfl) rfl ?_
    refine X.act (X.append 2 rfl rfl Try.underlying54 (El.of (P := Try.prog) (z := (.agg #[(.int .i64 0), (.int .i64 0), (.int .i64 0)])) (size := 3) (bytes := 24) rfl rfl rfl) Is.rfl' Is.rfl' (SrcL.slice Try.underlying54 (by decide) (by simp)) (by simp only [Option.getD_some, Option.getD_none, byteEls_length, intEls_length, List.length_append, List.length_cons, List.length_nil, List.length_map, List.length_drop, List.length_take, Int.toNat_natCast]; omega) (by simp only [Option.getD_some, Option.getD_none, byteEls_length, intEls_length, List.length_append, List.length_cons, List.length_nil, List.length_map, List.length_drop, List.length_take, Int.toNat_natCast]; omega) (fun b32 o32 c32 => X.weak (t := 32) (Is.of (y := .sl 3 (eds ((evs ans ws).take (m + 1))) (.tok b32 o32 c32)) ((eds_snoc _ y _).trans (congrArg (fun z => LV.sl 3 (eds z) (.tok b32 o32 c32)) (take_snocE hx).symm))) ?_))
    refine X.act (X.store 2 rfl Try.sizeOf54 Is.rfl' Is.rfl' (by exact Cells.sl) (by (simp; done)) (by (simp; done)) ?_)
    refine LL.nil (after_blk (after_end ?_))
    refine ⟨(m + 1, b32, o32, c32), ?_, (by repeat (first | exact HSub.refl _ | refine HSub.pick 0 rfl ?_ | refine HSub.drop ?_))⟩
    exact rfl
  · rintro D ⟨m, tb, to, tc⟩ ⟨zb, zo, zc, zp, zq, zr⟩ hI
    subst hI
    refine after_blk (after_code ?_)
    refine LW.seq ?_
    refine X.wghost (H' := .obj D (.deferred (some [])) :: .cells b5 54 [.sl 3 (eds ((evs ans ws).take (evs ans ws).length)) (.tok tb to tc)] :: .tail tb to tc :: .cells bn 3 [i64 (ws.length : Nat)] :: .cells bq 51 [pt g] :: .cells bt 30 [.raw (.func (.func ff) first caps)] :: qa g [] (es ++ evs ans ws) .nilFunc zb zo zc zp zq zr :: .tail zb zo zc :: .tail zp zq zr :: (Ht ws.length ++ Rf)) (HSub.perm (perm_of fun x => (by simp only [List.count_append, List.count_cons, List.count_nil]; omega))) ?_
    refine LW.region ?_
    refine X.u (LU.loadO 1 rfl ⟨Try.sizeOf54, Try.isAgg54⟩ Is.rfl' (Part.one rfl)) rfl ?_
    refine X.u (LU.assignS Is.rfl') rfl ?_
    refine LL.nil (after_code ?_)
    refine LW.ret (after_end ?_)
    refine X.retM (H' := qa g [] (es ++ evs ans ws) .nilFunc zb zo zc zp zq zr :: .tail zb zo zc :: .tail zp zq zr :: Ht ws.length) 0 rfl (Res.one (by exact IsS rfl)) (by repeat (first | exact HSub.refl _ | refine HSub.pick 5 rfl ?_ | refine HSub.drop ?_)) ?_
    exact ⟨zb, zo, zc, zp, zq, zr, by rw [List.take_of_length_le (Nat.le_refl _)], rfl⟩
  · rintro D c u z_ h; exact h.elim
end Go.Proofs.Ytpimalihpnfdkaa
