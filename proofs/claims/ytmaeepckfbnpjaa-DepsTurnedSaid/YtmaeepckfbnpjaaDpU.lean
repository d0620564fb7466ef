/- What is reached: the walk. -/
import Derived.Test.YtmaeepckfbnpjaaDpT
set_option linter.unusedVariables false
set_option linter.unusedSimpArgs false
namespace Go.Proofs.Ytmaeepckfbnpjaa
open Go.RowKit Go.L Go.Lib
attribute [local irreducible] LL LW LO
abbrev visF (s t : Nat) : Value := .func (.func 37) #[] #[.pointer (some ⟨s, 0, none⟩), .pointer (some ⟨t, 0, none⟩)]
theorem vis_fn (s t m : Nat) (M : List (Hs × LV)) (ks todo : List Hs) (b o c : Nat) (d : Hs) (hM : Many M ks) (hn : ks.Nodup) (hl : todo.length ≤ 1000001) : FnCalls Try.prog (visF s t) [.agg (hsL d)] (visH s t m M todo b o c) (fun r H' => ∃ M' b' o' c', r = .tup [] ∧ H' = visH s t m M' (todo ++ newS ks d) b' o' c' ∧ Many M' (ks ++ newS ks d)) :=
  FnCalls.closure Try.func37 rfl rfl (visit_calls s t m M ks todo b o c d hM hn hl)
abbrev fN (N : List (Hs × Gr)) (x : Hs) : List Hs := (curN N x).es
theorem reach_len {f : Hs → List Hs} {h : Hs} {T ks : List Hs} (hT : ∀ x, ∀ d ∈ f x, d ∈ T) (hn : ks.Nodup) (hr : ∀ x ∈ ks, Rch f h x) : ks.length ≤ T.length := (nodup_len hn (fun x hx => by obtain ⟨y, hy⟩ := (hr x hx).last; exact hT y x hy)).1
theorem reach_all {f : Hs → List Hs} {h : Hs} {ks : List Hs} (hc : ∀ x ∈ h :: ks, ∀ d ∈ f x, d ∈ ks) (hr : ∀ x ∈ ks, Rch f h x) (x : Hs) : x ∈ ks ↔ Rch f h x :=
  ⟨hr x, fun hx => Rch.closed (S := fun y => y ∈ ks) (hc h (by simp)) (fun y hy => hc y (List.mem_cons_of_mem _ hy)) hx⟩
theorem drop_more {α : Type} {l r : List α} {x : α} {p : Nat} (h : l.drop p = x :: r) (more : List α) : (l ++ more).drop (p + 1) = r ++ more ∧ (l ++ more).take (p + 1) = l.take p ++ [x] ∧ p < l.length := by
  have hp : p < l.length := by
    apply Classical.byContradiction
    intro c
    rw [List.drop_eq_nil_of_le (by omega)] at h
    cases h
  have hx : l[p]? = some x := by
    have := congrArg (fun z => z[0]?) h
    simpa [List.getElem?_drop] using this
  have hr : l.drop (p + 1) = r := by
    have := congrArg List.tail h
    simpa [List.tail_drop] using this
  refine ⟨?_, ?_, hp⟩
  · rw [List.drop_append_of_le_length (by omega), hr]
  · rw [List.take_append_of_le_length (by omega), take_snoc hx]
theorem ne_cons {α : Type} {l : List α} (h : 0 < l.length) : ∃ x r, l = x :: r := by
  cases l with
  | nil => cases h
  | cons x r => exact ⟨x, r, rfl⟩
set_option maxHeartbeats 2000000 in
set_option maxRecDepth 100000 in
theorem reach_calls (m : Nat) (N : List (Hs × Gr)) (h : Hs) (T : List Hs) (hT : ∀ x, ∀ d ∈ fN N x, d ∈ T) (hTl : T.length ≤ 1000000) (hNl : ∀ x, (curN N x).es.length ≤ 1000000) : LCalls Try.prog 30 [.raw (.map (some m)), .agg (hsL h)] (.map m (mp hsKey (nV N)) :: tls N) (fun r H' => ∃ ks, r = .sl 32 (hss (sortH ks)) .unk ∧ H' = [] ∧ ks.Nodup ∧ ∀ x, x ∈ ks ↔ Rch (fN N) h x) := by
  have hx2 : h.1.length = 32 := h.2
  refine LCalls.of Try.func30 rfl Try.ntmps30 Try.results30 rfl (fun Rf => ?_)
  refine LW.seq ?_
  refine LW.region ?_
  refine X.act (X.box rfl Is.rfl' (by exact Cells.agg) (fun b3 => ?_))
  refine X.u (LU.assign (Is.nil 32)) rfl ?_
  refine LL.nil (after_code ?_)
  refine LW.seq ?_
  refine X.wghost (H' := .cells b3 34 (hsL h) :: .map m (mp hsKey (nV N)) :: Rf) (HSub.cons (HSub.cons (tls_drop N Rf))) ?_
  refine LW.region ?_
  refine X.act (LO.makeMap (st := ⟨_, _, _⟩) rfl (fun b11 => ?_))
  refine X.act (X.alloc rfl Try.zeroValue43 (by exact Cells.raw rfl) (fun b5 => ?_))
  refine X.act (X.store 0 rfl Try.sizeOf43 Is.rfl' Is.rfl' (by exact Cells.raw rfl) (by (simp; done)) (by (simp; done)) ?_)
  refine LL.nil (after_code ?_)
  refine LW.seq ?_
  refine LW.region ?_
  refine X.u (LU.weak (LU.loadO 2 rfl ⟨Try.sizeOf34, Try.isAgg34⟩ Is.rfl' (Part.sub (by (simp; omega)))) (Is.of (y := .agg (hsL h)) (hs_whole h))) rfl ?_
  refine X.u (LU.weak (LU.weak (LU.lits Try.underlying26 Try.sizeOf34 Try.zeroValue34 (ones rfl) rfl (by decide) (by decide) (Elems.cons Is.rfl' (by exact Cells.agg) Elems.nil) (by (simp; assumption)) rfl) (Is.of (y := .sl 32 (hss [h]) .full) (rfl))) (Is.full_tok 0 0)) rfl ?_
  refine X.act (X.alloc rfl Try.zeroValue26 (by exact Cells.raw rfl) (fun b6 => ?_))
  refine X.act (X.store 0 rfl Try.sizeOf26 Is.rfl' Is.rfl' (by exact Cells.sl) (by (simp; done)) (by (simp; done)) ?_)
  refine LL.nil (after_code ?_)
  refine LW.seq ?_
  refine LW.region ?_
  refine X.u (LU.closure (vs := [_, _]) (Opds.cons Is.rfl' (Opds.cons Is.rfl' Opds.nil))) rfl ?_
  refine X.u (LU.assignR Is.rfl') rfl ?_
  refine LL.nil (after_code ?_)
  refine LW.seq ?_
  refine LW.block ?_
  refine X.wghost (H' := visH b5 b6 b11 [] [h] 0 0 0 ++ (.map m (mp hsKey (nV N)) :: .cells b3 34 (hsL h) :: Rf)) (HSub.trans (HSub.tail0 0 0 0 (Nat.le_refl _) _) (by repeat (first | exact HSub.refl _ | refine HSub.pick 0 rfl ?_ | refine HSub.pick 1 rfl ?_ | refine HSub.pick 2 rfl ?_))) ?_
  refine X.loopK (α := Nat × List Hs × List (Hs × LV) × List Hs × Nat × Nat × Nat) (fun ⟨p, ks, M, todo, b, o, c⟩ => []) [0, 4, 5, 6, 7] (fun ⟨p, ks, M, todo, b, o, c⟩ => visH b5 b6 b11 M todo b o c ++ (.map m (mp hsKey (nV N)) :: .cells b3 34 (hsL h) :: Rf)) (fun ⟨p, ks, M, todo, b, o, c⟩ => Many M ks ∧ ks.Nodup ∧ todo = (h :: ks).drop p ∧ (∀ x ∈ (h :: ks).take p, ∀ d ∈ fN N x, d ∈ ks) ∧ ∀ x ∈ ks, Rch (fN N) h x) (fun ⟨p, ks, M, todo, b, o, c⟩ => T.length + 1 - p) ((0, [], [], [h], 0, 0, 0)) (EnvLe.nil) (by repeat (exact HSub.refl _)) ?_ ?_
  · exact ⟨Many.nil, List.nodup_nil, rfl, (fun x hx => by cases hx), fun x hx => by cases hx⟩
  · rintro ⟨p, ks, M, todo, b, o, c⟩ hI
    obtain ⟨hM, hn, htd, hcl, hr⟩ := hI
    have hkl := reach_len hT hn hr
    refine LW.seq ?_
    refine LW.seq ?_
    refine LW.region ?_
    refine X.u (LU.loadO 2 rfl ⟨Try.sizeOf26, Try.isAgg26⟩ Is.rfl' (Part.one rfl)) rfl ?_
    refine X.u (LU.lenN Try.underlying26 Is.rfl' (by (simp only [Option.getD_some, Option.getD_none, byteEls_length, intEls_length, List.length_append, List.length_cons, List.length_nil, List.length_map, List.length_drop, List.length_take, Int.toNat_natCast]; rfl))) rfl ?_
    refine X.u (LU.gtr Is.rfl' Is.rfl') rfl ?_
    refine LL.nil (after_code ?_)
    refine X.cond rfl (fun h4 => ?_) (fun h4 => ?_)
    · obtain ⟨x, rest, hxr⟩ := ne_cons (l := todo) (by simp at h4; exact h4)
      have hx3 : x.1.length = 32 := x.2
      have hnl := hNl x
      have hpl : p < ks.length + 1 := (drop_more (htd.symm.trans hxr) []).2.2
      have hxm : x ∈ h :: ks := List.mem_of_mem_drop (i := p) (by rw [← htd, hxr]; simp)
      refine LW.skip (after_code ?_)
      refine LW.block ?_
      refine LW.seq ?_
      refine LW.region ?_
      refine X.u (LU.loadO 2 rfl ⟨Try.sizeOf26, Try.isAgg26⟩ Is.rfl' (Part.one rfl)) rfl ?_
      refine X.u (LU.at Try.underlying26 ⟨Try.sizeOf34, Try.isAgg34⟩ Is.rfl' Is.rfl' (by omega) (by rw [hxr]; rfl) (hs_ne x)) rfl ?_
      refine X.u (LU.weak (LU.load ⟨Try.sizeOf34, Try.isAgg34⟩ Is.rfl' (by (simp; omega)) (Part.whole (by (simp; omega)))) (Is.of (y := .agg (hsL x)) (rfl))) rfl ?_
      refine X.act (X.alloc rfl Try.zeroValue34 (by exact Cells.rawagg (by decide)) (fun b8 => ?_))
      refine X.act (X.store 0 rfl Try.sizeOf34 Is.rfl' Is.rfl' (by exact Cells.agg) (by (simp; omega)) (by exact Nat.le_of_ble_eq_true rfl) ?_)
      refine LL.nil (after_code ?_)
      refine LW.seq ?_
      refine X.wcells (ys := hsL x) (putAt_all (by rw [List.length_map, hx3]; rfl)) ?_
      refine LW.region ?_
      refine X.u (LU.loadO 3 rfl ⟨Try.sizeOf26, Try.isAgg26⟩ Is.rfl' (Part.one rfl)) rfl ?_
      refine X.u (LU.weak (LU.slice (lo := some _) (hi := none) (l := some (1 : Int)) (h := none) Try.sizeOf34 (by decide) Try.underlying26 Is.rfl' ⟨_, Is.rfl'⟩ trivial (by decide) (by rw [hxr]; simp; omega) (by simp) (.tok b o c) (.inr ⟨rfl, rfl⟩)) (Is.of (y := .sl 32 (hss rest) (.tok b o c)) (congrArg (fun z => LV.sl 32 z (.tok b o c)) ((hss_drop todo 1).trans (by rw [hxr]; rfl))))) rfl ?_
      refine X.act (X.store 3 rfl Try.sizeOf26 Is.rfl' Is.rfl' (by exact Cells.sl) (by (simp; done)) (by (simp; done)) ?_)
      refine LL.nil (after_code ?_)
      refine LW.seq ?_
      refine LW.region ?_
      refine X.u (LU.moveR Is.rfl') rfl ?_
      refine X.u (LU.weak (LU.loadO 1 rfl ⟨Try.sizeOf34, Try.isAgg34⟩ Is.rfl' (Part.sub (by (simp; omega)))) (Is.of (y := .agg (hsL x)) (hs_whole x))) rfl ?_
      refine X.u (LU.weak (LU.lookup 5 (KeyOk.hs Try.underlying34 Try.underlying5 Try.sizeOf5) rfl Try.underlying44 Try.zeroValue26 Is.rfl' (by exact Is.hk _)) ((nV_is N x).trans Is.unk)) rfl ?_
      refine X.u (LU.lenN Try.underlying26 Is.rfl' (by (simp only [Option.getD_some, Option.getD_none, byteEls_length, intEls_length, List.length_append, List.length_cons, List.length_nil, List.length_map, List.length_drop, List.length_take, Int.toNat_natCast]; rfl))) rfl ?_
      refine X.u (LU.moveR Is.rfl') rfl ?_
      refine LL.nil (after_code ?_)
      refine LW.block ?_
      refine X.loopK (α := Nat × List Hs × List (Hs × LV) × List Hs × Nat × Nat × Nat) (fun ⟨j, ks2, M2, td2, b2, o2, c2⟩ => [(27, i64 j)]) [0, 4, 5, 6, 7, 25, 26] (fun ⟨j, ks2, M2, td2, b2, o2, c2⟩ => visH b5 b6 b11 M2 td2 b2 o2 c2 ++ (.cells b8 34 (hsL x) :: .map m (mp hsKey (nV N)) :: .cells b3 34 (hsL h) :: Rf)) (fun ⟨j, ks2, M2, td2, b2, o2, c2⟩ => j ≤ (curN N x).es.length ∧ Many M2 ks2 ∧ ks2.Nodup ∧ (∃ more, ks2 = ks ++ more ∧ td2 = rest ++ more) ∧ (∀ d ∈ (curN N x).es.take j, d ∈ ks2) ∧ ∀ x ∈ ks2, Rch (fN N) h x) (fun ⟨j, ks2, M2, td2, b2, o2, c2⟩ => (curN N x).es.length - j) ((0, ks, M, rest, b, o, c)) (EnvLe.cons (by rfl) (EnvLe.nil)) (by repeat (first | exact HSub.refl _ | refine HSub.pick 0 rfl ?_ | refine HSub.pick 1 rfl ?_ | refine HSub.pick 2 rfl ?_)) ?_ ?_
      · exact ⟨Nat.zero_le _, hM, hn, ⟨[], by simp, by simp⟩, (fun d hd => by simp at hd), hr⟩
      · rintro ⟨j, ks2, M2, td2, b2, o2, c2⟩ hI
        obtain ⟨hj, hM2, hn2, hmore, hall2, hr2⟩ := hI
        have hkl2 := reach_len hT hn2 hr2
        refine LW.seq ?_
        refine LW.region ?_
        refine X.u (LU.lss Is.rfl' Is.rfl') rfl ?_
        refine LL.nil (after_code ?_)
        refine LW.seq ?_
        refine X.cond rfl (fun h8 => ?_) (fun h8 => ?_)
        · try have h8 := of_decide_eq_true h8
          refine LW.skip (after_code ?_)
          refine LW.seq ?_
          refine LW.block ?_
          refine LW.seq ?_
          obtain ⟨e_, hd2⟩ := at_lt (show j < (curN N x).es.length by omega)
          have hdl : e_.1.length = 32 := e_.2
          have htl2 : td2.length ≤ 1000001 := by
            obtain ⟨more, hk2, ht2⟩ := hmore
            have e1 := (drop_more (htd.symm.trans hxr) more).1
            rw [← ht2] at e1
            rw [← e1, List.length_drop]
            have : (h :: ks ++ more).length = ks2.length + 1 := by rw [hk2]; rfl
            omega
          refine LW.region ?_
          refine X.u (LU.at Try.underlying26 ⟨Try.sizeOf34, Try.isAgg34⟩ Is.rfl' Is.rfl' (by omega) (hss_at hd2) (hs_ne e_)) rfl ?_
          refine X.u (LU.weak (LU.load ⟨Try.sizeOf34, Try.isAgg34⟩ Is.rfl' (by (simp; omega)) (Part.whole (by (simp; omega)))) (Is.of (y := .agg (hsL e_)) (rfl))) rfl ?_
          refine X.act (X.alloc rfl Try.zeroValue34 (by exact Cells.rawagg (by decide)) (fun b10 => ?_))
          refine X.act (X.store 0 rfl Try.sizeOf34 Is.rfl' Is.rfl' (by exact Cells.agg) (by (simp; omega)) (by exact Nat.le_of_ble_eq_true rfl) ?_)
          refine LL.nil (after_code ?_)
          refine X.wcells (ys := hsL e_) (putAt_all (by rw [List.length_map, hdl]; rfl)) ?_
          have hfn := vis_fn b5 b6 b11 M2 ks2 td2 b2 o2 c2 e_ hM2 hn2 htl2
          refine LW.region ?_
          refine X.u (LU.moveR Is.rfl') rfl ?_
          refine X.u (LU.weak (LU.loadO 0 rfl ⟨Try.sizeOf34, Try.isAgg34⟩ Is.rfl' (Part.sub (by (simp; omega)))) (Is.of (y := .agg (hsL e_)) (hs_whole e_))) rfl ?_
          refine X.act (X.callF (hfn) Is.rfl' rfl (HSub.pick 1 rfl (HSub.pick 1 rfl (HSub.pick 1 rfl (HSub.pick 1 rfl (HSub.refl _))))) (Opds.cons Is.rfl' Opds.nil) ?_)
          rintro r H' ⟨M3, b3_, o3_, c3_, rfl, rfl, hM3⟩
          refine LL.nil (after_blk (after_code ?_))
          refine LW.region ?_
          refine X.u (LU.addN Is.rfl' Is.rfl' (wrap_i64 (by omega) (by omega))) rfl ?_
          refine X.u (LU.moveR Is.rfl') rfl ?_
          refine LL.nil (after_rnd ?_)
          refine X.next ((j + 1, ks2 ++ newS ks2 e_, M3, td2 ++ newS ks2 e_, b3_, o3_, c3_)) rfl (EnvLe.cons (by rfl) (EnvLe.nil)) (Keeps.cons (by exact Eq.trans (b := .raw _) rfl rfl) (Keeps.cons (by exact Eq.trans (b := .sl _ _ _) rfl rfl) (Keeps.cons (by exact Eq.trans (b := .raw _) rfl rfl) (Keeps.cons (by exact Eq.trans (b := .raw _) rfl rfl) (Keeps.cons (by exact Eq.trans (b := .raw _) rfl rfl) (Keeps.cons (by exact Eq.trans (b := .sl _ _ _) rfl rfl) (Keeps.cons (by exact Eq.trans (b := .raw _) rfl rfl) (Keeps.nil)))))))) (by repeat (first | exact HSub.refl _ | refine HSub.pick 0 rfl ?_ | refine HSub.pick 1 rfl ?_ | refine HSub.drop ?_)) ?_ ?_
          · refine ⟨by omega, hM3, newS_nodup hn2 e_, ?_, ?_, ?_⟩
            · obtain ⟨more, hk2, ht2⟩ := hmore
              exact ⟨more ++ newS ks2 e_, by rw [← List.append_assoc, ← hk2], by rw [← List.append_assoc, ← ht2]⟩
            · intro d_ hd_
              rw [take_snoc hd2, List.mem_append, List.mem_singleton] at hd_
              exact newS_mem.2 (hd_.imp (hall2 d_) id)
            · intro y hy
              rcases newS_mem.1 hy with hy | hy
              · exact hr2 y hy
              · have he := List.mem_of_getElem? hd2
                rw [hy]
                rcases List.mem_cons.1 hxm with e | e
                · rw [e] at he; exact .one he
                · exact .step (hr x e) he
          · (simp; omega)
        · try have h8 := of_decide_eq_false h8
          refine LW.exit (exit_code (exit_rnd (exit_blk (after_blk (after_rnd ?_)))))
          refine X.next ((p + 1, ks2, M2, td2, b2, o2, c2)) rfl (EnvLe.nil) (Keeps.cons (by exact Eq.trans (b := .raw _) rfl rfl) (Keeps.cons (by exact Eq.trans (b := .sl _ _ _) rfl rfl) (Keeps.cons (by exact Eq.trans (b := .raw _) rfl rfl) (Keeps.cons (by exact Eq.trans (b := .raw _) rfl rfl) (Keeps.cons (by exact Eq.trans (b := .raw _) rfl rfl) (Keeps.nil)))))) (by repeat (first | exact HSub.refl _ | refine HSub.pick 0 rfl ?_ | refine HSub.pick 1 rfl ?_ | refine HSub.drop ?_)) ?_ ?_
          · refine ⟨hM2, hn2, ?_, ?_, hr2⟩
            · obtain ⟨more, hk2, ht2⟩ := hmore
              rw [ht2, hk2]
              exact (drop_more (htd.symm.trans hxr) more).1.symm
            · obtain ⟨more, hk2, ht2⟩ := hmore
              have dm := drop_more (htd.symm.trans hxr) more
              intro y hy d_ hd_
              rw [hk2] at hy
              have hy : y ∈ ((h :: ks) ++ more).take (p + 1) := hy
              rw [dm.2.1] at hy
              rcases List.mem_append.1 hy with e | e
              · rw [hk2]; exact List.mem_append_left _ (hcl y e d_ hd_)
              · rw [List.mem_singleton.1 e] at hd_
                exact hall2 d_ (by rw [List.take_of_length_le (by omega)]; exact hd_)
          · (simp; omega)
    · have hnil : todo = [] := by simp at h4; exact h4
      refine LW.exit (exit_code (exit_rnd (exit_blk (after_code ?_))))
      refine LW.seq ?_
      have hpl2 : (h :: ks).length ≤ p := List.drop_eq_nil_iff.1 (htd.symm.trans hnil)
      have hks : ∀ x, x ∈ ks ↔ Rch (fN N) h x := reach_all (fun y hy => hcl y (by rw [List.take_of_length_le hpl2]; exact hy)) hr
      have hso := sorted_calls b11 M hM.keys (by rw [hM.len.2 hn]; omega)
      refine LW.region ?_
      refine X.u (LU.loadO 0 rfl ⟨Try.sizeOf43, Try.isAgg43⟩ Is.rfl' (Part.one rfl)) rfl ?_
      refine X.act (X.call (hso) Try.func32 rfl rfl rfl (by (refine HSub.pick 1 rfl ?_); exact HSub.refl _) (Opds.cons Is.rfl' (Opds.cons Is.rfl' Opds.nil)) ?_)
      rintro r H' ⟨ks', rfl, rfl, hks', hkm⟩
      refine X.u (LU.assignS Is.rfl') rfl ?_
      refine LL.nil (after_code ?_)
      refine LW.ret (after_end ?_)
      refine X.ret (H' := []) (Res.one (by exact IsS rfl)) (by repeat (first | exact HSub.refl _ | refine HSub.drop ?_)) ?_
      exact ⟨ks', rfl, rfl, hks', fun x => by rw [hkm, hM.mem, hks]⟩
end Go.Proofs.Ytmaeepckfbnpjaa
