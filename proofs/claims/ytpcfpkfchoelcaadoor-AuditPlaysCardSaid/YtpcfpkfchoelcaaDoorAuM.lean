/- Whatever is noted, a log answers, and has the entries and the head, as the document says; and so does one that is loaded of its entries. -/
import Derived.Test.YtpcfpkfchoelcaaDoorAuL
set_option linter.unusedVariables false
set_option linter.unusedSimpArgs false
namespace Go.Proofs.YtpcfpkfchoelcaaDoor
open Go.RowKit Go.L
attribute [local irreducible] LL LW LO
theorem loadC_calls (l : List Ent) (k : Cap) (hl : l.length < 140737488355328) (hok : ∀ e ∈ l, EntOk e) (hc : Chain l) : LCalls Tryd.prog 21 [.sl 36 (ents l) k] [kw] (fun r H' => ∃ g hv b o c, HeadOk hv l ∧ r = .tup [pt g, i64 0] ∧ H' = [lg g l hv b o c, .tail b o c, kw]) :=
  (load_calls l k hl hok).mono fun r H' h => by
    rcases h with ⟨g, hv, b, o, c, _, h1, _, h2, h3⟩ | ⟨h, _⟩
    · exact ⟨g, hv, b, o, c, h1, h2, h3⟩
    · rw [hc.ver] at h; omega
set_option maxHeartbeats 2000000 in
set_option maxRecDepth 100000 in
theorem ap_calls (l : List Ac) (hl : l.length < 140737488355328) (hok : ∀ a ∈ l, AcOk a) : LCalls Tryd.prog 7 [.sl 4 (acts l) .unk] [kw] (fun r H' => r = bl true ∧ H' = [kw]) := by
  refine LCalls.of Tryd.func7 rfl Tryd.ntmps7 Tryd.results7 rfl (fun Rf => ?_)
  refine LW.seq ?_
  refine LW.region ?_
  refine X.u (LU.assignR Is.rfl') rfl ?_
  refine LL.nil (after_code ?_)
  refine LW.seq ?_
  refine LW.seq ?_
  refine LW.region ?_
  refine X.u (LU.moveS Is.rfl') rfl ?_
  refine X.act (X.call (few_calls l .unk hl hok) Tryd.func19 rfl rfl rfl (HSub.refl _) (Opds.cons Is.rfl' Opds.nil) ?_)
  rintro r H' ⟨fb, rfl, rfl, hfew⟩
  refine X.u (LU.not Is.rfl') rfl ?_
  refine LL.nil (after_code ?_)
  refine X.cond rfl (fun h1 => ?_) (fun h1 => ?_)
  · try have h1 := of_decide_eq_true h1
    refine LW.seq ?_
    refine LW.region ?_
    refine X.u (LU.call1 0 rfl (lives19_calls) Tryd.func9 rfl rfl Opds.nil) rfl ?_
    refine X.u (LU.assignR Is.rfl') rfl ?_
    refine LL.nil (after_code ?_)
    refine LW.ret (ret_code (after_end ?_))
    refine X.ret (H' := [kw]) (Res.one (by exact IsR rfl)) (by repeat (exact HSub.refl _)) ?_
    exact ⟨rfl, rfl⟩
  · have h60 : l.length ≤ 60 := hfew (by simpa using h1)
    refine LW.skip (after_code ?_)
    refine LW.seq ?_
    refine LW.region ?_
    refine X.act (X.call (new_calls19) Tryd.func20 rfl rfl rfl (HSub.refl _) Opds.nil ?_)
    rintro r H' ⟨g0, hv0, hh0, rfl, rfl⟩
    refine X.u (LU.assignR Is.rfl') rfl ?_
    refine LL.nil (after_code ?_)
    refine LW.seq ?_
    refine LW.region ?_
    refine X.u (LU.weak (LU.assign (Is.nil 36)) ((Is.unk : Is (.sl 36 [] _) _))) rfl ?_
    refine LL.nil (after_code ?_)
    refine LW.seq ?_
    refine LW.seq ?_
    refine LW.region ?_
    refine X.u (LU.moveS Is.rfl') rfl ?_
    refine X.u (LU.lenN Tryd.underlying46 Is.rfl' (by (simp only [Option.getD_some, Option.getD_none, byteEls_length, intEls_length, List.length_append, List.length_cons, List.length_nil, List.length_map, List.length_drop, List.length_take, Int.toNat_natCast]; rfl))) rfl ?_
    refine X.u (LU.moveR Is.rfl') rfl ?_
    refine LL.nil (after_code ?_)
    refine LW.block ?_
    refine X.loopK (α := Nat × List Ent × Nat × Value × Nat × Nat × Nat) (fun ⟨i, es, g, hv, b, o, c⟩ => [(22, i64 i), (3, pt g), (4, .sl 36 (ents es) .unk)]) [20, 21] (fun ⟨i, es, g, hv, b, o, c⟩ => lg g es hv b o c :: .tail b o c :: kw :: Rf) (fun ⟨i, es, g, hv, b, o, c⟩ => i ≤ l.length ∧ es.length ≤ i ∧ HeadOk hv es ∧ Chain es ∧ ∀ e ∈ es, EntOk e) (fun ⟨i, es, g, hv, b, o, c⟩ => l.length - i) ((0, [], g0, hv0, 0, 0, 0)) (EnvLe.cons (by rfl) (EnvLe.cons (by rfl) (EnvLe.cons (by rfl) (EnvLe.nil)))) (by repeat (exact HSub.refl _)) ?_ ?_
    · exact ⟨Nat.zero_le _, Nat.le_refl _, hh0, Chain.nil, by simp⟩
    · rintro ⟨i, es, g, hv, b, o, c⟩ hI
      obtain ⟨hi, hel, hh, hch, heo⟩ := hI
      refine LW.seq ?_
      refine LW.region ?_
      refine X.u (LU.lss Is.rfl' Is.rfl') rfl ?_
      refine LL.nil (after_code ?_)
      refine LW.seq ?_
      refine X.cond rfl (fun h6 => ?_) (fun h6 => ?_)
      · try have h6 := of_decide_eq_true h6
        refine LW.skip (after_code ?_)
        refine LW.seq ?_
        refine LW.block ?_
        refine LW.seq ?_
        obtain ⟨x, hx⟩ := at_lt (show i < l.length by omega)
        obtain ⟨hx1, hx2, hx3⟩ := hok x (List.mem_of_getElem? hx)
        have hpo : PrevOk es := fun e he => (heo e he).2.2.2.2
        have hap := fun g hv b o c (hh : HeadOk hv es) => append_calls19 g es hv b o c x.tick x.who x.what hh (by omega) hpo hx1.1 hx1.2
        have hra := rappend_calls es .unk x.tick x.who x.what (by omega) heo hx1.1 hx1.2
        have hNl := nxtE_len es x.tick x.who x.what
        obtain ⟨hc2, ho2, hl2, hl3, htk⟩ := add_facts hch heo x.tick x.who x.what
        obtain ⟨E2, hE2⟩ : ∃ E2, E2 = addE es x.tick x.who x.what := ⟨_, rfl⟩
        obtain ⟨N, hN⟩ : ∃ N, N = nxtE es x.tick x.who x.what := ⟨_, rfl⟩
        obtain ⟨E, hE⟩ : ∃ E, E = errN es x.tick x.who x.what := ⟨_, rfl⟩
        rw [← hN] at hNl
        rw [← hE2, ← hN, ← hE] at hap hra
        rw [← hE2] at hc2 ho2 hl2 hl3 htk
        clear hE2 hN hE
        have hpo2 : PrevOk E2 := fun e he => (ho2 e he).2.2.2.2
        have hrh := rhead_calls E2 .unk (by omega) ho2
        have hhl := headE_len E2
        refine LW.region ?_
        refine X.u (LU.at Tryd.underlying46 ⟨Tryd.sizeOf35, Tryd.isAgg35⟩ Is.rfl' Is.rfl' (by omega) (acts_at hx) (by simp)) rfl ?_
        refine X.u (LU.load ⟨Tryd.sizeOf35, Tryd.isAgg35⟩ Is.rfl' (by (simp; done)) (Part.whole (by (simp; done)))) rfl ?_
        refine X.act (X.alloc rfl Tryd.zeroValue35 (by exact Cells.rawagg (by decide)) (fun b6 => ?_))
        refine X.act (X.store 0 rfl Tryd.sizeOf35 Is.rfl' Is.rfl' (by exact Cells.agg) (by (simp; done)) (by exact Nat.le_of_ble_eq_true rfl) ?_)
        refine LL.nil (after_code ?_)
        refine X.meetK (α := Nat × Value × Nat × Nat × Nat) (fun ⟨g2, hv2, b2, o2, c2⟩ => [(3, pt g2)]) [4, 6, 20, 21, 22] (fun ⟨g2, hv2, b2, o2, c2⟩ => .cells b6 35 (acL x) :: lg g2 es hv2 b2 o2 c2 :: .tail b2 o2 c2 :: kw :: Rf) (fun ⟨g2, hv2, b2, o2, c2⟩ => HeadOk hv2 es) ?_ ?_
        · refine LW.seq ?_
          refine X.wcells (ys := acL x) (putAt_all (by simp [raws])) ?_
          refine LW.region ?_
          refine X.u (LU.fieldO Tryd.underlying35 rfl Tryd.sizeOf4 (by decide) Is.rfl') rfl ?_
          refine X.u (LU.loadO 0 rfl ⟨Tryd.sizeOf4, Tryd.isAgg4⟩ Is.rfl' (Part.one rfl)) rfl ?_
          refine LL.nil (after_code ?_)
          refine X.cond rfl (fun h8 => ?_) (fun h8 => ?_)
          · try have h8 := of_decide_eq_true h8
            refine LW.seq ?_
            refine LW.region ?_
            refine X.u (LU.moveR Is.rfl') rfl ?_
            refine X.u (LU.call1 1 rfl (entries_calls g es hv b o c (by omega) hpo) Tryd.func17 rfl rfl (Opds.cons Is.rfl' Opds.nil)) rfl ?_
            refine X.act (X.call (loadC_calls es .unk (by omega) heo hch) Tryd.func21 rfl rfl rfl (by (refine HSub.pick 3 rfl ?_); exact HSub.refl _) (Opds.cons Is.rfl' Opds.nil) ?_)
            rintro r H' ⟨g3, hv3, b3_, o3_, c3_, hh3, rfl, rfl⟩
            refine X.u (LU.moveT Is.rfl') rfl ?_
            refine X.u (LU.extract Is.rfl' rfl) rfl ?_
            refine X.u (LU.extract Is.rfl' rfl) rfl ?_
            refine X.u (LU.assignR Is.rfl') rfl ?_
            refine X.u (LU.assignR Is.rfl') rfl ?_
            refine LL.nil (after_code ?_)
            refine LW.seq ?_
            refine LW.seq ?_
            refine LW.region ?_
            refine X.u (LU.moveR Is.rfl') rfl ?_
            refine X.u (LU.nilEqS Tryd.underlying36 Is.rfl' Is.rfl') rfl ?_
            refine X.u (LU.moveR Is.rfl') rfl ?_
            refine X.doF rfl rfl (LU.moveR (by exact Is.rfl')) rfl ?_
            refine X.doF rfl rfl (LU.weak (LU.neq (by exact Is.rfl') (by exact Is.rfl')) (asB (c := false) rfl (by rfl))) rfl ?_
            refine X.u (LU.pickF Is.rfl' (by exact Is.rfl')) rfl ?_
            refine LL.nil (after_code ?_)
            refine X.condF rfl ?_ ?_
            · rfl
            refine LW.skip (after_code ?_)
            refine LW.region ?_
            refine X.u (LU.moveR Is.rfl') rfl ?_
            refine X.u (LU.assignR Is.rfl') rfl ?_
            refine LL.nil (after_rnd ?_)
            refine X.meets ((g3, hv3, b3_, o3_, c3_)) rfl (EnvLe.cons (by rfl) (EnvLe.nil)) (Keeps.cons (by exact Eq.trans (b := .sl _ _ _) rfl rfl) (Keeps.cons (by exact Eq.trans (b := .raw _) rfl rfl) (Keeps.cons (by exact Eq.trans (b := .sl _ _ _) rfl rfl) (Keeps.cons (by exact Eq.trans (b := .raw _) rfl rfl) (Keeps.cons (by exact Eq.trans (b := .raw _) rfl rfl) (Keeps.nil)))))) (by repeat (first | exact HSub.refl _ | refine HSub.pick 0 rfl ?_ | refine HSub.pick 3 rfl ?_ | refine HSub.drop ?_)) ?_
            exact hh3
          · try have h8 := of_decide_eq_false h8
            refine LW.skip (after_rnd ?_)
            refine X.meets ((g, hv, b, o, c)) rfl (EnvLe.cons (by rfl) (EnvLe.nil)) (Keeps.cons (by exact Eq.trans (b := .sl _ _ _) rfl rfl) (Keeps.cons (by exact Eq.trans (b := .raw _) rfl rfl) (Keeps.cons (by exact Eq.trans (b := .sl _ _ _) rfl rfl) (Keeps.cons (by exact Eq.trans (b := .raw _) rfl rfl) (Keeps.cons (by exact Eq.trans (b := .raw _) rfl rfl) (Keeps.nil)))))) (by repeat (exact HSub.refl _)) ?_
            exact hh
        · rintro ⟨g2, hv2, b2, o2, c2⟩ hI
          have hh2 := hI
          refine LW.seq ?_
          refine LW.region ?_
          refine X.u (LU.moveR Is.rfl') rfl ?_
          refine X.u (LU.fieldO Tryd.underlying35 rfl Tryd.sizeOf3 (by decide) Is.rfl') rfl ?_
          refine X.u (LU.loadO 0 rfl ⟨Tryd.sizeOf3, Tryd.isAgg3⟩ Is.rfl' (Part.one rfl)) rfl ?_
          refine X.u (LU.fieldO Tryd.underlying35 rfl Tryd.sizeOf9 (by decide) Is.rfl') rfl ?_
          refine X.u (LU.loadO 0 rfl ⟨Tryd.sizeOf9, Tryd.isAgg9⟩ Is.rfl' (Part.one rfl)) rfl ?_
          refine X.u (LU.fieldO Tryd.underlying35 rfl Tryd.sizeOf9 (by decide) Is.rfl') rfl ?_
          refine X.u (LU.loadO 0 rfl ⟨Tryd.sizeOf9, Tryd.isAgg9⟩ Is.rfl' (Part.one rfl)) rfl ?_
          refine X.act (X.call (hap g2 hv2 b2 o2 c2 hh2) Tryd.func16 rfl rfl rfl (by (refine HSub.pick 1 rfl ?_); (refine HSub.pick 1 rfl ?_); (refine HSub.pick 1 rfl ?_); exact HSub.refl _) (Opds.cons Is.rfl' (Opds.cons Is.rfl' (Opds.cons Is.rfl' (Opds.cons Is.rfl' Opds.nil)))) ?_)
          rintro r H' ⟨hv4, b4_, o4_, c4_, hh4, rfl, rfl⟩
          refine X.u (LU.moveT Is.rfl') rfl ?_
          refine X.u (LU.extract Is.rfl' rfl) rfl ?_
          refine X.u (LU.extract Is.rfl' rfl) rfl ?_
          refine X.act (X.alloc rfl Tryd.zeroValue28 (by exact Cells.rawagg (by decide)) (fun b9 => ?_))
          refine X.act (X.store 0 rfl Tryd.sizeOf28 Is.rfl' Is.rfl' (by exact Cells.agg) (by (simp; omega)) (by exact Nat.le_of_ble_eq_true rfl) ?_)
          refine X.u (LU.assignR Is.rfl') rfl ?_
          refine LL.nil (after_code ?_)
          refine LW.seq ?_
          refine X.wcells (ys := entL N) (putAt_all (by simp [raws, hNl])) ?_
          have hhd := head_calls g2 E2 hv4 b4_ o4_ c4_ hh4
          obtain ⟨HD, hHD⟩ : ∃ HD, HD = headE E2 := ⟨_, rfl⟩
          rw [← hHD] at hhd hrh hhl
          clear hHD
          refine LW.region ?_
          refine X.act (X.alloc rfl Tryd.zeroValue28 (by exact Cells.rawagg (by decide)) (fun b11 => ?_))
          refine LL.nil (after_code ?_)
          refine LW.seq ?_
          refine LW.region ?_
          refine X.u (LU.assignR Is.rfl') rfl ?_
          refine LL.nil (after_code ?_)
          refine LW.seq ?_
          refine LW.region ?_
          refine X.u (LU.moveS Is.rfl') rfl ?_
          refine X.u (LU.fieldO Tryd.underlying35 rfl Tryd.sizeOf3 (by decide) Is.rfl') rfl ?_
          refine X.u (LU.loadO 5 rfl ⟨Tryd.sizeOf3, Tryd.isAgg3⟩ Is.rfl' (Part.one rfl)) rfl ?_
          refine X.u (LU.fieldO Tryd.underlying35 rfl Tryd.sizeOf9 (by decide) Is.rfl') rfl ?_
          refine X.u (LU.loadO 5 rfl ⟨Tryd.sizeOf9, Tryd.isAgg9⟩ Is.rfl' (Part.one rfl)) rfl ?_
          refine X.u (LU.fieldO Tryd.underlying35 rfl Tryd.sizeOf9 (by decide) Is.rfl') rfl ?_
          refine X.u (LU.loadO 5 rfl ⟨Tryd.sizeOf9, Tryd.isAgg9⟩ Is.rfl' (Part.one rfl)) rfl ?_
          refine X.u (LU.call (hra) Tryd.func22 rfl rfl (Opds.cons Is.rfl' (Opds.cons Is.rfl' (Opds.cons Is.rfl' (Opds.cons Is.rfl' Opds.nil))))) rfl ?_
          refine X.u (LU.moveT Is.rfl') rfl ?_
          refine X.u (LU.extract Is.rfl' rfl) rfl ?_
          refine X.u (LU.extract Is.rfl' rfl) rfl ?_
          refine X.u (LU.extract Is.rfl' rfl) rfl ?_
          refine X.u (LU.assignS Is.rfl') rfl ?_
          refine X.act (X.store 0 rfl Tryd.sizeOf28 Is.rfl' Is.rfl' (by exact Cells.agg) (by (simp; omega)) (by exact Nat.le_of_ble_eq_true rfl) ?_)
          refine X.u (LU.assignR Is.rfl') rfl ?_
          refine LL.nil (after_code ?_)
          refine LW.seq ?_
          refine LW.seq ?_
          refine X.wcells (ys := entL N) (putAt_all (by simp [raws, hNl, zeroE, zero32])) ?_
          refine LW.region ?_
          refine X.u (LU.loadO 1 rfl ⟨Tryd.sizeOf28, Tryd.isAgg28⟩ Is.rfl' (Part.whole (by (simp; omega)))) rfl ?_
          refine X.u (LU.loadO 0 rfl ⟨Tryd.sizeOf28, Tryd.isAgg28⟩ Is.rfl' (Part.whole (by (simp; omega)))) rfl ?_
          refine X.u (LU.weak (LU.neqEnt hNl hNl Is.rfl' Is.rfl') (asB (c := false) rfl (by simp))) rfl ?_
          refine X.u (LU.moveR Is.rfl') rfl ?_
          refine X.doF rfl rfl (LU.moveR (by exact Is.rfl')) rfl ?_
          refine X.doF rfl rfl (LU.moveR (by exact Is.rfl')) rfl ?_
          refine X.doF rfl rfl (LU.weak (LU.neq (by exact Is.rfl') (by exact Is.rfl')) (asB (c := false) rfl (by simp))) rfl ?_
          refine X.u (LU.pickF Is.rfl' (by exact Is.rfl')) rfl ?_
          refine X.u (LU.moveR Is.rfl') rfl ?_
          refine X.doF rfl rfl (LU.moveR (by exact Is.rfl')) rfl ?_
          refine X.actG rfl rfl (X.call (hhd) Tryd.func18 rfl rfl rfl (by (refine HSub.pick 2 rfl ?_); (refine HSub.pick 3 rfl ?_); exact HSub.refl _) (Opds.cons (by exact Is.rfl') Opds.nil) ?_)
          rintro r H' ⟨rfl, rfl⟩
          refine X.doF rfl rfl (LU.moveS (by exact Is.rfl')) rfl ?_
          refine X.doF rfl rfl (LU.call (hrh) Tryd.func11 rfl rfl (Opds.cons (by exact Is.rfl') Opds.nil)) rfl ?_
          refine X.doF rfl rfl (LU.weak (LU.neqH hhl hhl (by exact Is.rfl') (by exact Is.rfl')) (asB (c := false) rfl (by simp))) rfl ?_
          refine X.u (LU.pickF Is.rfl' (by exact Is.rfl')) rfl ?_
          refine LL.nil (after_code ?_)
          refine X.condF rfl ?_ ?_
          · rfl
          refine LW.skip (after_code ?_)
          refine LW.seq ?_
          refine LW.region ?_
          refine X.u (LU.moveR Is.rfl') rfl ?_
          refine X.act (X.call (entriesO_calls g2 E2 hv4 b4_ o4_ c4_ (by omega) hpo2) Tryd.func17 rfl rfl rfl (by (refine HSub.pick 0 rfl ?_); exact HSub.refl _) (Opds.cons Is.rfl' Opds.nil) ?_)
          rintro r H' ⟨b8_, c8_, rest8, rfl, hc8, rfl⟩
          refine X.u (LU.assignR Is.rfl') rfl ?_
          refine LL.nil (after_code ?_)
          refine LW.seq ?_
          refine LW.seq ?_
          have hfl := ents_flat_len hpo2
          have hfit : 0 + E2.length * 36 ≤ ((ents E2).flatten ++ raws rest8).length := by rw [List.length_append, hfl]; omega
          have hfe : (ents E2).flatten = (((ents E2).flatten ++ raws rest8).drop 0).take (E2.length * 36) := by rw [List.drop_zero, List.take_append_of_le_length (by omega), List.take_of_length_le (by omega)]
          have hel2 : (ents E2).length = E2.length := List.length_map ..
          refine LW.region ?_
          refine X.u (LU.moveR Is.rfl') rfl ?_
          refine X.u (LU.moveS Is.rfl') rfl ?_
          refine X.u (LU.weak (LU.lend (same_calls E2 E2 .unk .unk (by omega) (by omega) hpo2 hpo2) Tryd.func14 rfl rfl (OpdsL.cons (by exact IsL.cells 0 rfl Is.rfl' (ents_size hpo2) hel2 hfit hfe hc8) (OpdsL.cons (by exact IsL.rfl') OpdsL.nil))) (asB (c := true) rfl (by exact decide_eq_true rfl))) rfl ?_
          refine X.u (LU.not Is.rfl') rfl ?_
          refine LL.nil (after_code ?_)
          refine X.condF rfl ?_ ?_
          · rfl
          refine LW.skip (after_code ?_)
          refine LW.seq ?_
          obtain ⟨F, hF⟩ : ∃ F, F = (ents E2).flatten ++ raws rest8 := ⟨_, rfl⟩
          rw [← hF] at hfit ⊢
          refine LW.region ?_
          refine X.u (LU.moveR Is.rfl') rfl ?_
          refine X.u (LU.lenO Tryd.underlying22 Is.rfl') rfl ?_
          refine X.u (LU.moveR Is.rfl') rfl ?_
          refine LL.nil (after_code ?_)
          refine LW.block ?_
          refine X.loopK (α := Nat × List LV) (fun ⟨j, xs⟩ => [(87, i64 j)]) [3, 4, 13, 20, 21, 22, 86] (fun ⟨j, xs⟩ => .cells b8_ 28 xs :: lg g2 E2 hv4 b4_ o4_ c4_ :: .tail b4_ o4_ c4_ :: kw :: Rf) (fun ⟨j, xs⟩ => j ≤ E2.length ∧ E2.length * 36 ≤ xs.length) (fun ⟨j, xs⟩ => E2.length - j) ((0, F)) (EnvLe.cons (by rfl) (EnvLe.nil)) (by repeat (first | exact HSub.refl _ | refine HSub.pick 0 rfl ?_ | refine HSub.pick 3 rfl ?_ | refine HSub.drop ?_)) ?_ ?_
          · exact ⟨Nat.zero_le _, by omega⟩
          · rintro ⟨j, xs⟩ hI
            refine LW.seq ?_
            refine LW.region ?_
            refine X.u (LU.lss Is.rfl' Is.rfl') rfl ?_
            refine LL.nil (after_code ?_)
            refine LW.seq ?_
            refine X.cond rfl (fun h23 => ?_) (fun h23 => ?_)
            · try have h23 := of_decide_eq_true h23
              refine LW.skip (after_code ?_)
              refine LW.seq ?_
              refine LW.block ?_
              refine LW.seq ?_
              refine LW.region ?_
              refine X.u (LU.moveR Is.rfl') rfl ?_
              refine X.u (LU.assignR Is.rfl') rfl ?_
              refine LL.nil (after_code ?_)
              refine LW.region ?_
              refine X.u (LU.moveR Is.rfl') rfl ?_
              refine X.u (LU.moveR Is.rfl') rfl ?_
              refine X.u (LU.atO Tryd.underlying22 Tryd.sizeOf28 Is.rfl' Is.rfl' (by omega) (by omega)) rfl ?_
              refine X.u (LU.fieldO Tryd.underlying28 rfl Tryd.sizeOf9 (by decide) Is.rfl') rfl ?_
              refine X.act (X.store 0 rfl Tryd.sizeOf9 Is.rfl' Is.rfl' (by exact Cells.raw rfl) (by (simp; done)) (by (simp; omega)) ?_)
              refine LL.nil (after_blk (after_code ?_))
              refine X.wcells (congrArg (fun o => putAt xs o [Str [115, 112, 111, 105, 108, 116]]) (show _ = j * 36 + 3 by simp)) ?_
              refine LW.region ?_
              refine X.u (LU.addN Is.rfl' Is.rfl' (wrap_i64 (by omega) (by omega))) rfl ?_
              refine X.u (LU.moveR Is.rfl') rfl ?_
              refine LL.nil (after_rnd ?_)
              refine X.next ((j + 1, putAt xs (j * 36 + 3) [Str [115, 112, 111, 105, 108, 116]])) rfl (EnvLe.cons (by rfl) (EnvLe.nil)) (Keeps.cons (by exact Eq.trans (b := .raw _) rfl rfl) (Keeps.cons (by exact Eq.trans (b := .sl _ _ _) rfl rfl) (Keeps.cons (by exact Eq.trans (b := .raw _) rfl rfl) (Keeps.cons (by exact Eq.trans (b := .sl _ _ _) rfl rfl) (Keeps.cons (by exact Eq.trans (b := .raw _) rfl rfl) (Keeps.cons (by exact Eq.trans (b := .raw _) rfl rfl) (Keeps.cons (by exact Eq.trans (b := .raw _) rfl rfl) (Keeps.nil)))))))) (by repeat (exact HSub.refl _)) ?_ ?_
              · exact ⟨by omega, by rw [putAt_length _ _ _ (by simp; omega)]; omega⟩
              · (simp; omega)
            · try have h23 := of_decide_eq_false h23
              refine LW.exit (exit_code (exit_rnd (exit_blk (after_blk (after_code ?_)))))
              refine LW.region ?_
              refine X.u (LU.addN Is.rfl' Is.rfl' (wrap_i64 (by omega) (by omega))) rfl ?_
              refine X.u (LU.moveR Is.rfl') rfl ?_
              refine LL.nil (after_rnd ?_)
              refine X.next ((i + 1, E2, g2, hv4, b4_, o4_, c4_)) rfl (EnvLe.cons (by rfl) (EnvLe.cons (by rfl) (EnvLe.cons (by rfl) (EnvLe.nil)))) (Keeps.cons (by exact Eq.trans (b := .sl _ _ _) rfl rfl) (Keeps.cons (by exact Eq.trans (b := .raw _) rfl rfl) (Keeps.nil))) (by repeat (first | exact HSub.refl _ | refine HSub.pick 1 rfl ?_ | refine HSub.drop ?_)) ?_ ?_
              · exact ⟨by omega, by omega, hh4, hc2, ho2⟩
              · (simp; omega)
      · try have h6 := of_decide_eq_false h6
        obtain rfl : i = l.length := by omega
        have hpo : PrevOk es := fun e he => (heo e he).2.2.2.2
        refine LW.exit (exit_code (exit_rnd (exit_blk (after_code ?_))))
        refine LW.seq ?_
        refine LW.region ?_
        refine X.u (LU.moveR Is.rfl') rfl ?_
        refine X.u (LU.call1 0 rfl (entries_calls g es hv b o c (by omega) hpo) Tryd.func17 rfl rfl (Opds.cons Is.rfl' Opds.nil)) rfl ?_
        refine X.u (LU.moveS Is.rfl') rfl ?_
        refine X.u (LU.weak (LU.call (same_calls es es .unk .unk (by omega) (by omega) hpo hpo) Tryd.func14 rfl rfl (Opds.cons Is.rfl' (Opds.cons Is.rfl' Opds.nil))) (asB (c := true) rfl (by exact decide_eq_true rfl))) rfl ?_
        refine X.u (LU.moveR Is.rfl') rfl ?_
        refine X.doT rfl rfl (LU.call1 2 rfl (lives19_calls) Tryd.func9 rfl rfl Opds.nil) rfl ?_
        refine X.u (LU.pickT Is.rfl' (by exact Is.rfl')) rfl ?_
        refine X.u (LU.assignR Is.rfl') rfl ?_
        refine LL.nil (after_code ?_)
        refine LW.ret (after_end ?_)
        refine X.ret (H' := [kw]) (Res.one (by exact IsR rfl)) (by repeat (first | exact HSub.refl _ | refine HSub.pick 2 rfl ?_ | refine HSub.drop ?_)) ?_
        exact ⟨rfl, rfl⟩
theorem AuditPlays_row (x0 : List (List LV)) (h0 : ∀ c ∈ x0, QAc c) (h1 : x0.length * 48 ≤ reachBytes) : LCalls Tryd.prog 7 [.sl 4 x0 .unk] [kw] (fun r H' => r = bl true ∧ H' = [kw]) := by
  obtain ⟨l, rfl, hin⟩ := of_acs h0
  rw [List.length_map] at h1
  have hr := reachBytes_lt
  exact ap_calls l (by omega) hin
end Go.Proofs.YtpcfpkfchoelcaaDoor
