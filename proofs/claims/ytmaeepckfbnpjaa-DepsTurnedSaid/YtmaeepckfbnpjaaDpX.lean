/- The document's Needs. -/
import Derived.Test.YtmaeepckfbnpjaaDpW
set_option linter.unusedVariables false
set_option linter.unusedSimpArgs false
namespace Go.Proofs.Ytmaeepckfbnpjaa
open Go.RowKit Go.L Go.Lib
attribute [local irreducible] LL LW LO
/-- What is told while a hash's needs are gone through. -/
structure Wk (f : Hs → List Hs) (h : Hs) (ks out todo : List Hs) : Prop where
  nd : ks.Nodup
  out : out = sortU ks
  todo : todo = h :: ks
  rch : ∀ x ∈ ks, Rch f h x
theorem Wk.add {f : Hs → List Hs} {h : Hs} {ks out todo : List Hs} (w : Wk f h ks out todo) {e : Hs} (he : e ∉ ks) (hr : Rch f h e) : Wk f h (ks ++ [e]) (withS out e) (todo ++ [e]) :=
  ⟨nodup_snoc.2 ⟨w.nd, he⟩, by rw [w.out, withS_sortU], by rw [w.todo]; rfl, fun x hx => by
    rcases List.mem_append.1 hx with e | e
    · exact w.rch x e
    · rw [List.mem_singleton.1 e]; exact hr⟩
theorem todo_at {h : Hs} {ks more : List Hs} {n : Nat} {x : Hs} (hx : (h :: ks)[n]? = some x) : (h :: (ks ++ more))[n]? = some x := by
  have := (List.getElem?_eq_some_iff.1 hx).1
  rw [show h :: (ks ++ more) = (h :: ks) ++ more from rfl, List.getElem?_append_left this]; exact hx
theorem todo_take {h : Hs} {ks more : List Hs} {n : Nat} {x : Hs} (hx : (h :: ks)[n]? = some x) : (h :: (ks ++ more)).take (n + 1) = (h :: ks).take n ++ [x] := by
  have := (List.getElem?_eq_some_iff.1 hx).1
  rw [show h :: (ks ++ more) = (h :: ks) ++ more from rfl, List.take_append_of_le_length (by omega), take_snoc hx]
theorem place_neg {out ks : List Hs} {h : Hs} (ho : out = sortU ks) : placeS out h < 0 ↔ h ∉ ks := by rw [placeS_neg, ho, sortU_mem]
set_option maxHeartbeats 2000000 in
set_option maxRecDepth 100000 in
theorem rneeds_calls (l : List It) (h : Hs) (ks0 : List Hs) (k : Cap) (hl : l.length < 140737488355328) (hd : totalD l ≤ 400000) (hks : IsN l h ks0) : LCalls Try.prog 15 [.sl 33 (its l) k, .agg (hsL h)] [] (fun r H' => r = .sl 32 (hss ks0) .unk ∧ H' = []) := by
  have hx2 : h.1.length = 32 := h.2
  have hT : ∀ x, ∀ d ∈ depsOf l x, d ∈ allD l := fun x d hd => depsOf_all hd
  have hTl := allD_len l
  refine LCalls.of Try.func15 rfl Try.ntmps15 Try.results15 rfl (fun Rf => ?_)
  refine LW.seq ?_
  refine LW.region ?_
  refine X.act (X.box rfl Is.rfl' (by exact Cells.agg) (fun b3 => ?_))
  refine X.u (LU.assign (Is.nil 32)) rfl ?_
  refine LL.nil (after_code ?_)
  refine LW.seq ?_
  refine LW.seq ?_
  refine LW.region ?_
  refine X.u (LU.moveS Is.rfl') rfl ?_
  refine X.u (LU.lenN Try.underlying22 Is.rfl' (by (simp only [Option.getD_some, Option.getD_none, byteEls_length, intEls_length, List.length_append, List.length_cons, List.length_nil, List.length_map, List.length_drop, List.length_take, Int.toNat_natCast]; rfl))) rfl ?_
  refine X.u (LU.gtr Is.rfl' Is.rfl') rfl ?_
  refine LL.nil (after_code ?_)
  refine X.cond rfl (fun h1 => ?_) (fun h1 => ?_)
  · have h1 : 256 < l.length := by have := of_decide_eq_true h1; omega
    refine LW.seq ?_
    refine LW.region ?_
    refine X.u (LU.assign (Is.nil 32)) rfl ?_
    refine LL.nil (after_code ?_)
    refine LW.ret (ret_code (after_end ?_))
    refine X.ret (H' := []) (Res.one Is.unk) (by repeat (first | exact HSub.refl _ | refine HSub.drop ?_)) ?_
    refine ⟨?_, rfl⟩
    rw [hks.1 h1]; rfl
  · have h1 : ¬ 256 < l.length := by have := of_decide_eq_false h1; omega
    refine LW.skip (after_code ?_)
    refine LW.seq ?_
    refine LW.region ?_
    refine X.u (LU.assign (Is.nil 32)) rfl ?_
    refine LL.nil (after_code ?_)
    refine LW.seq ?_
    refine LW.region ?_
    refine X.u (LU.loadO 0 rfl ⟨Try.sizeOf34, Try.isAgg34⟩ Is.rfl' (Part.whole (by (simp; omega)))) rfl ?_
    refine X.u (LU.weak (LU.weak (LU.lits Try.underlying26 Try.sizeOf34 Try.zeroValue34 (ones rfl) rfl (by decide) (by decide) (Elems.cons Is.rfl' (by exact Cells.agg) Elems.nil) (by (simp; assumption)) rfl) (Is.of (y := .sl 32 (hss [h]) .full) (rfl))) (Is.full_tok 0 0)) rfl ?_
    refine X.u (LU.assignS Is.rfl') rfl ?_
    refine LL.nil (after_code ?_)
    refine LW.seq ?_
    refine LW.seq ?_
    refine LW.region ?_
    refine X.u (LU.assignR Is.rfl') rfl ?_
    refine LL.nil (after_code ?_)
    refine LW.block ?_
    refine X.wweak (t := 5) (v := .sl 32 (hss []) .unk) Is.unk ?_
    refine X.wghost (HSub.tail0 0 0 0 (Nat.le_refl _) _) ?_
    refine X.loopK (α := Nat × List Hs × List Hs × List Hs × Nat × Nat × Nat) (fun ⟨n, ks, out, todo, b, o, c⟩ => [(7, i64 n), (5, .sl 32 (hss out) .unk), (6, .sl 32 (hss todo) (.tok b o c))]) [0, 4] (fun ⟨n, ks, out, todo, b, o, c⟩ => .tail b o c :: .cells b3 34 (hsL h) :: Rf) (fun ⟨n, ks, out, todo, b, o, c⟩ => n ≤ todo.length ∧ Wk (depsOf l) h ks out todo ∧ ∀ x ∈ (h :: ks).take n, ∀ d ∈ depsOf l x, d ∈ ks) (fun ⟨n, ks, out, todo, b, o, c⟩ => totalD l + 1 - n) ((0, [], [], [h], 0, 0, 0)) (EnvLe.cons (by rfl) (EnvLe.cons (by rfl) (EnvLe.cons (by rfl) (EnvLe.nil)))) (by repeat (exact HSub.refl _)) ?_ ?_
    · exact ⟨Nat.zero_le _, ⟨List.nodup_nil, sortU_nil.symm, rfl, fun x hx => by cases hx⟩, fun x hx => by cases hx⟩
    · rintro ⟨n, ks, out, todo, b, o, c⟩ hI
      obtain ⟨hn, hw, hcl⟩ := hI
      have hkl := reach_len hT hw.nd hw.rch
      have htl : todo.length = ks.length + 1 := by rw [hw.todo]; rfl
      refine LW.seq ?_
      refine LW.seq ?_
      refine LW.region ?_
      refine X.u (LU.moveR Is.rfl') rfl ?_
      refine X.u (LU.moveS Is.rfl') rfl ?_
      refine X.u (LU.lenN Try.underlying26 Is.rfl' (by (simp only [Option.getD_some, Option.getD_none, byteEls_length, intEls_length, List.length_append, List.length_cons, List.length_nil, List.length_map, List.length_drop, List.length_take, Int.toNat_natCast]; rfl))) rfl ?_
      refine X.u (LU.lss Is.rfl' Is.rfl') rfl ?_
      refine LL.nil (after_code ?_)
      refine X.cond rfl (fun h6 => ?_) (fun h6 => ?_)
      · have h6b : n < ks.length + 1 := by simp at h6; omega
        obtain ⟨x, hx⟩ := at_lt (show n < (h :: ks).length from h6b)
        have hxm : x ∈ h :: ks := List.mem_of_getElem? hx
        refine LW.skip (after_code ?_)
        refine LW.seq ?_
        refine LW.block ?_
        refine LW.seq ?_
        refine LW.region ?_
        refine X.u (LU.assignR Is.rfl') rfl ?_
        refine LL.nil (after_code ?_)
        refine LW.block ?_
        refine X.loopK (α := Nat × List Hs × List Hs × List Hs × Nat × Nat × Nat) (fun ⟨i, ks2, out2, td2, b2, o2, c2⟩ => [(8, i64 i), (5, .sl 32 (hss out2) .unk), (6, .sl 32 (hss td2) (.tok b2 o2 c2))]) [0, 4, 7] (fun ⟨i, ks2, out2, td2, b2, o2, c2⟩ => .tail b2 o2 c2 :: .cells b3 34 (hsL h) :: Rf) (fun ⟨i, ks2, out2, td2, b2, o2, c2⟩ => i ≤ l.length ∧ Wk (depsOf l) h ks2 out2 td2 ∧ (∃ more, ks2 = ks ++ more) ∧ ∀ d ∈ depsOf (l.take i) x, d ∈ ks2) (fun ⟨i, ks2, out2, td2, b2, o2, c2⟩ => l.length - i) ((0, ks, out, todo, b, o, c)) (EnvLe.cons (by rfl) (EnvLe.cons (by rfl) (EnvLe.cons (by rfl) (EnvLe.nil)))) (by repeat (exact HSub.refl _)) ?_ ?_
        · exact ⟨Nat.zero_le _, hw, ⟨[], by simp⟩, fun d hd => by cases hd⟩
        · rintro ⟨i, ks2, out2, td2, b2, o2, c2⟩ hI
          obtain ⟨hi, hw2, hmore, hall2⟩ := hI
          have hat2 : td2[n]? = some x := by
            obtain ⟨more, hk2⟩ := hmore
            rw [hw2.todo, hk2]; exact todo_at hx
          have htl2 := (List.getElem?_eq_some_iff.1 hat2).1
          refine LW.seq ?_
          refine LW.seq ?_
          refine LW.region ?_
          refine X.u (LU.moveR Is.rfl') rfl ?_
          refine X.u (LU.moveS Is.rfl') rfl ?_
          refine X.u (LU.lenN Try.underlying22 Is.rfl' (by (simp only [Option.getD_some, Option.getD_none, byteEls_length, intEls_length, List.length_append, List.length_cons, List.length_nil, List.length_map, List.length_drop, List.length_take, Int.toNat_natCast]; rfl))) rfl ?_
          refine X.u (LU.lss Is.rfl' Is.rfl') rfl ?_
          refine LL.nil (after_code ?_)
          refine X.cond rfl (fun h9 => ?_) (fun h9 => ?_)
          · try have h9 := of_decide_eq_true h9
            refine LW.skip (after_code ?_)
            refine LW.seq ?_
            refine LW.block ?_
            refine LW.seq ?_
            refine LW.seq ?_
            obtain ⟨z, hz⟩ := at_lt (show i < l.length by omega)
            have hzl := it_len z
            have hzn : z.name.1.length = 32 := z.name.2
            have htot := totalD_at hz
            refine X.drawM 10 rfl (by kernel_rfl) rfl ?_
            refine QD.u (LU.moveS Is.rfl') rfl ?_
            refine QD.u (LU.moveR Is.rfl') rfl ?_
            refine QD.u (LU.at Try.underlying22 ⟨Try.sizeOf36, Try.isAgg36⟩ Is.rfl' Is.rfl' (by omega) (its_at hz) (it_ne z)) rfl ?_
            refine QD.u (LU.fieldP Try.underlying36 rfl ⟨Try.sizeOf34, Try.isAgg34⟩ (by decide) Is.rfl' (by (simp; omega))) rfl ?_
            refine QD.u (LU.weak (LU.load ⟨Try.sizeOf34, Try.isAgg34⟩ Is.rfl' (by (simp; omega)) (Part.whole (by (simp; omega)))) (Is.of (y := .agg (hsL z.name)) (congrArg LV.agg (it_name z)))) rfl ?_
            refine QD.u (LU.moveS Is.rfl') rfl ?_
            refine QD.u (LU.moveR Is.rfl') rfl ?_
            refine QD.u (LU.at Try.underlying26 ⟨Try.sizeOf34, Try.isAgg34⟩ Is.rfl' Is.rfl' (by omega) (hss_at hat2) (hs_ne x)) rfl ?_
            refine QD.u (LU.weak (LU.load ⟨Try.sizeOf34, Try.isAgg34⟩ Is.rfl' (by (simp; omega)) (Part.whole (by (simp; omega)))) (Is.of (y := .agg (hsL x)) (rfl))) rfl ?_
            refine QD.u (LU.neqHs Try.underlying34 Try.underlying5 Try.sizeOf5 (by kernel_rfl) Is.rfl' Is.rfl') rfl ?_
            refine QD.nil ?_
            refine LL.nil (after_code ?_)
            refine X.cond rfl (fun h11 => ?_) (fun h11 => ?_)
            · have hne : z.name ≠ x := by rintro rfl; simp at h11
              refine LW.exit (exit_code (exit_blk (after_code ?_)))
              refine LW.region ?_
              refine X.u (LU.moveR Is.rfl') rfl ?_
              refine X.u (LU.addN Is.rfl' Is.rfl' (wrap_i64 (by omega) (by omega))) rfl ?_
              refine X.u (LU.assignR Is.rfl') rfl ?_
              refine LL.nil (after_rnd ?_)
              refine X.next ((i + 1, ks2, out2, td2, b2, o2, c2)) rfl (EnvLe.cons (by rfl) (EnvLe.cons (by rfl) (EnvLe.cons (by rfl) (EnvLe.nil)))) (Keeps.cons (by exact Eq.trans (b := .sl _ _ _) rfl rfl) (Keeps.cons (by exact Eq.trans (b := .sl _ _ _) rfl rfl) (Keeps.cons (by exact Eq.trans (b := .raw _) rfl rfl) (Keeps.nil)))) (by repeat (exact HSub.refl _)) ?_ ?_
              · refine ⟨by omega, hw2, hmore, fun d_ hd_ => ?_⟩
                rw [take_snoc hz, depsOf_snoc, if_neg hne, List.append_nil] at hd_
                exact hall2 d_ hd_
              · (simp; omega)
            · have heq : z.name = x := by cases h : decide (z.name = x) with
              | true => exact of_decide_eq_true h
              | false => rw [h] at h11; cases h11
              have hd0 : (0 : Nat) = 0 := rfl
              refine LW.skip (after_code ?_)
              refine LW.seq ?_
              refine LW.region ?_
              refine X.u (LU.assignR Is.rfl') rfl ?_
              refine LL.nil (after_code ?_)
              refine LW.block ?_
              refine X.loopK (α := Nat × List Hs × List Hs × List Hs × Nat × Nat × Nat) (fun ⟨j, ks3, out3, td3, b3_, o3_, c3_⟩ => [(9, i64 j), (5, .sl 32 (hss out3) .unk), (6, .sl 32 (hss td3) (.tok b3_ o3_ c3_))]) [0, 4, 7, 8] (fun ⟨j, ks3, out3, td3, b3_, o3_, c3_⟩ => .tail b3_ o3_ c3_ :: .cells b3 34 (hsL h) :: Rf) (fun ⟨j, ks3, out3, td3, b3_, o3_, c3_⟩ => j ≤ z.deps.length ∧ Wk (depsOf l) h ks3 out3 td3 ∧ (∃ more, ks3 = ks ++ more) ∧ (∀ d ∈ depsOf (l.take i) x, d ∈ ks3) ∧ ∀ d ∈ z.deps.take j, d ∈ ks3) (fun ⟨j, ks3, out3, td3, b3_, o3_, c3_⟩ => z.deps.length - j) ((0, ks2, out2, td2, b2, o2, c2)) (EnvLe.cons (by rfl) (EnvLe.cons (by rfl) (EnvLe.cons (by rfl) (EnvLe.nil)))) (by repeat (exact HSub.refl _)) ?_ ?_
              · exact ⟨Nat.zero_le _, hw2, hmore, hall2, fun d hd => by simp at hd⟩
              · rintro ⟨j, ks3, out3, td3, b3_, o3_, c3_⟩ hI
                obtain ⟨hj, hw3, hmore3, hall3, hdep3⟩ := hI
                refine LW.seq ?_
                refine LW.seq ?_
                refine LW.region ?_
                refine X.u (LU.moveR Is.rfl') rfl ?_
                refine X.u (LU.moveS Is.rfl') rfl ?_
                refine X.u (LU.moveR Is.rfl') rfl ?_
                refine X.u (LU.at Try.underlying22 ⟨Try.sizeOf36, Try.isAgg36⟩ Is.rfl' Is.rfl' (by omega) (its_at hz) (it_ne z)) rfl ?_
                refine X.u (LU.weak (LU.fieldP Try.underlying36 rfl ⟨Try.sizeOf26, Try.isAgg26⟩ (by decide) Is.rfl' (by (simp; omega))) (Is.of (y := .pin [Hss z.deps]) (congrArg LV.pin (it_pin z)))) rfl ?_
                refine X.u (LU.load ⟨Try.sizeOf26, Try.isAgg26⟩ Is.rfl' (by (simp; done)) (Part.one rfl)) rfl ?_
                refine X.u (LU.lenN Try.underlying26 Is.rfl' (by (simp only [Option.getD_some, Option.getD_none, byteEls_length, intEls_length, List.length_append, List.length_cons, List.length_nil, List.length_map, List.length_drop, List.length_take, Int.toNat_natCast]; rfl))) rfl ?_
                refine X.u (LU.lss Is.rfl' Is.rfl') rfl ?_
                refine LL.nil (after_code ?_)
                refine X.cond rfl (fun h13 => ?_) (fun h13 => ?_)
                · try have h13 := of_decide_eq_true h13
                  refine LW.skip (after_code ?_)
                  refine LW.seq ?_
                  refine LW.block ?_
                  refine LW.seq ?_
                  obtain ⟨e_, hd2⟩ := at_lt (show j < z.deps.length by omega)
                  have hdl : e_.1.length = 32 := e_.2
                  have hkl3 := reach_len hT hw3.nd hw3.rch
                  have hol3 : out3.length ≤ 1000000 := by
                    rw [hw3.out]
                    have := sortU_len ks3
                    omega
                  have htl3 : td3.length = ks3.length + 1 := by rw [hw3.todo]; rfl
                  have her : Rch (depsOf l) h e_ := by
                    have he : e_ ∈ depsOf l x := depsOf_mem.2 ⟨z, List.mem_of_getElem? hz, heq, List.mem_of_getElem? hd2⟩
                    rcases List.mem_cons.1 hxm with e | e
                    · rw [e] at he; exact .one he
                    · exact .step (hw.rch x e) he
                  refine LW.region ?_
                  refine X.u (LU.moveS Is.rfl') rfl ?_
                  refine X.u (LU.moveR Is.rfl') rfl ?_
                  refine X.u (LU.at Try.underlying22 ⟨Try.sizeOf36, Try.isAgg36⟩ Is.rfl' Is.rfl' (by omega) (its_at hz) (it_ne z)) rfl ?_
                  refine X.u (LU.weak (LU.fieldP Try.underlying36 rfl ⟨Try.sizeOf26, Try.isAgg26⟩ (by decide) Is.rfl' (by (simp; omega))) (Is.of (y := .pin [Hss z.deps]) (congrArg LV.pin (it_pin z)))) rfl ?_
                  refine X.u (LU.load ⟨Try.sizeOf26, Try.isAgg26⟩ Is.rfl' (by (simp; done)) (Part.one rfl)) rfl ?_
                  refine X.u (LU.moveR Is.rfl') rfl ?_
                  refine X.u (LU.at Try.underlying26 ⟨Try.sizeOf34, Try.isAgg34⟩ Is.rfl' Is.rfl' (by omega) (hss_at hd2) (hs_ne e_)) rfl ?_
                  refine X.u (LU.weak (LU.load ⟨Try.sizeOf34, Try.isAgg34⟩ Is.rfl' (by (simp; omega)) (Part.whole (by (simp; omega)))) (Is.of (y := .agg (hsL e_)) (rfl))) rfl ?_
                  refine X.act (X.alloc rfl Try.zeroValue34 (by exact Cells.rawagg (by decide)) (fun b10 => ?_))
                  refine X.act (X.store 0 rfl Try.sizeOf34 Is.rfl' Is.rfl' (by exact Cells.agg) (by (simp; omega)) (by exact Nat.le_of_ble_eq_true rfl) ?_)
                  refine LL.nil (after_code ?_)
                  refine LW.seq ?_
                  refine X.wcells (ys := hsL e_) (putAt_all (by rw [List.length_map, hdl]; rfl)) ?_
                  refine LW.region ?_
                  refine X.u (LU.moveS Is.rfl') rfl ?_
                  refine X.u (LU.weak (LU.loadO 0 rfl ⟨Try.sizeOf34, Try.isAgg34⟩ Is.rfl' (Part.sub (by (simp; omega)))) (Is.of (y := .agg (hsL e_)) (hs_whole e_))) rfl ?_
                  refine X.u (LU.call (place_calls out3 e_ .unk (by omega)) Try.func22 rfl rfl (Opds.cons Is.rfl' (Opds.cons Is.rfl' Opds.nil))) rfl ?_
                  refine X.u (LU.lss Is.rfl' Is.rfl') rfl ?_
                  refine LL.nil (after_code ?_)
                  refine X.cond rfl (fun h16 => ?_) (fun h16 => ?_)
                  · have h16 : e_ ∉ ks3 := (place_neg hw3.out).1 (of_decide_eq_true h16)
                    have hd0 : (0 : Nat) = 0 := rfl
                    refine LW.seq ?_
                    refine LW.region ?_
                    refine X.u (LU.moveS Is.rfl') rfl ?_
                    refine X.u (LU.weak (LU.loadO 0 rfl ⟨Try.sizeOf34, Try.isAgg34⟩ Is.rfl' (Part.sub (by (simp; omega)))) (Is.of (y := .agg (hsL e_)) (hs_whole e_))) rfl ?_
                    refine X.u (LU.call (with_calls out3 e_ .unk hol3) Try.func31 rfl rfl (Opds.cons Is.rfl' (Opds.cons Is.rfl' Opds.nil))) rfl ?_
                    refine X.u (LU.assignS Is.rfl') rfl ?_
                    refine LL.nil (after_code ?_)
                    refine LW.region ?_
                    refine X.u (LU.moveS Is.rfl') rfl ?_
                    refine X.u (LU.weak (LU.loadO 0 rfl ⟨Try.sizeOf34, Try.isAgg34⟩ Is.rfl' (Part.sub (by (simp; omega)))) (Is.of (y := .agg (hsL e_)) (hs_whole e_))) rfl ?_
                    refine X.u (LU.lits Try.underlying26 Try.sizeOf34 Try.zeroValue34 (ones rfl) rfl (by decide) (by decide) (Elems.cons Is.rfl' (by exact Cells.agg) Elems.nil) (by (simp; assumption)) rfl) rfl ?_
                    refine X.act (X.append 1 rfl rfl Try.underlying26 (El.of (P := Try.prog) (z := (.agg #[(.int .u8 0), (.int .u8 0), (.int .u8 0), (.int .u8 0), (.int .u8 0), (.int .u8 0), (.int .u8 0), (.int .u8 0), (.int .u8 0), (.int .u8 0), (.int .u8 0), (.int .u8 0), (.int .u8 0), (.int .u8 0), (.int .u8 0), (.int .u8 0), (.int .u8 0), (.int .u8 0), (.int .u8 0), (.int .u8 0), (.int .u8 0), (.int .u8 0), (.int .u8 0), (.int .u8 0), (.int .u8 0), (.int .u8 0), (.int .u8 0), (.int .u8 0), (.int .u8 0), (.int .u8 0), (.int .u8 0), (.int .u8 0)])) (size := 32) (bytes := 32) rfl rfl rfl) Is.rfl' Is.rfl' (SrcL.slice Try.underlying26 (by decide) (by intro e he; rw [List.mem_singleton.1 he, List.length_map]; exact hdl)) (by simp only [Option.getD_some, Option.getD_none, byteEls_length, intEls_length, List.length_append, List.length_cons, List.length_nil, List.length_map, List.length_drop, List.length_take, Int.toNat_natCast]; omega) (by simp only [Option.getD_some, Option.getD_none, byteEls_length, intEls_length, List.length_append, List.length_cons, List.length_nil, List.length_map, List.length_drop, List.length_take, Int.toNat_natCast]; omega) (fun b66 o66 c66 => X.weak (t := 66) (Is.of (y := .sl 32 (hss (td3 ++ [e_])) (.tok b66 o66 c66)) (congrArg (fun z => LV.sl 32 z (.tok b66 o66 c66)) (hss_app td3 [e_]))) ?_))
                    refine X.u (LU.assignS Is.rfl') rfl ?_
                    refine LL.nil (after_blk (after_code ?_))
                    refine LW.region ?_
                    refine X.u (LU.moveR Is.rfl') rfl ?_
                    refine X.u (LU.addN Is.rfl' Is.rfl' (wrap_i64 (by omega) (by omega))) rfl ?_
                    refine X.u (LU.assignR Is.rfl') rfl ?_
                    refine LL.nil (after_rnd ?_)
                    refine X.next ((j + 1, ks3 ++ [e_], withS out3 e_, td3 ++ [e_], b66, o66, c66)) rfl (EnvLe.cons (by rfl) (EnvLe.cons (by rfl) (EnvLe.cons (by rfl) (EnvLe.nil)))) (Keeps.cons (by exact Eq.trans (b := .sl _ _ _) rfl rfl) (Keeps.cons (by exact Eq.trans (b := .sl _ _ _) rfl rfl) (Keeps.cons (by exact Eq.trans (b := .raw _) rfl rfl) (Keeps.cons (by exact Eq.trans (b := .raw _) rfl rfl) (Keeps.nil))))) (by repeat (first | exact HSub.refl _ | refine HSub.pick 0 rfl ?_ | refine HSub.pick 1 rfl ?_ | refine HSub.drop ?_)) ?_ ?_
                    · refine ⟨by omega, hw3.add h16 her, ?_, fun d_ hd_ => List.mem_append_left _ (hall3 d_ hd_), fun d_ hd_ => ?_⟩
                      · obtain ⟨more, hk3⟩ := hmore3
                        exact ⟨more ++ [e_], by rw [← List.append_assoc, ← hk3]⟩
                      · rw [take_snoc hd2, List.mem_append] at hd_
                        exact List.mem_append.2 (hd_.imp (hdep3 d_) id)
                    · (simp; omega)
                  · have h16 : e_ ∈ ks3 := Classical.not_not.1 (fun c => of_decide_eq_false h16 ((place_neg hw3.out).2 c))
                    have hd0 : (0 : Nat) = 0 := rfl
                    refine LW.skip (after_blk (after_code ?_))
                    refine LW.region ?_
                    refine X.u (LU.moveR Is.rfl') rfl ?_
                    refine X.u (LU.addN Is.rfl' Is.rfl' (wrap_i64 (by omega) (by omega))) rfl ?_
                    refine X.u (LU.assignR Is.rfl') rfl ?_
                    refine LL.nil (after_rnd ?_)
                    refine X.next ((j + 1, ks3, out3, td3, b3_, o3_, c3_)) rfl (EnvLe.cons (by rfl) (EnvLe.cons (by rfl) (EnvLe.cons (by rfl) (EnvLe.nil)))) (Keeps.cons (by exact Eq.trans (b := .sl _ _ _) rfl rfl) (Keeps.cons (by exact Eq.trans (b := .sl _ _ _) rfl rfl) (Keeps.cons (by exact Eq.trans (b := .raw _) rfl rfl) (Keeps.cons (by exact Eq.trans (b := .raw _) rfl rfl) (Keeps.nil))))) (by repeat (first | exact HSub.refl _ | refine HSub.pick 1 rfl ?_ | refine HSub.drop ?_)) ?_ ?_
                    · refine ⟨by omega, hw3, hmore3, hall3, fun d_ hd_ => ?_⟩
                      rw [take_snoc hd2, List.mem_append, List.mem_singleton] at hd_
                      exact hd_.elim (hdep3 d_) fun e => by rw [e]; exact h16
                    · (simp; omega)
                · try have h13 := of_decide_eq_false h13
                  refine LW.exit (exit_code (exit_rnd (exit_blk (after_blk (after_code ?_)))))
                  refine LW.region ?_
                  refine X.u (LU.moveR Is.rfl') rfl ?_
                  refine X.u (LU.addN Is.rfl' Is.rfl' (wrap_i64 (by omega) (by omega))) rfl ?_
                  refine X.u (LU.assignR Is.rfl') rfl ?_
                  refine LL.nil (after_rnd ?_)
                  refine X.next ((i + 1, ks3, out3, td3, b3_, o3_, c3_)) rfl (EnvLe.cons (by rfl) (EnvLe.cons (by rfl) (EnvLe.cons (by rfl) (EnvLe.nil)))) (Keeps.cons (by exact Eq.trans (b := .sl _ _ _) rfl rfl) (Keeps.cons (by exact Eq.trans (b := .sl _ _ _) rfl rfl) (Keeps.cons (by exact Eq.trans (b := .raw _) rfl rfl) (Keeps.nil)))) (by repeat (exact HSub.refl _)) ?_ ?_
                  · refine ⟨by omega, hw3, hmore3, fun d_ hd_ => ?_⟩
                    rw [take_snoc hz, depsOf_snoc, if_pos heq, List.mem_append] at hd_
                    exact hd_.elim (hall3 d_) fun hd_ => hdep3 d_ (by rw [List.take_of_length_le (by omega)]; exact hd_)
                  · (simp; omega)
          · try have h9 := of_decide_eq_false h9
            refine LW.exit (exit_code (exit_rnd (exit_blk (after_blk (after_code ?_)))))
            refine LW.region ?_
            refine X.u (LU.moveR Is.rfl') rfl ?_
            refine X.u (LU.addN Is.rfl' Is.rfl' (wrap_i64 (by omega) (by omega))) rfl ?_
            refine X.u (LU.assignR Is.rfl') rfl ?_
            refine LL.nil (after_rnd ?_)
            refine X.next ((n + 1, ks2, out2, td2, b2, o2, c2)) rfl (EnvLe.cons (by rfl) (EnvLe.cons (by rfl) (EnvLe.cons (by rfl) (EnvLe.nil)))) (Keeps.cons (by exact Eq.trans (b := .sl _ _ _) rfl rfl) (Keeps.cons (by exact Eq.trans (b := .sl _ _ _) rfl rfl) (Keeps.nil))) (by repeat (exact HSub.refl _)) ?_ ?_
            · have htl2 : td2.length = ks2.length + 1 := by rw [hw2.todo]; rfl
              obtain ⟨more, hk2⟩ := hmore
              have hkl2 : ks2.length = ks.length + more.length := by rw [hk2, List.length_append]
              refine ⟨by omega, hw2, fun y hy d_ hd_ => ?_⟩
              rw [hk2, todo_take hx] at hy
              rcases List.mem_append.1 hy with e | e
              · rw [hk2]; exact List.mem_append_left _ (hcl y e d_ hd_)
              · rw [List.mem_singleton.1 e] at hd_
                exact hall2 d_ (by rw [List.take_of_length_le (by omega)]; exact hd_)
            · (simp; omega)
      · have h6 : ks.length + 1 ≤ n := by simp at h6; omega
        refine LW.exit (exit_code (exit_rnd (exit_blk (after_code ?_))))
        refine LW.seq ?_
        refine LW.region ?_
        refine X.u (LU.moveS Is.rfl') rfl ?_
        refine X.u (LU.assignS Is.rfl') rfl ?_
        refine LL.nil (after_code ?_)
        refine LW.ret (after_end ?_)
        refine X.ret (H' := []) (Res.one (by exact IsS rfl)) (by repeat (first | exact HSub.refl _ | refine HSub.drop ?_)) ?_
        have hmem := reach_all (fun x hx => hcl x (by rw [List.take_of_length_le (by simp only [List.length_cons]; omega)]; exact hx)) hw.rch
        have hj := (Just.ofU hmem).uniq (hks.2 (by omega))
        exact ⟨by rw [← hj, hw.out], rfl⟩
end Go.Proofs.Ytmaeepckfbnpjaa
