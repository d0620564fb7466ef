/- What is tried is tried in the order in which it was put, each once, and nothing is tried that does not wait. -/
import Derived.Test.YtpimalihpnfdkaaQuJ
import Derived.Test.YtpimalihpnfdkaaLogR
set_option linter.unusedVariables false
set_option linter.unusedSimpArgs false
namespace Go.Proofs.Ytpimalihpnfdkaa
open Go.RowKit Go.L
attribute [local irreducible] LL LW LO
theorem stepO_calls (t5 tb to tc a : Nat) (T : List Int) (x : AcQ) (g : Nat) (ws : List Int) (es : List Ed) (b o c p q r : Nat) (hT : T.length ≤ 10000000000000) (hw : ws.length ≤ 64) (he : es.length ≤ 2999999999999) : LCalls Try.prog 33 [pt g, .raw (.func (.func 37) #[] #[.pointer (some ⟨t5, 0, none⟩), .pointer (some ⟨a, 0, none⟩)])] [qa g ws es .nilFunc b o c p q r, .tail b o c, .tail p q r, .cells t5 24 [Ints T (.tok tb to tc)], .tail tb to tc, .cells a 65 (aqL x)] (fun v H' => ∃ es' b' o' c' p' q' r' tb' to' tc', es'.length ≤ es.length + 1 ∧ H' = [qa g (ws.eraseIdx 0) es' .nilFunc b' o' c' p' q' r', .tail b' o' c', .tail p' q' r', .cells t5 24 [Ints (T ++ ws.take 1) (.tok tb' to' tc')], .tail tb' to' tc', .cells a 65 (aqL x)]) := by
  cases ws with
  | nil =>
    refine ((step_empty g es b o c p q r _ _ _).frame [.tail b o c, .tail p q r, .cells t5 24 [Ints T (.tok tb to tc)], .tail tb to tc, .cells a 65 (aqL x)]).mono fun v H' h => ?_
    obtain ⟨H0, rfl, _, rfl⟩ := h
    exact ⟨es, b, o, c, p, q, r, tb, to, tc, by omega, by rw [List.take_nil, List.append_nil]; rfl⟩
  | cons y ws =>
    have hn := (note_calls y t5 tb to tc a T x hT).around [qa g (y :: ws) es (.func (.func 37) #[] #[.pointer (some ⟨t5, 0, none⟩), .pointer (some ⟨a, 0, none⟩)]) b o c p q r, .tail b o c, .tail p q r]
    refine (stepG_calls (Post := fun why ws2 es2 Ht2 => ws2 = y :: ws ∧ es2 = es ∧ ∃ tb' to' tc', Ht2 = [.cells t5 24 [Ints (T ++ [y]) (.tok tb' to' tc')], .tail tb' to' tc', .cells a 65 (aqL x)]) [.cells t5 24 [Ints T (.tok tb to tc)], .tail tb to tc, .cells a 65 (aqL x)] g (y :: ws) es b o c p q r _ _ _ y rfl (by omega) (FnCalls.closure (caps := #[.pointer (some ⟨t5, 0, none⟩), .pointer (some ⟨a, 0, none⟩)]) Try.func37 rfl rfl (hn.mono fun v H' h => ?_))).mono fun v H' h => ?_
    · obtain ⟨H0, rfl, tb', to', tc', rfl, rfl⟩ := h
      exact ⟨x.an, y :: ws, es, b, o, c, p, q, r, _, rfl, rfl, rfl, by omega, by omega, rfl, rfl, tb', to', tc', rfl⟩
    · obtain ⟨why, ws2, es2, b', o', c', p', q', r', Ht', _, rfl, rfl, rfl, tb', to', tc', rfl⟩ := h
      exact ⟨es2 ++ [(y, outE why, why)], b', o', c', p', q', r', tb', to', tc', by simp, rfl⟩
theorem sl_drop (l : List Int) (n : Nat) : ((intEls l).drop (Option.getD (some ((n : Nat) : Int)) 0).toNat).take ((Option.getD none ((intEls l).length : Int)).toNat - (Option.getD (some ((n : Nat) : Int)) 0).toNat) = intEls (l.drop n) := by
  simp only [Option.getD_some, Option.getD_none, Int.toNat_natCast]
  rw [List.take_of_length_le (by rw [List.length_drop]; exact Nat.le_refl _)]
  simp [intEls]
theorem Uni.erase {l : List Int} (h : Uni l) (i : Nat) : Uni (l.eraseIdx i) := fun a b y ha hb => by
  rw [List.getElem?_eraseIdx] at ha hb
  split at ha <;> split at hb <;> have := h _ _ y ha hb <;> omega
theorem dropW_facts {ws : List Int} (id : Int) (hu : Uni ws) (hl : ws.length ≤ 64) : Uni (dropW ws id) ∧ (dropW ws id).length ≤ 64 := by
  unfold dropW
  split
  · exact ⟨hu, hl⟩
  · exact ⟨hu.erase _, by rw [List.length_eraseIdx]; split <;> omega⟩
theorem dropE_le (ws : List Int) (es : List Ed) (id : Int) : (dropE ws es id).length ≤ es.length + 1 := by
  unfold dropE
  split
  · omega
  · rw [List.length_append]; exact Nat.le_refl _
set_option maxHeartbeats 2000000 in
set_option maxRecDepth 100000 in
theorem qo_calls (l : List AcQ) (hl : l.length ≤ 2999999999000) (hok : ∀ a ∈ l, AqOk a) : LCalls Try.prog 9 [.sl 4 (aqs l) .unk] [] (fun r H' => r = bl true ∧ H' = []) := by
  refine LCalls.of Try.func9 rfl Try.ntmps9 Try.results9 rfl (fun Rf => ?_)
  refine LW.seq ?_
  refine LW.region ?_
  refine X.u (LU.assignR Is.rfl') rfl ?_
  refine LL.nil (after_code ?_)
  refine LW.seq ?_
  refine LW.seq ?_
  refine LW.region ?_
  refine X.u (LU.moveS Is.rfl') rfl ?_
  refine X.act (X.call (few21_calls l .unk (by omega) hok) Try.func35 rfl rfl rfl (HSub.refl _) (Opds.cons Is.rfl' Opds.nil) ?_)
  rintro r H' ⟨fb, rfl, rfl⟩
  refine X.u (LU.not Is.rfl') rfl ?_
  refine LL.nil (after_code ?_)
  refine X.cond rfl (fun h1 => ?_) (fun h1 => ?_)
  · try have h1 := of_decide_eq_true h1
    refine LW.seq ?_
    refine LW.region ?_
    refine X.u (LU.call (lives21_calls) Try.func31 rfl rfl Opds.nil) rfl ?_
    refine X.u (LU.assignR Is.rfl') rfl ?_
    refine LL.nil (after_code ?_)
    refine LW.ret (ret_code (after_end ?_))
    refine X.ret (H' := []) (Res.one (by exact IsR rfl)) (by repeat (exact HSub.refl _)) ?_
    exact ⟨rfl, rfl⟩
  · try have h1 := of_decide_eq_false h1
    refine LW.skip (after_code ?_)
    refine LW.seq ?_
    refine LW.region ?_
    refine X.act (X.call (new_calls21) Try.func27 rfl rfl rfl (HSub.refl _) Opds.nil ?_)
    rintro r H' ⟨g, rfl, rfl⟩
    refine X.u (LU.assignR Is.rfl') rfl ?_
    refine LL.nil (after_code ?_)
    refine LW.seq ?_
    refine LW.region ?_
    refine X.u (LU.assign (Is.nil 1)) rfl ?_
    refine X.act (X.alloc rfl Try.zeroValue24 (by exact Cells.raw rfl) (fun b5 => ?_))
    refine LL.nil (after_code ?_)
    refine LW.seq ?_
    refine LW.seq ?_
    refine LW.region ?_
    refine X.u (LU.moveS Is.rfl') rfl ?_
    refine X.u (LU.lenN Try.underlying62 Is.rfl' (by (simp only [Option.getD_some, Option.getD_none, byteEls_length, intEls_length, List.length_append, List.length_cons, List.length_nil, List.length_map, List.length_drop, List.length_take, Int.toNat_natCast]; rfl))) rfl ?_
    refine X.u (LU.moveR Is.rfl') rfl ?_
    refine LL.nil (after_code ?_)
    refine LW.block ?_
    refine X.wweak (t := 4) (v := Ints [] (.tok 0 0 0)) (Is.full_tok 0 0) ?_
    refine X.wghost (H' := .cells b5 24 [Ints [] (.tok 0 0 0)] :: .tail 0 0 0 :: .tail 0 0 0 :: qa g [] [] .nilFunc 0 0 0 0 0 0 :: .tail 0 0 0 :: .tail 0 0 0 :: Rf) (HSub.trans (HSub.cell 0 rfl ((Is.nil 1).trans (Is.full_tok 0 0))) (HSub.trans (HSub.tail0 0 0 0 (Nat.le_refl _) _) (HSub.trans (HSub.tail0 0 0 0 (Nat.le_refl _) _) (by repeat (first | exact HSub.refl _ | refine HSub.pick 2 rfl ?_))))) ?_
    refine X.loopK (α := Nat × List Int × List Int × List Int × List Ed × Nat × Nat × Nat × Nat × Nat × Nat × Nat × Nat × Nat × Nat × Nat × Nat) (fun ⟨k, put, tried, ws, es, b, o, c, p, q, r, tb, to, tc, pb, po, pc⟩ => [(16, i64 k), (4, Ints put (.tok pb po pc))]) [3, 5, 14, 15] (fun ⟨k, put, tried, ws, es, b, o, c, p, q, r, tb, to, tc, pb, po, pc⟩ => qa g ws es .nilFunc b o c p q r :: .tail b o c :: .tail p q r :: .cells b5 24 [Ints tried (.tok tb to tc)] :: .tail tb to tc :: .tail pb po pc :: Rf) (fun ⟨k, put, tried, ws, es, b, o, c, p, q, r, tb, to, tc, pb, po, pc⟩ => k ≤ l.length ∧ put = tried ++ ws ∧ ws.length ≤ 64 ∧ Uni ws ∧ es.length ≤ k ∧ tried.length ≤ k) (fun ⟨k, put, tried, ws, es, b, o, c, p, q, r, tb, to, tc, pb, po, pc⟩ => l.length - k) ((0, [], [], [], [], 0, 0, 0, 0, 0, 0, 0, 0, 0, 0, 0, 0)) (EnvLe.cons (by rfl) (EnvLe.cons (by rfl) (EnvLe.nil))) (by repeat (first | exact HSub.refl _ | refine HSub.pick 1 rfl ?_ | refine HSub.pick 3 rfl ?_)) ?_ ?_
    · exact ⟨Nat.zero_le _, rfl, by simp, Uni.nil, Nat.le_refl _, Nat.le_refl _⟩
    · rintro ⟨k, put, tried, ws, es, b, o, c, p, q, r, tb, to, tc, pb, po, pc⟩ hI
      obtain ⟨hk, hpt, hwl, hun, hel, htl⟩ := hI
      have hpl : put.length = tried.length + ws.length := by rw [hpt, List.length_append]
      refine LW.seq ?_
      refine LW.region ?_
      refine X.u (LU.lss Is.rfl' Is.rfl') rfl ?_
      refine LL.nil (after_code ?_)
      refine LW.seq ?_
      refine X.cond rfl (fun h6 => ?_) (fun h6 => ?_)
      · try have h6 := of_decide_eq_true h6
        refine LW.skip (after_code ?_)
        refine LW.seq ?_
        refine LW.block ?_
        refine LW.seq ?_
        obtain ⟨x, hx⟩ := at_lt (show k < l.length by omega)
        have hpu := put_calls21 g ws es .nilFunc b o c p q r x.id hwl
        obtain ⟨hf1, hf2, hf3⟩ := putW_facts x.id hun hwl
        have hdr := drop_calls g ws es b o c p q r x.id (by omega) (by omega)
        obtain ⟨hd1, hd2⟩ := dropW_facts x.id hun hwl
        have hd3 := dropE_le ws es x.id
        refine LW.region ?_
        refine X.u (LU.at Try.underlying62 ⟨Try.sizeOf65, Try.isAgg65⟩ Is.rfl' Is.rfl' (by omega) (aqs_at hx) (by simp)) rfl ?_
        refine X.u (LU.load ⟨Try.sizeOf65, Try.isAgg65⟩ Is.rfl' (by (simp; done)) (Part.whole (by (simp; done)))) rfl ?_
        refine X.act (X.alloc rfl Try.zeroValue65 (by exact Cells.rawagg (by decide)) (fun b7 => ?_))
        refine X.act (X.store 0 rfl Try.sizeOf65 Is.rfl' Is.rfl' (by exact Cells.agg) (by (simp; done)) (by exact Nat.le_of_ble_eq_true rfl) ?_)
        refine LL.nil (after_code ?_)
        refine X.meetK (α := List Int × List Int × List Int × List Ed × Nat × Nat × Nat × Nat × Nat × Nat × Nat × Nat × Nat × Nat × Nat × Nat) (fun ⟨put2, tr2, ws2, es2, b2_, o2_, c2_, p2_, q2_, r2_, tb2, to2, tc2, pb2, po2, pc2⟩ => [(4, Ints put2 (.tok pb2 po2 pc2))]) [3, 5, 14, 15, 16] (fun ⟨put2, tr2, ws2, es2, b2_, o2_, c2_, p2_, q2_, r2_, tb2, to2, tc2, pb2, po2, pc2⟩ => .cells b7 65 (aqL x) :: qa g ws2 es2 .nilFunc b2_ o2_ c2_ p2_ q2_ r2_ :: .tail b2_ o2_ c2_ :: .tail p2_ q2_ r2_ :: .cells b5 24 [Ints tr2 (.tok tb2 to2 tc2)] :: .tail tb2 to2 tc2 :: .tail pb2 po2 pc2 :: Rf) (fun ⟨put2, tr2, ws2, es2, b2_, o2_, c2_, p2_, q2_, r2_, tb2, to2, tc2, pb2, po2, pc2⟩ => put2 = tr2 ++ ws2 ∧ ws2.length ≤ 64 ∧ Uni ws2 ∧ es2.length ≤ k + 1 ∧ tr2.length ≤ k + 1) ?_ ?_
        · refine LW.seq ?_
          refine X.wcells (ys := aqL x) rfl ?_
          refine LW.region ?_
          refine X.u (LU.fieldO Try.underlying65 rfl Try.sizeOf3 (by decide) Is.rfl') rfl ?_
          refine X.u (LU.loadO 0 rfl ⟨Try.sizeOf3, Try.isAgg3⟩ Is.rfl' (Part.one rfl)) rfl ?_
          refine LL.nil (after_code ?_)
          refine LW.block ?_
          refine LW.seq ?_
          refine LW.region ?_
          refine X.u (LU.eql Is.rfl' Is.rfl') rfl ?_
          refine X.u (LU.assignR Is.rfl') rfl ?_
          refine LL.nil (after_code ?_)
          refine X.cond rfl (fun h10 => ?_) (fun h10 => ?_)
          · try have h10 := of_decide_eq_true h10
            refine LW.seq ?_
            refine LW.region ?_
            refine X.u (LU.moveR Is.rfl') rfl ?_
            refine X.u (LU.fieldO Try.underlying65 rfl Try.sizeOf3 (by decide) Is.rfl') rfl ?_
            refine X.u (LU.loadO 0 rfl ⟨Try.sizeOf3, Try.isAgg3⟩ Is.rfl' (Part.one rfl)) rfl ?_
            refine X.act (X.call (hpu) Try.func28 rfl rfl rfl (by (refine HSub.pick 1 rfl ?_); (refine HSub.pick 1 rfl ?_); (refine HSub.pick 1 rfl ?_); exact HSub.refl _) (Opds.cons Is.rfl' (Opds.cons Is.rfl' Opds.nil)) ?_)
            rintro r H' ⟨b3_, o3_, c3_, rfl, rfl⟩
            refine X.u (LU.eql Is.rfl' Is.rfl') rfl ?_
            refine LL.nil (after_code ?_)
            refine X.cond rfl (fun h11 => ?_) (fun h11 => ?_)
            · have h11 : idxP ws x.id = 0 := by simpa using h11
              have hW : putW ws x.id = ws ++ [x.id] := by unfold putW; rw [if_pos h11]
              refine X.wghost (H' := .tail pb po pc :: qa g (putW ws x.id) es .nilFunc b3_ o3_ c3_ p q r :: .tail b3_ o3_ c3_ :: .tail p q r :: .cells b7 65 (aqL x) :: .cells b5 24 [Ints tried (.tok tb to tc)] :: .tail tb to tc :: Rf) (by repeat (first | exact HSub.refl _ | refine HSub.pick 6 rfl ?_)) ?_
              refine LW.region ?_
              refine X.u (LU.moveS Is.rfl') rfl ?_
              refine X.u (LU.fieldO Try.underlying65 rfl Try.sizeOf3 (by decide) Is.rfl') rfl ?_
              refine X.u (LU.loadO 4 rfl ⟨Try.sizeOf3, Try.isAgg3⟩ Is.rfl' (Part.one rfl)) rfl ?_
              refine X.u (LU.lits Try.underlying24 Try.sizeOf3 Try.zeroValue3 (ones rfl) rfl (by decide) (by decide) (Elems.cons Is.rfl' (by exact Cells.raw rfl) Elems.nil) (by (simp; done)) rfl) rfl ?_
              refine X.act (X.append 0 rfl rfl Try.underlying24 (El.of (P := Try.prog) (z := (.int .i64 0)) (size := 1) (bytes := 8) rfl rfl rfl) Is.rfl' Is.rfl' (SrcL.slice Try.underlying24 (by decide) (by (intro e he; simp [chunks] at he; simp [he]; done))) (by simp only [Option.getD_some, Option.getD_none, byteEls_length, intEls_length, List.length_append, List.length_cons, List.length_nil, List.length_map, List.length_drop, List.length_take, Int.toNat_natCast]; omega) (by simp only [Option.getD_some, Option.getD_none, byteEls_length, intEls_length, List.length_append, List.length_cons, List.length_nil, List.length_map, List.length_drop, List.length_take, Int.toNat_natCast]; omega) (fun b36 o36 c36 => X.weak (t := 36) (Is.of (y := Ints (put ++ [x.id]) (.tok b36 o36 c36)) (congrArg (fun z => LV.sl 1 z (.tok b36 o36 c36)) (intEls_append put [x.id]).symm)) ?_))
              refine X.u (LU.assignS Is.rfl') rfl ?_
              refine LL.nil (after_blk (after_rnd ?_))
              refine X.meets ((put ++ [x.id], tried, putW ws x.id, es, b3_, o3_, c3_, p, q, r, tb, to, tc, b36, o36, c36)) rfl (EnvLe.cons (by rfl) (EnvLe.nil)) (Keeps.cons (by exact Eq.trans (b := .raw _) rfl rfl) (Keeps.cons (by exact Eq.trans (b := .raw _) rfl rfl) (Keeps.cons (by exact Eq.trans (b := .sl _ _ _) rfl rfl) (Keeps.cons (by exact Eq.trans (b := .raw _) rfl rfl) (Keeps.cons (by exact Eq.trans (b := .raw _) rfl rfl) (Keeps.nil)))))) (by repeat (first | exact HSub.refl _ | refine HSub.pick 1 rfl ?_ | refine HSub.pick 4 rfl ?_)) ?_
              exact ⟨by rw [hW, hpt, List.append_assoc], hf2, hf1, by omega, by omega⟩
            · have h11 : ¬ idxP ws x.id = 0 := by simpa using h11
              have hW : putW ws x.id = ws := by unfold putW; rw [if_neg h11]
              refine LW.skip (after_blk (after_rnd ?_))
              refine X.meets ((put, tried, putW ws x.id, es, b3_, o3_, c3_, p, q, r, tb, to, tc, pb, po, pc)) rfl (EnvLe.cons (by rfl) (EnvLe.nil)) (Keeps.cons (by exact Eq.trans (b := .raw _) rfl rfl) (Keeps.cons (by exact Eq.trans (b := .raw _) rfl rfl) (Keeps.cons (by exact Eq.trans (b := .sl _ _ _) rfl rfl) (Keeps.cons (by exact Eq.trans (b := .raw _) rfl rfl) (Keeps.cons (by exact Eq.trans (b := .raw _) rfl rfl) (Keeps.nil)))))) (by repeat (first | exact HSub.refl _ | refine HSub.pick 3 rfl ?_)) ?_
              exact ⟨by rw [hW]; exact hpt, hf2, hf1, by omega, by omega⟩
          · try have h10 := of_decide_eq_false h10
            refine LW.seq ?_
            refine LW.region ?_
            refine X.u (LU.eql Is.rfl' Is.rfl') rfl ?_
            refine X.u (LU.assignR Is.rfl') rfl ?_
            refine LL.nil (after_code ?_)
            refine X.cond rfl (fun h13 => ?_) (fun h13 => ?_)
            · try have h13 := of_decide_eq_true h13
              refine LW.seq ?_
              refine LW.region ?_
              refine X.u (LU.moveR Is.rfl') rfl ?_
              refine X.u (LU.fieldO Try.underlying65 rfl Try.sizeOf3 (by decide) Is.rfl') rfl ?_
              refine X.u (LU.loadO 0 rfl ⟨Try.sizeOf3, Try.isAgg3⟩ Is.rfl' (Part.one rfl)) rfl ?_
              refine X.act (X.call (hdr) Try.func36 rfl rfl rfl (by (refine HSub.pick 1 rfl ?_); (refine HSub.pick 1 rfl ?_); (refine HSub.pick 1 rfl ?_); exact HSub.refl _) (Opds.cons Is.rfl' (Opds.cons Is.rfl' Opds.nil)) ?_)
              rintro r H' ⟨b3_, o3_, c3_, p3_, q3_, r3_, rfl, rfl⟩
              refine X.u (LU.eql Is.rfl' Is.rfl') rfl ?_
              refine LL.nil (after_code ?_)
              refine X.cond rfl (fun h14 => ?_) (fun h14 => ?_)
              · have h14 : dropP ws x.id = 0 := by simpa using h14
                have hge : ¬ idx ws x.id < 0 := fun hq => by unfold dropP at h14; rw [if_pos hq] at h14; cases h14
                obtain ⟨i, hi, hxi⟩ := idx_spec (l := ws) (v := x.id) (by omega)
                have hil := (List.getElem?_eq_some_iff.1 hxi).1
                have hW : dropW ws x.id = ws.eraseIdx i := by unfold dropW; rw [if_neg hge, hi, Int.toNat_natCast]
                have hpi : put[tried.length + i]? = some x.id := by rw [hpt, List.getElem?_append_right (by omega), Nat.add_sub_cancel_left]; exact hxi
                refine LW.seq ?_
                refine LW.region ?_
                refine X.u (LU.moveS Is.rfl') rfl ?_
                refine X.u (LU.lenN Try.underlying24 Is.rfl' (by (simp only [Option.getD_some, Option.getD_none, byteEls_length, intEls_length, List.length_append, List.length_cons, List.length_nil, List.length_map, List.length_drop, List.length_take, Int.toNat_natCast]; rfl))) rfl ?_
                refine X.u (LU.weak (LU.subN Is.rfl' Is.rfl' (wrap_i64 (by omega) (by omega))) (Is.of (y := i64 ((put.length - 1 : Nat) : Int)) (congrArg i64 (by omega)))) rfl ?_
                refine X.u (LU.assignR Is.rfl') rfl ?_
                refine LL.nil (after_code ?_)
                refine LW.seq ?_
                refine LW.block ?_
                refine X.loopK (α := Nat) (fun j => [(8, i64 j)]) [3, 4, 5, 7, 14, 15, 16] (fun _ => _) (fun j => tried.length + i ≤ j ∧ j < put.length ∧ ∀ j' : Nat, j < j' → put[j']? ≠ some x.id) (fun j => j) (put.length - 1) (EnvLe.cons (by rfl) (EnvLe.nil)) (HSub.refl _) ?_ ?_
                · exact ⟨by omega, by omega, fun j' h1 h2 => by have := (List.getElem?_eq_some_iff.1 h2).1; omega⟩
                · rintro j hI
                  obtain ⟨hj1, hj2, hj3⟩ := hI
                  refine LW.seq ?_
                  refine LW.seq ?_
                  obtain ⟨y, hy⟩ := at_lt hj2
                  refine X.drawM 11 rfl (by kernel_rfl) rfl ?_
                  refine QD.u (LU.moveR Is.rfl') rfl ?_
                  refine QD.u (LU.weak (LU.geq Is.rfl' Is.rfl') (asB (c := true) rfl (by simp))) rfl ?_
                  refine QD.u (LU.moveR Is.rfl') rfl ?_
                  refine QD.doT rfl rfl (LU.moveS (by exact Is.rfl')) rfl ?_
                  refine QD.doT rfl rfl (LU.moveR (by exact Is.rfl')) rfl ?_
                  refine QD.doT rfl rfl (LU.at Try.underlying24 ⟨Try.sizeOf3, Try.isAgg3⟩ (by exact Is.rfl') (by exact Is.rfl') (by omega) (ints_at hy) (by simp)) rfl ?_
                  refine QD.doT rfl rfl (LU.load ⟨Try.sizeOf3, Try.isAgg3⟩ (by exact Is.rfl') (by (simp; done)) (Part.one rfl)) rfl ?_
                  refine QD.doT rfl rfl (LU.fieldO Try.underlying65 rfl Try.sizeOf3 (by decide) (by exact Is.rfl')) rfl ?_
                  refine QD.doT rfl rfl (LU.loadO 3 rfl ⟨Try.sizeOf3, Try.isAgg3⟩ (by exact Is.rfl') (Part.one rfl)) rfl ?_
                  refine QD.doT rfl rfl (LU.neq (by exact Is.rfl') (by exact Is.rfl')) rfl ?_
                  refine QD.u (LU.pickT Is.rfl' (by exact Is.rfl')) rfl ?_
                  refine QD.nil ?_
                  refine LL.nil (after_code ?_)
                  refine X.cond rfl (fun h16 => ?_) (fun h16 => ?_)
                  · have hne : y ≠ x.id := by simpa using h16
                    have hjlt : tried.length + i < j := by
                      rcases Nat.lt_or_eq_of_le hj1 with hq | hq
                      · exact hq
                      · rw [hq, hy] at hpi; exact (hne (Option.some.inj hpi)).elim
                    refine LW.skip (after_code ?_)
                    refine LW.block ?_
                    refine LW.region ?_
                    refine X.u (LU.moveR Is.rfl') rfl ?_
                    refine X.u (LU.subN Is.rfl' Is.rfl' (wrap_i64 (by omega) (by omega))) rfl ?_
                    refine X.u (LU.assignR Is.rfl') rfl ?_
                    refine LL.nil (after_blk (after_rnd ?_))
                    refine X.next (j - 1) rfl (EnvLe.cons (by exact raw_int (by omega)) (EnvLe.nil)) (Keeps.cons (by exact Eq.trans (b := .raw _) rfl rfl) (Keeps.cons (by exact Eq.trans (b := .sl _ _ _) rfl rfl) (Keeps.cons (by exact Eq.trans (b := .raw _) rfl rfl) (Keeps.cons (by exact Eq.trans (b := .raw _) rfl rfl) (Keeps.cons (by exact Eq.trans (b := .sl _ _ _) rfl rfl) (Keeps.cons (by exact Eq.trans (b := .raw _) rfl rfl) (Keeps.cons (by exact Eq.trans (b := .raw _) rfl rfl) (Keeps.nil)))))))) (HSub.refl _) ?_ ?_
                    · refine ⟨by omega, by omega, fun j' h1 h2 => ?_⟩
                      by_cases hjj : j' = j
                      · rw [hjj, hy] at h2; exact hne (Option.some.inj h2)
                      · exact hj3 j' (by omega) h2
                    · omega
                  · have heq : y = x.id := by simpa using h16
                    have hji : j = tried.length + i := by
                      have h1 : ws[j - tried.length]? = some x.id := by
                        rw [hpt, List.getElem?_append_right (by omega)] at hy
                        rw [hy, heq]
                      have := hun _ _ _ h1 hxi
                      omega
                    have hpe : put.eraseIdx j = tried ++ ws.eraseIdx i := by
                      rw [hpt, hji, List.eraseIdx_append_of_length_le (by omega), Nat.add_sub_cancel_left]
                    refine LW.exit (exit_code (exit_rnd (exit_blk (after_code ?_))))
                    refine LW.seq ?_
                    refine LW.seq ?_
                    refine LW.region ?_
                    refine X.u (LU.moveR Is.rfl') rfl ?_
                    refine X.u (LU.weak (LU.lss Is.rfl' Is.rfl') (asB (c := false) rfl (by simp))) rfl ?_
                    refine LL.nil (after_code ?_)
                    refine X.condF rfl ?_ ?_
                    · rfl
                    refine LW.skip (after_code ?_)
                    refine X.wghost (H' := .tail pb po pc :: qa g (dropW ws x.id) (dropE ws es x.id) .nilFunc b3_ o3_ c3_ p3_ q3_ r3_ :: .tail b3_ o3_ c3_ :: .tail p3_ q3_ r3_ :: .cells b7 65 (aqL x) :: .cells b5 24 [Ints tried (.tok tb to tc)] :: .tail tb to tc :: Rf) (by repeat (first | exact HSub.refl _ | refine HSub.pick 6 rfl ?_)) ?_
                    refine X.drawM 8 rfl (by kernel_rfl) rfl ?_
                    refine QD.u (LU.moveS Is.rfl') rfl ?_
                    refine QD.u (LU.moveR Is.rfl') rfl ?_
                    refine QD.u (LU.moveR Is.rfl') rfl ?_
                    refine QD.u (LU.weak (LU.slice3 (l := none) (h := ((j : Nat) : Int)) (m := ((j : Nat) : Int)) Try.sizeOf3 (by decide) Try.underlying24 Is.rfl' trivial ⟨_, Is.rfl'⟩ Is.rfl' (by simp) (by simp) rfl (by rw [intEls_length]; omega)) (Is.of (y := Ints (put.take j) .full) (congrArg (fun z => LV.sl 1 z .full) (by simp [intEls])))) rfl ?_
                    refine QD.u (LU.moveS Is.rfl') rfl ?_
                    refine QD.u (LU.moveR Is.rfl') rfl ?_
                    refine QD.u (LU.weak (LU.addN Is.rfl' Is.rfl' (wrap_i64 (by omega) (by omega))) (Is.of (y := i64 ((j + 1 : Nat) : Int)) (rfl))) rfl ?_
                    refine QD.u (LU.weak (LU.slice (lo := some _) (hi := none) (l := some ((j + 1 : Nat) : Int)) (h := none) Try.sizeOf3 (by decide) Try.underlying24 Is.rfl' ⟨_, Is.rfl'⟩ trivial (by simp only [Option.getD_some, Option.getD_none, intEls_length]; omega) (by simp only [Option.getD_some, Option.getD_none, intEls_length]; omega) (by simp only [Option.getD_some, Option.getD_none, intEls_length]; omega) .unk (.inl rfl)) (Is.of (y := Ints (put.drop (j + 1)) .unk) (congrArg (fun z => LV.sl 1 z .unk) (sl_drop put (j + 1))))) rfl ?_
                    refine QD.nil ?_
                    refine X.act (X.appendF rfl Try.underlying24 (El.of (P := Try.prog) (z := (.int .i64 0)) (size := 1) (bytes := 8) rfl rfl rfl) Is.rfl' Is.rfl' (SrcL.slice Try.underlying24 (by decide) (by exact intEls_size _)) (by simp only [Option.getD_some, Option.getD_none, byteEls_length, intEls_length, List.length_append, List.length_cons, List.length_nil, List.length_map, List.length_drop, List.length_take, Int.toNat_natCast]; omega) (by simp only [Option.getD_some, Option.getD_none, byteEls_length, intEls_length, List.length_append, List.length_cons, List.length_nil, List.length_map, List.length_drop, List.length_take, Int.toNat_natCast]; omega) (fun b70 o70 c70 => ?_))
                    refine X.weak (t := 70) (v := Ints (put.eraseIdx j) (.tok b70 o70 c70)) (Is.of (congrArg (fun z => LV.sl 1 z (.tok b70 o70 c70)) ((intEls_append _ _).symm.trans (congrArg intEls (List.eraseIdx_eq_take_drop_succ ..).symm)))) ?_
                    refine X.u (LU.assignS Is.rfl') rfl ?_
                    refine LL.nil (after_blk (after_rnd ?_))
                    refine X.meets ((put.eraseIdx j, tried, dropW ws x.id, dropE ws es x.id, b3_, o3_, c3_, p3_, q3_, r3_, tb, to, tc, b70, o70, c70)) rfl (EnvLe.cons (by rfl) (EnvLe.nil)) (Keeps.cons (by exact Eq.trans (b := .raw _) rfl rfl) (Keeps.cons (by exact Eq.trans (b := .raw _) rfl rfl) (Keeps.cons (by exact Eq.trans (b := .sl _ _ _) rfl rfl) (Keeps.cons (by exact Eq.trans (b := .raw _) rfl rfl) (Keeps.cons (by exact Eq.trans (b := .raw _) rfl rfl) (Keeps.nil)))))) (by repeat (first | exact HSub.refl _ | refine HSub.pick 0 rfl ?_ | refine HSub.pick 2 rfl ?_ | refine HSub.pick 5 rfl ?_ | refine HSub.drop ?_)) ?_
                    exact ⟨by rw [hpe, hW], hd2, hd1, by omega, by omega⟩
              · have h14 : ¬ dropP ws x.id = 0 := by simpa using h14
                have hW : dropW ws x.id = ws := by
                  unfold dropW
                  by_cases hq : idx ws x.id < 0
                  · rw [if_pos hq]
                  · exact (h14 (by unfold dropP; rw [if_neg hq])).elim
                refine LW.skip (after_blk (after_rnd ?_))
                refine X.meets ((put, tried, dropW ws x.id, dropE ws es x.id, b3_, o3_, c3_, p3_, q3_, r3_, tb, to, tc, pb, po, pc)) rfl (EnvLe.cons (by rfl) (EnvLe.nil)) (Keeps.cons (by exact Eq.trans (b := .raw _) rfl rfl) (Keeps.cons (by exact Eq.trans (b := .raw _) rfl rfl) (Keeps.cons (by exact Eq.trans (b := .sl _ _ _) rfl rfl) (Keeps.cons (by exact Eq.trans (b := .raw _) rfl rfl) (Keeps.cons (by exact Eq.trans (b := .raw _) rfl rfl) (Keeps.nil)))))) (by repeat (first | exact HSub.refl _ | refine HSub.pick 3 rfl ?_)) ?_
                exact ⟨by rw [hW]; exact hpt, hd2, hd1, by omega, by omega⟩
            · try have h13 := of_decide_eq_false h13
              refine X.wghost (H' := qa g ws es .nilFunc b o c p q r :: .tail b o c :: .tail p q r :: .cells b5 24 [Ints tried (.tok tb to tc)] :: .tail tb to tc :: .cells b7 65 (aqL x) :: .tail pb po pc :: Rf) (by repeat (first | exact HSub.refl _ | refine HSub.pick 1 rfl ?_)) ?_
              refine LW.region ?_
              refine X.u (LU.moveR Is.rfl') rfl ?_
              refine X.u (LU.closure (vs := [_, _]) (Opds.cons Is.rfl' (Opds.cons Is.rfl' Opds.nil))) rfl ?_
              refine X.act (X.call (stepO_calls b5 tb to tc b7 tried x g ws es b o c p q r (by omega) hwl (by omega)) Try.func33 rfl rfl rfl (by (refine HSub.pick 0 rfl ?_); (refine HSub.pick 0 rfl ?_); (refine HSub.pick 0 rfl ?_); (refine HSub.pick 0 rfl ?_); (refine HSub.pick 0 rfl ?_); (refine HSub.pick 0 rfl ?_); exact HSub.refl _) (Opds.cons Is.rfl' (Opds.cons Is.rfl' Opds.nil)) ?_)
              rintro r H' ⟨es3, b3_, o3_, c3_, p3_, q3_, r3_, tb3, to3, tc3, hes3, rfl⟩
              refine LL.nil (after_blk (after_rnd ?_))
              refine X.meets ((put, tried ++ ws.take 1, ws.eraseIdx 0, es3, b3_, o3_, c3_, p3_, q3_, r3_, tb3, to3, tc3, pb, po, pc)) rfl (EnvLe.cons (by rfl) (EnvLe.nil)) (Keeps.cons (by exact Eq.trans (b := .raw _) rfl rfl) (Keeps.cons (by exact Eq.trans (b := .raw _) rfl rfl) (Keeps.cons (by exact Eq.trans (b := .sl _ _ _) rfl rfl) (Keeps.cons (by exact Eq.trans (b := .raw _) rfl rfl) (Keeps.cons (by exact Eq.trans (b := .raw _) rfl rfl) (Keeps.nil)))))) (by repeat (first | exact HSub.refl _ | refine HSub.pick 5 rfl ?_)) ?_
              have hE : ws.take 1 ++ ws.eraseIdx 0 = ws := by cases ws <;> simp
              exact ⟨by rw [List.append_assoc, hE]; exact hpt, by rw [List.length_eraseIdx]; split <;> omega, hun.erase 0, by omega, by rw [List.length_append, List.length_take]; omega⟩
        · rintro ⟨put2, tr2, ws2, es2, b2_, o2_, c2_, p2_, q2_, r2_, tb2, to2, tc2, pb2, po2, pc2⟩ hI
          obtain ⟨hpt2, hwl2, hun2, hel2, htl2⟩ := hI
          have hpl2 : put2.length = tr2.length + ws2.length := by rw [hpt2, List.length_append]
          refine LW.seq ?_
          refine X.drawM 24 rfl (by kernel_rfl) rfl ?_
          refine QD.u (LU.loadO 4 rfl ⟨Try.sizeOf24, Try.isAgg24⟩ Is.rfl' (Part.one rfl)) rfl ?_
          refine QD.u (LU.lenN Try.underlying24 Is.rfl' (by (simp only [Option.getD_some, Option.getD_none, byteEls_length, intEls_length, List.length_append, List.length_cons, List.length_nil, List.length_map, List.length_drop, List.length_take, Int.toNat_natCast]; rfl))) rfl ?_
          refine QD.u (LU.moveS Is.rfl') rfl ?_
          refine QD.u (LU.lenN Try.underlying24 Is.rfl' (by (simp only [Option.getD_some, Option.getD_none, byteEls_length, intEls_length, List.length_append, List.length_cons, List.length_nil, List.length_map, List.length_drop, List.length_take, Int.toNat_natCast]; rfl))) rfl ?_
          refine QD.u (LU.weak (LU.gtr Is.rfl' Is.rfl') (asB (c := false) rfl (by simp; omega))) rfl ?_
          refine QD.u (LU.moveR Is.rfl') rfl ?_
          refine QD.doF rfl rfl (LU.moveS (by exact Is.rfl')) rfl ?_
          refine QD.doF rfl rfl (LU.loadO 4 rfl ⟨Try.sizeOf24, Try.isAgg24⟩ (by exact Is.rfl') (Part.one rfl)) rfl ?_
          refine QD.doF rfl rfl (LU.lenN Try.underlying24 (by exact Is.rfl') (by (simp only [Option.getD_some, Option.getD_none, byteEls_length, intEls_length, List.length_append, List.length_cons, List.length_nil, List.length_map, List.length_drop, List.length_take, Int.toNat_natCast]; rfl))) rfl ?_
          refine QD.doF rfl rfl (LU.weak (LU.slice (lo := none) (hi := some _) (l := none) (h := some ((tr2.length : Nat) : Int)) Try.sizeOf3 (by decide) Try.underlying24 (by exact Is.rfl') trivial ⟨_, (by exact Is.rfl')⟩ (by simp only [Option.getD_some, Option.getD_none, intEls_length]; omega) (by simp only [Option.getD_some, Option.getD_none, intEls_length]; omega) (by simp only [Option.getD_some, Option.getD_none, intEls_length]; omega) .unk (.inl rfl)) (Is.of (y := Ints (put2.take tr2.length) .unk) (congrArg (fun z => LV.sl 1 z .unk) (by simp [intEls])))) rfl ?_
          refine QD.doF rfl rfl (LU.loadO 4 rfl ⟨Try.sizeOf24, Try.isAgg24⟩ (by exact Is.rfl') (Part.one rfl)) rfl ?_
          refine QD.doF rfl rfl (LU.call (ints_calls (put2.take tr2.length) tr2 .unk (.tok tb2 to2 tc2) (by rw [List.length_take]; omega) (by omega)) Try.func38 rfl rfl (Opds.cons (by exact Is.rfl') (Opds.cons (by exact Is.rfl') Opds.nil))) rfl ?_
          refine QD.doF rfl rfl (LU.weak (LU.not (by exact Is.rfl')) (asB (c := false) rfl (by rw [decide_eq_true (show put2.take tr2.length = tr2 by rw [hpt2, List.take_left])]; rfl))) rfl ?_
          refine QD.u (LU.pickF Is.rfl' (by exact Is.rfl')) rfl ?_
          refine QD.u (LU.moveR Is.rfl') rfl ?_
          refine QD.doF rfl rfl (LU.moveS (by exact Is.rfl')) rfl ?_
          refine QD.doF rfl rfl (LU.loadO 4 rfl ⟨Try.sizeOf24, Try.isAgg24⟩ (by exact Is.rfl') (Part.one rfl)) rfl ?_
          refine QD.doF rfl rfl (LU.lenN Try.underlying24 (by exact Is.rfl') (by (simp only [Option.getD_some, Option.getD_none, byteEls_length, intEls_length, List.length_append, List.length_cons, List.length_nil, List.length_map, List.length_drop, List.length_take, Int.toNat_natCast]; rfl))) rfl ?_
          refine QD.doF rfl rfl (LU.weak (LU.slice (lo := some _) (hi := none) (l := some ((tr2.length : Nat) : Int)) (h := none) Try.sizeOf3 (by decide) Try.underlying24 (by exact Is.rfl') ⟨_, (by exact Is.rfl')⟩ trivial (by simp only [Option.getD_some, Option.getD_none, intEls_length]; omega) (by simp only [Option.getD_some, Option.getD_none, intEls_length]; omega) (by simp only [Option.getD_some, Option.getD_none, intEls_length]; omega) .unk (.inl rfl)) (Is.of (y := Ints (put2.drop tr2.length) .unk) (congrArg (fun z => LV.sl 1 z .unk) (sl_drop put2 tr2.length)))) rfl ?_
          refine QD.doF rfl rfl (LU.moveR (by exact Is.rfl')) rfl ?_
          refine QD.doF rfl rfl (LU.call1 1 rfl (waiting_calls g ws2 es2 .nilFunc b2_ o2_ c2_ p2_ q2_ r2_ (by omega)) Try.func29 rfl rfl (Opds.cons (by exact Is.rfl') Opds.nil)) rfl ?_
          refine QD.doF rfl rfl (LU.call (ints_calls (put2.drop tr2.length) ws2 .unk .unk (by rw [List.length_drop]; omega) (by omega)) Try.func38 rfl rfl (Opds.cons (by exact Is.rfl') (Opds.cons (by exact Is.rfl') Opds.nil))) rfl ?_
          refine QD.doF rfl rfl (LU.weak (LU.not (by exact Is.rfl')) (asB (c := false) rfl (by rw [decide_eq_true (show put2.drop tr2.length = ws2 by rw [hpt2, List.drop_left])]; rfl))) rfl ?_
          refine QD.u (LU.pickF Is.rfl' (by exact Is.rfl')) rfl ?_
          refine QD.nil ?_
          refine LL.nil (after_code ?_)
          refine X.condF rfl ?_ ?_
          · rfl
          refine LW.skip (after_blk (after_code ?_))
          refine LW.region ?_
          refine X.u (LU.addN Is.rfl' Is.rfl' (wrap_i64 (by omega) (by omega))) rfl ?_
          refine X.u (LU.moveR Is.rfl') rfl ?_
          refine LL.nil (after_rnd ?_)
          refine X.next ((k + 1, put2, tr2, ws2, es2, b2_, o2_, c2_, p2_, q2_, r2_, tb2, to2, tc2, pb2, po2, pc2)) rfl (EnvLe.cons (by rfl) (EnvLe.cons (by rfl) (EnvLe.nil))) (Keeps.cons (by exact Eq.trans (b := .raw _) rfl rfl) (Keeps.cons (by exact Eq.trans (b := .raw _) rfl rfl) (Keeps.cons (by exact Eq.trans (b := .sl _ _ _) rfl rfl) (Keeps.cons (by exact Eq.trans (b := .raw _) rfl rfl) (Keeps.nil))))) (by repeat (first | exact HSub.refl _ | refine HSub.pick 1 rfl ?_ | refine HSub.drop ?_)) ?_ ?_
          · exact ⟨by omega, hpt2, hwl2, hun2, hel2, htl2⟩
          · (simp; omega)
      · try have h6 := of_decide_eq_false h6
        refine LW.exit (exit_code (exit_rnd (exit_blk (after_code ?_))))
        refine LW.seq ?_
        refine LW.region ?_
        refine X.u (LU.call (lives21_calls) Try.func31 rfl rfl Opds.nil) rfl ?_
        refine X.u (LU.assignR Is.rfl') rfl ?_
        refine LL.nil (after_code ?_)
        refine LW.ret (after_end ?_)
        refine X.ret (H' := []) (Res.one (by exact IsR rfl)) (by repeat (first | exact HSub.refl _ | refine HSub.drop ?_)) ?_
        exact ⟨rfl, rfl⟩
abbrev QAq : List LV → Prop := QCons 1 (QInt .i64) (QCons 1 (QInt .i64) (QCons 1 (QInt .i64) (QCons 1 (QSl 1 8 (QInt .i64)) QNil)))
theorem aq_of (c : List LV) (h : QAq c) : ∃ a : AcQ, c = aqL a ∧ AqOk a := by
  obtain ⟨_, _, rfl, _, ⟨n1, rfl, w1⟩, _, _, rfl, _, ⟨n2, rfl, w2⟩, _, _, rfl, _, ⟨n3, rfl, w3⟩, _, _, rfl, _, ⟨es, rfl, h5, h6⟩, rfl⟩ := h
  obtain ⟨l, rfl, _⟩ := decode_ints h5
  have hr := reachBytes_lt
  rw [intEls_length] at h6
  exact ⟨⟨n1, n2, n3, l⟩, rfl, by show l.length ≤ _; omega⟩
theorem aqs_of {es : List (List LV)} (h : ∀ c ∈ es, QAq c) : ∃ l : List AcQ, es = aqs l ∧ ∀ a ∈ l, AqOk a := Go.L.decode aqL _ (fun c hc => aq_of c (h c hc))
theorem QueueOrder_row (es : List (List LV)) (h0 : ∀ c ∈ es, QAq c) (h1 : es.length * 48 ≤ reachBytes) : LCalls Try.prog 9 [.sl 4 es .unk] [] (fun r _ => r = .raw (.bool true)) := by
  obtain ⟨l, rfl, hl⟩ := aqs_of h0
  rw [List.length_map] at h1
  have hr := reachBytes_lt
  exact (qo_calls l (by omega) hl).mono fun r H' h => h.1
end Go.Proofs.Ytpimalihpnfdkaa
