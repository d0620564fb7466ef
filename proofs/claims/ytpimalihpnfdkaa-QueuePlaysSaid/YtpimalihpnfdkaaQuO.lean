/- Whatever is put, dropped and tried, a queue answers as the document says. -/
import Derived.Test.YtpimalihpnfdkaaQuN
set_option linter.unusedVariables false
set_option linter.unusedSimpArgs false
namespace Go.Proofs.Ytpimalihpnfdkaa
open Go.RowKit Go.L
attribute [local irreducible] LL LW LO LP LA
def ansOf (l : List Int) (k : Nat) : Int := if l.length = 0 then 0 else l.getD (k % l.length) 0
set_option maxRecDepth 100000 in
theorem answer2_calls (t11 t6 k : Nat) (x : AcQ) (hk : k ≤ 1000) : LCalls Try.prog 49 [pt t11, pt t6] [.cells t11 3 [i64 (k : Nat)], .cells t6 65 (aqL x)] (fun r H' => r = i64 (ansOf x.l k) ∧ H' = [.cells t11 3 [i64 ((k + 1 : Nat) : Int)], .cells t6 65 (aqL x)]) := by
  refine LCalls.of Try.func49 rfl Try.ntmps49 Try.results49 rfl (fun Rf => ?_)
  refine LW.seq ?_
  refine LW.region ?_
  refine X.u (LU.assignR Is.rfl') rfl ?_
  refine LL.nil (after_code ?_)
  refine LW.seq ?_
  refine LW.region ?_
  refine X.u (LU.loadO 0 rfl ⟨Try.sizeOf3, Try.isAgg3⟩ Is.rfl' (Part.one rfl)) rfl ?_
  refine X.u (LU.weak (LU.addN Is.rfl' Is.rfl' (wrap_i64 (by omega) (by omega))) (Is.of (y := i64 ((k + 1 : Nat) : Int)) (rfl))) rfl ?_
  refine X.act (X.store 0 rfl Try.sizeOf3 Is.rfl' Is.rfl' (by exact Cells.raw rfl) (by (simp; done)) (by (simp; done)) ?_)
  refine LL.nil (after_code ?_)
  refine LW.seq ?_
  refine LW.seq ?_
  refine X.wcells (ys := [i64 ((k + 1 : Nat) : Int)]) rfl ?_
  refine LW.region ?_
  refine X.u (LU.fieldO Try.underlying65 rfl Try.sizeOf24 (by decide) Is.rfl') rfl ?_
  refine X.u (LU.loadO 1 rfl ⟨Try.sizeOf24, Try.isAgg24⟩ Is.rfl' (Part.one rfl)) rfl ?_
  refine X.u (LU.lenN Try.underlying24 Is.rfl' (by (simp only [Option.getD_some, Option.getD_none, byteEls_length, intEls_length, List.length_append, List.length_cons, List.length_nil, List.length_map, List.length_drop, List.length_take, Int.toNat_natCast]; rfl))) rfl ?_
  refine X.u (LU.eql Is.rfl' Is.rfl') rfl ?_
  refine LL.nil (after_code ?_)
  refine X.cond rfl (fun h2 => ?_) (fun h2 => ?_)
  · have h2 : x.l.length = 0 := by have := of_decide_eq_true h2; omega
    refine LW.seq ?_
    refine LW.region ?_
    refine X.u (LU.assignR Is.rfl') rfl ?_
    refine LL.nil (after_code ?_)
    refine LW.ret (ret_code (after_end ?_))
    refine X.ret (H' := [.cells t11 3 [i64 ((k + 1 : Nat) : Int)], .cells t6 65 (aqL x)]) (Res.one (by exact IsR rfl)) (by repeat (exact HSub.refl _)) ?_
    exact ⟨by unfold ansOf; rw [if_pos h2]; try rfl, rfl⟩
  · have h2 : ¬ x.l.length = 0 := by have := of_decide_eq_false h2; omega
    obtain ⟨z, hz⟩ := at_lt (Nat.mod_lt k (Nat.pos_of_ne_zero h2))
    refine LW.skip (after_code ?_)
    refine LW.seq ?_
    refine X.drawM 11 rfl (by kernel_rfl) rfl ?_
    refine QD.u (LU.fieldO Try.underlying65 rfl Try.sizeOf24 (by decide) Is.rfl') rfl ?_
    refine QD.u (LU.loadO 1 rfl ⟨Try.sizeOf24, Try.isAgg24⟩ Is.rfl' (Part.one rfl)) rfl ?_
    refine QD.u (LU.loadO 0 rfl ⟨Try.sizeOf3, Try.isAgg3⟩ Is.rfl' (Part.one rfl)) rfl ?_
    refine QD.u (LU.weak (LU.subN Is.rfl' Is.rfl' (wrap_i64 (by omega) (by omega))) (Is.of (y := i64 (k : Nat)) (congrArg i64 (by omega)))) rfl ?_
    refine QD.u (LU.fieldO Try.underlying65 rfl Try.sizeOf24 (by decide) Is.rfl') rfl ?_
    refine QD.u (LU.loadO 1 rfl ⟨Try.sizeOf24, Try.isAgg24⟩ Is.rfl' (Part.one rfl)) rfl ?_
    refine QD.u (LU.lenN Try.underlying24 Is.rfl' (by (simp only [Option.getD_some, Option.getD_none, byteEls_length, intEls_length, List.length_append, List.length_cons, List.length_nil, List.length_map, List.length_drop, List.length_take, Int.toNat_natCast]; rfl))) rfl ?_
    refine QD.u (LU.weak (LU.rem Is.rfl' Is.rfl' (by omega)) (Is.of (y := i64 ((k % x.l.length : Nat) : Int)) (congrArg i64 (Int.ofNat_tmod ..).symm))) rfl ?_
    refine QD.u (LU.at Try.underlying24 ⟨Try.sizeOf3, Try.isAgg3⟩ Is.rfl' Is.rfl' (by omega) (ints_at hz) (by simp)) rfl ?_
    refine QD.u (LU.load ⟨Try.sizeOf3, Try.isAgg3⟩ Is.rfl' (by (simp; done)) (Part.one rfl)) rfl ?_
    refine QD.u (LU.assignR Is.rfl') rfl ?_
    refine QD.nil ?_
    refine LL.nil (after_code ?_)
    refine LW.ret (after_end ?_)
    refine X.ret (H' := [.cells t11 3 [i64 ((k + 1 : Nat) : Int)], .cells t6 65 (aqL x)]) (Res.one (by exact IsR rfl)) (by repeat (exact HSub.refl _)) ?_
    exact ⟨by unfold ansOf; rw [if_neg h2, List.getD_eq_getElem?_getD, hz]; try rfl, rfl⟩
abbrev fv (t11 t6 : Nat) : Value := .func (.func 49) #[] #[.pointer (some ⟨t11, 0, none⟩), .pointer (some ⟨t6, 0, none⟩)]
theorem fv_calls (t11 t6 k : Nat) (x : AcQ) (hk : k ≤ 1000) : FnCalls Try.prog (fv t11 t6) [] [.cells t11 3 [i64 (k : Nat)], .cells t6 65 (aqL x)] (fun r H' => r = i64 (ansOf x.l k) ∧ H' = [.cells t11 3 [i64 ((k + 1 : Nat) : Int)], .cells t6 65 (aqL x)]) :=
  FnCalls.closure Try.func49 rfl rfl (answer2_calls t11 t6 k x hk)
abbrev hF : TypeId := 35
abbrev HtQ (t12 t11 t6 : Nat) (x : AcQ) (j : Nat) : List Atom := [.cells t12 35 [.raw (fv t11 t6)], .cells t11 3 [i64 (j : Nat)], .cells t6 65 (aqL x)]
set_option maxRecDepth 100000 in
theorem answer3_calls (id : Int) (t12 t11 t6 k : Nat) (x : AcQ) (hk : k ≤ 1000) : LCalls Try.prog 50 [i64 id, pt t12] (HtQ t12 t11 t6 x k) (fun r H' => r = i64 (ansOf x.l k) ∧ H' = HtQ t12 t11 t6 x (k + 1)) := by
  refine LCalls.of Try.func50 rfl Try.ntmps50 Try.results50 rfl (fun Rf => ?_)
  refine LW.seq ?_
  refine LW.region ?_
  refine X.u (LU.assignR Is.rfl') rfl ?_
  refine LL.nil (after_code ?_)
  refine LW.seq ?_
  refine LW.region ?_
  refine X.u (LU.loadO 0 rfl ⟨Try.sizeOf35, Try.isAgg35⟩ Is.rfl' (Part.one rfl)) rfl ?_
  refine X.act (X.callF (fv_calls t11 t6 k x hk) Is.rfl' rfl (HSub.pick 1 rfl (HSub.pick 1 rfl (HSub.refl _))) Opds.nil ?_)
  rintro r H' ⟨rfl, rfl⟩
  refine X.u (LU.assignR Is.rfl') rfl ?_
  refine LL.nil (after_code ?_)
  refine LW.ret (after_end ?_)
  refine X.ret (H' := HtQ t12 t11 t6 x (k + 1)) (Res.one (by exact IsR rfl)) (by repeat (first | exact HSub.refl _ | refine HSub.pick 2 rfl ?_)) ?_
  exact ⟨rfl, rfl⟩
set_option maxRecDepth 100000 in
theorem answer1_calls (id : Int) (t6 : Nat) (x : AcQ) : LCalls Try.prog 48 [i64 id, pt t6] [.cells t6 65 (aqL x)] (fun r H' => r = i64 x.an ∧ H' = [.cells t6 65 (aqL x)]) := by
  refine LCalls.of Try.func48 rfl Try.ntmps48 Try.results48 rfl (fun Rf => ?_)
  refine LW.seq ?_
  refine LW.region ?_
  refine X.u (LU.assignR Is.rfl') rfl ?_
  refine LL.nil (after_code ?_)
  refine LW.seq ?_
  refine LW.region ?_
  refine X.u (LU.fieldO Try.underlying65 rfl Try.sizeOf3 (by decide) Is.rfl') rfl ?_
  refine X.u (LU.loadO 0 rfl ⟨Try.sizeOf3, Try.isAgg3⟩ Is.rfl' (Part.one rfl)) rfl ?_
  refine X.u (LU.assignR Is.rfl') rfl ?_
  refine LL.nil (after_code ?_)
  refine LW.ret (after_end ?_)
  refine X.ret (H' := [.cells t6 65 (aqL x)]) (Res.one (by exact IsR rfl)) (by repeat (exact HSub.refl _)) ?_
  exact ⟨rfl, rfl⟩
def stE (ws : List Int) (es : List Ed) (an : Int) : List Ed := match ws with
  | [] => es
  | x :: _ => es ++ [(x, outE an, an)]
def stR (ws : List Int) (an : Int) : Ed := match ws with
  | [] => (0, 0, 0)
  | x :: _ => (x, outE an, an)
def stP (ws : List Int) : Nat := match ws with
  | [] => 111
  | _ :: _ => 0
theorem stepP_calls (t6 : Nat) (x : AcQ) (g : Nat) (ws : List Int) (es : List Ed) (b o c p q r : Nat) (hw : ws.length ≤ 64) (he : es.length ≤ 2999999999999) : LCalls Try.prog 33 [pt g, .raw (.func (.func 48) #[] #[.pointer (some ⟨t6, 0, none⟩)])] [qa g ws es .nilFunc b o c p q r, .tail b o c, .tail p q r, .cells t6 65 (aqL x)] (fun v H' => ∃ b' o' c' p' q' r', v = .tup [.agg (edL (stR ws x.an)), i64 (stP ws)] ∧ H' = [qa g (ws.eraseIdx 0) (stE ws es x.an) .nilFunc b' o' c' p' q' r', .tail b' o' c', .tail p' q' r', .cells t6 65 (aqL x)]) := by
  cases ws with
  | nil =>
    refine ((step_empty g es b o c p q r _ _ _).frame [.tail b o c, .tail p q r, .cells t6 65 (aqL x)]).mono fun v H' h => ?_
    obtain ⟨H0, rfl, rfl, rfl⟩ := h
    exact ⟨b, o, c, p, q, r, rfl, rfl⟩
  | cons y ws =>
    have hn := (answer1_calls y t6 x).around [qa g (y :: ws) es (.func (.func 48) #[] #[.pointer (some ⟨t6, 0, none⟩)]) b o c p q r, .tail b o c, .tail p q r]
    refine (stepG_calls (Post := fun why ws2 es2 Ht2 => why = x.an ∧ ws2 = y :: ws ∧ es2 = es ∧ Ht2 = [.cells t6 65 (aqL x)]) [.cells t6 65 (aqL x)] g (y :: ws) es b o c p q r _ _ _ y rfl (by omega) (FnCalls.closure (caps := #[.pointer (some ⟨t6, 0, none⟩)]) Try.func48 rfl rfl (hn.mono fun v H' h => ?_))).mono fun v H' h => ?_
    · obtain ⟨H0, rfl, rfl, rfl⟩ := h
      exact ⟨x.an, y :: ws, es, b, o, c, p, q, r, _, rfl, rfl, rfl, by omega, by omega, rfl, rfl, rfl, rfl⟩
    · obtain ⟨why, ws2, es2, b', o', c', p', q', r', Ht', rfl, rfl, rfl, rfl, rfl, rfl⟩ := h
      exact ⟨b', o', c', p', q', r', rfl, rfl⟩
theorem rstepP_calls (W : List Int) (E : List Ed) (an : Int) (hl : W.length ≤ 1000) (he : E.length ≤ 3000000000000) : LCalls Try.prog 46 [.agg (rq W E), i64 an] [] (fun r H' => r = .tup [.agg (rq (W.eraseIdx 0) (stE W E an)), .agg (edL (stR W an)), i64 (stP W)] ∧ H' = []) := by
  cases W with
  | nil => exact rstep_nil E an
  | cons x W => exact rstep_cons (x :: W) E x an rfl hl he
theorem sizes_put (ws : List Int) (id : Int) : (putW ws id).length ≤ ws.length + 1 := by
  unfold putW
  split
  · rw [List.length_append]; exact Nat.le_refl _
  · omega
theorem put_len {ws : List Int} (id : Int) (hl : ws.length ≤ 64) : (putW ws id).length ≤ 64 := by
  unfold putW
  by_cases h : idxP ws id = 0
  · rw [if_pos h]
    unfold idxP at h
    have h1 : ¬ id < 1 := fun q => by rw [if_pos q] at h; cases h
    rw [if_neg h1] at h
    have h2 : ¬ 0 ≤ idx ws id := fun q => by rw [if_pos q] at h; cases h
    rw [if_neg h2] at h
    have h3 : ¬ 64 ≤ ws.length := fun q => by rw [if_pos q] at h; cases h
    rw [List.length_append, List.length_singleton]; omega
  · rw [if_neg h]; exact hl
theorem sizes_drop (ws : List Int) (es : List Ed) (id : Int) : (dropE ws es id).length + (dropW ws id).length = es.length + ws.length := by
  unfold dropE dropW
  split
  · rfl
  · rename_i h4
    obtain ⟨i, hi, hx⟩ := idx_spec (l := ws) (v := id) (by omega)
    have hil := (List.getElem?_eq_some_iff.1 hx).1
    rw [hi, Int.toNat_natCast, List.length_append, List.length_eraseIdx_of_lt hil, List.length_singleton]
    omega
theorem sizes_step (ws : List Int) (es : List Ed) (an : Int) : (stE ws es an).length + (ws.eraseIdx 0).length = es.length + ws.length := by
  cases ws with
  | nil => rfl
  | cons x ws => simp [stE]; omega
set_option maxHeartbeats 4000000 in
set_option maxRecDepth 100000 in
theorem qpl_calls (l : List AcQ) (hl : l.length ≤ 2999999998000) (hok : ∀ a ∈ l, AqOk a) : LCalls Try.prog 11 [.sl 4 (aqs l) .unk] [] (fun r H' => r = bl true ∧ H' = []) := by
  refine LCalls.of Try.func11 rfl Try.ntmps11 Try.results11 rfl (fun Rf => ?_)
  refine LW.seq ?_
  refine LW.region ?_
  refine X.u (LU.assignR Is.rfl') rfl ?_
  refine LL.nil (after_code ?_)
  refine LW.seq ?_
  refine LW.seq ?_
  refine LW.region ?_
  refine X.u (LU.moveS Is.rfl') rfl ?_
  refine X.act (X.call (few21_calls l .unk (by omega) hok) Try.func35 rfl rfl rfl (HSub.refl _) (Opds.cons Is.rfl' Opds.nil) ?_)
  rintro r H' ⟨fb, rfl, rfl⟩
  refine X.u (LU.not Is.rfl') rfl ?_
  refine LL.nil (after_code ?_)
  refine X.cond rfl (fun h1 => ?_) (fun h1 => ?_)
  · try have h1 := of_decide_eq_true h1
    refine LW.seq ?_
    refine LW.region ?_
    refine X.u (LU.call (lives21_calls) Try.func31 rfl rfl Opds.nil) rfl ?_
    refine X.u (LU.assignR Is.rfl') rfl ?_
    refine LL.nil (after_code ?_)
    refine LW.ret (ret_code (after_end ?_))
    refine X.ret (H' := []) (Res.one (by exact IsR rfl)) (by repeat (exact HSub.refl _)) ?_
    exact ⟨rfl, rfl⟩
  · try have h1 := of_decide_eq_false h1
    refine LW.skip (after_code ?_)
    refine LW.seq ?_
    refine LW.region ?_
    refine X.act (X.call (new_calls21) Try.func27 rfl rfl rfl (HSub.refl _) Opds.nil ?_)
    rintro r H' ⟨g, rfl, rfl⟩
    refine X.u (LU.build (places := #[(0, 1), (1, 1)]) Try.underlying68 Try.zeroValue68 (ones rfl) (by intro w; simp [Try.sizeOf24, Try.sizeOf54]) Parts.nil rfl) rfl ?_
    refine X.act (X.alloc rfl Try.zeroValue68 (by exact Cells.rawagg (by decide)) (fun b4 => ?_))
    refine X.u (LU.assignR Is.rfl') rfl ?_
    refine X.act (X.store 0 rfl Try.sizeOf68 Is.rfl' Is.rfl' (by exact Cells.agg) (by rfl) (by exact Nat.le_of_ble_eq_true rfl) ?_)
    refine LL.nil (after_code ?_)
    refine LW.seq ?_
    refine LW.seq ?_
    refine X.wghost (HSub.trans (B := .cells b4 68 rqz :: qa g [] [] .nilFunc 0 0 0 0 0 0 :: .tail 0 0 0 :: .tail 0 0 0 :: Rf) (by repeat (exact HSub.refl _)) (HSub.trans (HSub.cell 0 rfl ((Is.nil 1).trans Is.unk)) (HSub.cell 1 rfl ((Is.nil 3).trans Is.unk)))) ?_
    refine LW.region ?_
    refine X.u (LU.moveS Is.rfl') rfl ?_
    refine X.u (LU.lenN Try.underlying62 Is.rfl' (by (simp only [Option.getD_some, Option.getD_none, byteEls_length, intEls_length, List.length_append, List.length_cons, List.length_nil, List.length_map, List.length_drop, List.length_take, Int.toNat_natCast]; rfl))) rfl ?_
    refine X.u (LU.moveR Is.rfl') rfl ?_
    refine LL.nil (after_code ?_)
    refine LW.block ?_
    refine X.loopK (α := Nat × List Int × List Ed × Nat × Nat × Nat × Nat × Nat × Nat) (fun ⟨k, ws, es, b, o, c, p, q, r⟩ => [(24, i64 k)]) [3, 4, 22, 23] (fun ⟨k, ws, es, b, o, c, p, q, r⟩ => qa g ws es .nilFunc b o c p q r :: .tail b o c :: .tail p q r :: .cells b4 68 (rq ws es) :: Rf) (fun ⟨k, ws, es, b, o, c, p, q, r⟩ => k ≤ l.length ∧ ws.length ≤ 64 ∧ es.length + ws.length ≤ k) (fun ⟨k, ws, es, b, o, c, p, q, r⟩ => l.length - k) ((0, [], [], 0, 0, 0, 0, 0, 0)) (EnvLe.cons (by rfl) (EnvLe.nil)) (by repeat (first | exact HSub.refl _ | refine HSub.pick 1 rfl ?_)) ?_ ?_
    · exact ⟨Nat.zero_le _, Nat.zero_le _, Nat.le_refl _⟩
    · rintro ⟨k, ws, es, b, o, c, p, q, r⟩ hI
      obtain ⟨hk, hwl, hel⟩ := hI
      refine LW.seq ?_
      refine LW.region ?_
      refine X.u (LU.lss Is.rfl' Is.rfl') rfl ?_
      refine LL.nil (after_code ?_)
      refine LW.seq ?_
      refine X.cond rfl (fun h5 => ?_) (fun h5 => ?_)
      · try have h5 := of_decide_eq_true h5
        refine LW.skip (after_code ?_)
        refine LW.seq ?_
        refine LW.block ?_
        refine LW.seq ?_
        obtain ⟨x, hx⟩ := at_lt (show k < l.length by omega)
        have hpu := put_calls21 g ws es .nilFunc b o c p q r x.id hwl
        have hput := put_len x.id hwl
        have hs1 := sizes_put ws x.id
        have hdr := drop_calls g ws es b o c p q r x.id (by omega) (by omega)
        have hs2 := sizes_drop ws es x.id
        have hs3 := sizes_step ws es x.an
        have hdl : (dropW ws x.id).length ≤ 64 := by
          unfold dropW
          split
          · exact hwl
          · rw [List.length_eraseIdx]; split <;> omega
        have hel0 : (ws.eraseIdx 0).length ≤ 64 := by rw [List.length_eraseIdx]; split <;> omega
        refine LW.region ?_
        refine X.u (LU.at Try.underlying62 ⟨Try.sizeOf65, Try.isAgg65⟩ Is.rfl' Is.rfl' (by omega) (aqs_at hx) (by simp)) rfl ?_
        refine X.u (LU.load ⟨Try.sizeOf65, Try.isAgg65⟩ Is.rfl' (by (simp; done)) (Part.whole (by (simp; done)))) rfl ?_
        refine X.act (X.alloc rfl Try.zeroValue65 (by exact Cells.rawagg (by decide)) (fun b6 => ?_))
        refine X.act (X.store 0 rfl Try.sizeOf65 Is.rfl' Is.rfl' (by exact Cells.agg) (by (simp; done)) (by exact Nat.le_of_ble_eq_true rfl) ?_)
        refine LL.nil (after_code ?_)
        refine LW.seq ?_
        refine X.wcells (ys := aqL x) rfl ?_
        refine LW.region ?_
        refine X.u (LU.assignR Is.rfl') rfl ?_
        refine LL.nil (after_code ?_)
        refine LW.seq ?_
        refine LW.region ?_
        refine X.u (LU.assignR Is.rfl') rfl ?_
        refine LL.nil (after_code ?_)
        refine X.meetK (α := List Int × List Ed × Nat × Nat × Nat × Nat × Nat × Nat × Int) (fun ⟨ws2, es2, b2_, o2_, c2_, p2_, q2_, r2_, e⟩ => [(7, i64 e), (8, i64 e)]) [3, 4, 6, 22, 23, 24] (fun ⟨ws2, es2, b2_, o2_, c2_, p2_, q2_, r2_, e⟩ => .cells b6 65 (aqL x) :: qa g ws2 es2 .nilFunc b2_ o2_ c2_ p2_ q2_ r2_ :: .tail b2_ o2_ c2_ :: .tail p2_ q2_ r2_ :: .cells b4 68 (rq ws2 es2) :: Rf) (fun ⟨ws2, es2, b2_, o2_, c2_, p2_, q2_, r2_, e⟩ => ws2.length ≤ 64 ∧ es2.length + ws2.length ≤ k + 1) ?_ ?_
        · refine LW.seq ?_
          refine LW.region ?_
          refine X.u (LU.fieldO Try.underlying65 rfl Try.sizeOf3 (by decide) Is.rfl') rfl ?_
          refine X.u (LU.loadO 0 rfl ⟨Try.sizeOf3, Try.isAgg3⟩ Is.rfl' (Part.one rfl)) rfl ?_
          refine LL.nil (after_code ?_)
          refine LW.block ?_
          refine LW.seq ?_
          refine LW.region ?_
          refine X.u (LU.eql Is.rfl' Is.rfl') rfl ?_
          refine X.u (LU.assignR Is.rfl') rfl ?_
          refine LL.nil (after_code ?_)
          refine X.cond rfl (fun h21 => ?_) (fun h21 => ?_)
          · try have h21 := of_decide_eq_true h21
            refine LW.seq ?_
            refine LW.region ?_
            refine X.u (LU.moveR Is.rfl') rfl ?_
            refine X.u (LU.fieldO Try.underlying65 rfl Try.sizeOf3 (by decide) Is.rfl') rfl ?_
            refine X.u (LU.loadO 0 rfl ⟨Try.sizeOf3, Try.isAgg3⟩ Is.rfl' (Part.one rfl)) rfl ?_
            refine X.act (X.call (hpu) Try.func28 rfl rfl rfl (by (refine HSub.pick 1 rfl ?_); (refine HSub.pick 1 rfl ?_); (refine HSub.pick 1 rfl ?_); exact HSub.refl _) (Opds.cons Is.rfl' (Opds.cons Is.rfl' Opds.nil)) ?_)
            rintro r H' ⟨b3_, o3_, c3_, rfl, rfl⟩
            refine X.u (LU.assignR Is.rfl') rfl ?_
            refine LL.nil (after_code ?_)
            refine LW.region ?_
            refine X.u (LU.loadO 4 rfl ⟨Try.sizeOf68, Try.isAgg68⟩ Is.rfl' (Part.whole (by (simp; done)))) rfl ?_
            refine X.u (LU.fieldO Try.underlying65 rfl Try.sizeOf3 (by decide) Is.rfl') rfl ?_
            refine X.u (LU.loadO 3 rfl ⟨Try.sizeOf3, Try.isAgg3⟩ Is.rfl' (Part.one rfl)) rfl ?_
            refine X.u (LU.call (rput_calls ws es x.id hwl) Try.func44 rfl rfl (Opds.cons Is.rfl' (Opds.cons Is.rfl' Opds.nil))) rfl ?_
            refine X.u (LU.moveT Is.rfl') rfl ?_
            refine X.u (LU.extract Is.rfl' rfl) rfl ?_
            refine X.u (LU.extract Is.rfl' rfl) rfl ?_
            refine X.act (X.store 4 rfl Try.sizeOf68 Is.rfl' Is.rfl' (by exact Cells.agg) (by (simp; done)) (by (simp; done)) ?_)
            refine X.u (LU.assignR Is.rfl') rfl ?_
            refine LL.nil (after_blk (after_rnd ?_))
            refine X.meets ((putW ws x.id, es, b3_, o3_, c3_, p, q, r, idxP ws x.id)) rfl (EnvLe.cons (by rfl) (EnvLe.cons (by rfl) (EnvLe.nil))) (Keeps.cons (by exact Eq.trans (b := .raw _) rfl rfl) (Keeps.cons (by exact Eq.trans (b := .raw _) rfl rfl) (Keeps.cons (by exact Eq.trans (b := .raw _) rfl rfl) (Keeps.cons (by exact Eq.trans (b := .sl _ _ _) rfl rfl) (Keeps.cons (by exact Eq.trans (b := .raw _) rfl rfl) (Keeps.cons (by exact Eq.trans (b := .raw _) rfl rfl) (Keeps.nil))))))) (by repeat (first | exact HSub.refl _ | refine HSub.pick 1 rfl ?_ | refine HSub.pick 4 rfl ?_)) ?_
            exact ⟨hput, by omega⟩
          · try have h21 := of_decide_eq_false h21
            refine LW.seq ?_
            refine LW.region ?_
            refine X.u (LU.eql Is.rfl' Is.rfl') rfl ?_
            refine X.u (LU.assignR Is.rfl') rfl ?_
            refine LL.nil (after_code ?_)
            refine X.cond rfl (fun h24 => ?_) (fun h24 => ?_)
            · try have h24 := of_decide_eq_true h24
              refine LW.seq ?_
              refine LW.region ?_
              refine X.u (LU.moveR Is.rfl') rfl ?_
              refine X.u (LU.fieldO Try.underlying65 rfl Try.sizeOf3 (by decide) Is.rfl') rfl ?_
              refine X.u (LU.loadO 0 rfl ⟨Try.sizeOf3, Try.isAgg3⟩ Is.rfl' (Part.one rfl)) rfl ?_
              refine X.act (X.call (hdr) Try.func36 rfl rfl rfl (by (refine HSub.pick 1 rfl ?_); (refine HSub.pick 1 rfl ?_); (refine HSub.pick 1 rfl ?_); exact HSub.refl _) (Opds.cons Is.rfl' (Opds.cons Is.rfl' Opds.nil)) ?_)
              rintro r H' ⟨b3_, o3_, c3_, p3_, q3_, r3_, rfl, rfl⟩
              refine X.u (LU.assignR Is.rfl') rfl ?_
              refine LL.nil (after_code ?_)
              refine LW.region ?_
              refine X.u (LU.loadO 4 rfl ⟨Try.sizeOf68, Try.isAgg68⟩ Is.rfl' (Part.whole (by (simp; done)))) rfl ?_
              refine X.u (LU.fieldO Try.underlying65 rfl Try.sizeOf3 (by decide) Is.rfl') rfl ?_
              refine X.u (LU.loadO 3 rfl ⟨Try.sizeOf3, Try.isAgg3⟩ Is.rfl' (Part.one rfl)) rfl ?_
              refine X.u (LU.call (rdrop_calls ws es x.id (by omega) (by omega)) Try.func45 rfl rfl (Opds.cons Is.rfl' (Opds.cons Is.rfl' Opds.nil))) rfl ?_
              refine X.u (LU.moveT Is.rfl') rfl ?_
              refine X.u (LU.extract Is.rfl' rfl) rfl ?_
              refine X.u (LU.extract Is.rfl' rfl) rfl ?_
              refine X.act (X.store 4 rfl Try.sizeOf68 Is.rfl' Is.rfl' (by exact Cells.agg) (by (simp; done)) (by (simp; done)) ?_)
              refine X.u (LU.assignR Is.rfl') rfl ?_
              refine LL.nil (after_blk (after_rnd ?_))
              refine X.meets ((dropW ws x.id, dropE ws es x.id, b3_, o3_, c3_, p3_, q3_, r3_, dropP ws x.id)) rfl (EnvLe.cons (by rfl) (EnvLe.cons (by rfl) (EnvLe.nil))) (Keeps.cons (by exact Eq.trans (b := .raw _) rfl rfl) (Keeps.cons (by exact Eq.trans (b := .raw _) rfl rfl) (Keeps.cons (by exact Eq.trans (b := .raw _) rfl rfl) (Keeps.cons (by exact Eq.trans (b := .sl _ _ _) rfl rfl) (Keeps.cons (by exact Eq.trans (b := .raw _) rfl rfl) (Keeps.cons (by exact Eq.trans (b := .raw _) rfl rfl) (Keeps.nil))))))) (by repeat (first | exact HSub.refl _ | refine HSub.pick 1 rfl ?_ | refine HSub.pick 4 rfl ?_)) ?_
              exact ⟨hdl, by omega⟩
            · try have h24 := of_decide_eq_false h24
              refine LW.seq ?_
              refine LW.region ?_
              refine X.u (LU.eql Is.rfl' Is.rfl') rfl ?_
              refine X.u (LU.assignR Is.rfl') rfl ?_
              refine LL.nil (after_code ?_)
              refine X.cond rfl (fun h27 => ?_) (fun h27 => ?_)
              · try have h27 := of_decide_eq_true h27
                refine LW.seq ?_
                refine LW.region ?_
                refine X.act (X.alloc rfl Try.zeroValue58 (by exact Cells.rawagg (by decide)) (fun b9 => ?_))
                refine X.act (X.alloc rfl Try.zeroValue58 (by exact Cells.rawagg (by decide)) (fun b10 => ?_))
                refine LL.nil (after_code ?_)
                refine LW.seq ?_
                refine LW.region ?_
                refine X.u (LU.moveR Is.rfl') rfl ?_
                refine X.u (LU.closure (vs := [_]) (Opds.cons Is.rfl' Opds.nil)) rfl ?_
                refine X.act (X.call (stepP_calls b6 x g ws es b o c p q r hwl (by omega)) Try.func33 rfl rfl rfl (by (refine HSub.pick 3 rfl ?_); (refine HSub.pick 3 rfl ?_); (refine HSub.pick 3 rfl ?_); (refine HSub.pick 2 rfl ?_); exact HSub.refl _) (Opds.cons Is.rfl' (Opds.cons Is.rfl' Opds.nil)) ?_)
                rintro r H' ⟨b3_, o3_, c3_, p3_, q3_, r3_, rfl, rfl⟩
                refine X.u (LU.moveT Is.rfl') rfl ?_
                refine X.u (LU.extract Is.rfl' rfl) rfl ?_
                refine X.u (LU.extract Is.rfl' rfl) rfl ?_
                refine X.act (X.store 5 rfl Try.sizeOf58 Is.rfl' Is.rfl' (by exact Cells.agg) (by (simp; done)) (by exact Nat.le_of_ble_eq_true rfl) ?_)
                refine X.u (LU.assignR Is.rfl') rfl ?_
                refine LL.nil (after_code ?_)
                refine LW.seq ?_
                refine LW.region ?_
                refine X.u (LU.loadO 6 rfl ⟨Try.sizeOf68, Try.isAgg68⟩ Is.rfl' (Part.whole (by (simp; done)))) rfl ?_
                refine X.u (LU.fieldO Try.underlying65 rfl Try.sizeOf3 (by decide) Is.rfl') rfl ?_
                refine X.u (LU.loadO 4 rfl ⟨Try.sizeOf3, Try.isAgg3⟩ Is.rfl' (Part.one rfl)) rfl ?_
                refine X.u (LU.call (rstepP_calls ws es x.an (by omega) (by omega)) Try.func46 rfl rfl (Opds.cons Is.rfl' (Opds.cons Is.rfl' Opds.nil))) rfl ?_
                refine X.u (LU.moveT Is.rfl') rfl ?_
                refine X.u (LU.extract Is.rfl' rfl) rfl ?_
                refine X.u (LU.extract Is.rfl' rfl) rfl ?_
                refine X.u (LU.extract Is.rfl' rfl) rfl ?_
                refine X.act (X.store 6 rfl Try.sizeOf68 Is.rfl' Is.rfl' (by exact Cells.agg) (by (simp; done)) (by (simp; done)) ?_)
                refine X.act (X.store 6 rfl Try.sizeOf58 Is.rfl' Is.rfl' (by exact Cells.agg) (by (simp; done)) (by exact Nat.le_of_ble_eq_true rfl) ?_)
                refine X.u (LU.assignR Is.rfl') rfl ?_
                refine LL.nil (after_code ?_)
                refine LW.seq ?_
                refine LW.region ?_
                refine X.u (LU.loadO 2 rfl ⟨Try.sizeOf58, Try.isAgg58⟩ Is.rfl' (Part.whole (by rfl))) rfl ?_
                refine X.u (LU.loadO 0 rfl ⟨Try.sizeOf58, Try.isAgg58⟩ Is.rfl' (Part.whole (by rfl))) rfl ?_
                refine X.u (LU.weak (LU.neqA Is.rfl' Is.rfl' (RawL.cons (RawL.cons (RawL.cons (RawL.nil)))) (RawL.cons (RawL.cons (RawL.cons (RawL.nil)))) Try.eqGuardType58 rfl (EqR.struct Try.underlying58 Try.stoodInHeld58 (EqFs.cons rfl (part_one Try.isAgg3 rfl) (part_one Try.isAgg3 rfl) (EqR.int Try.underlying3) (EqFs.cons rfl (part_one Try.isAgg3 rfl) (part_one Try.isAgg3 rfl) (EqR.int Try.underlying3) (EqFs.one rfl (part_one Try.isAgg26 rfl) (part_one Try.isAgg26 rfl) (EqR.int Try.underlying26)))))) (asB (c := false) rfl (by simp))) rfl ?_
                refine LL.nil (after_code ?_)
                refine X.condF rfl ?_ ?_
                · rfl
                refine LW.skip (after_blk (after_rnd ?_))
                refine X.meets ((ws.eraseIdx 0, stE ws es x.an, b3_, o3_, c3_, p3_, q3_, r3_, stP ws)) rfl (EnvLe.cons (by rfl) (EnvLe.cons (by rfl) (EnvLe.nil))) (Keeps.cons (by exact Eq.trans (b := .raw _) rfl rfl) (Keeps.cons (by exact Eq.trans (b := .raw _) rfl rfl) (Keeps.cons (by exact Eq.trans (b := .raw _) rfl rfl) (Keeps.cons (by exact Eq.trans (b := .sl _ _ _) rfl rfl) (Keeps.cons (by exact Eq.trans (b := .raw _) rfl rfl) (Keeps.cons (by exact Eq.trans (b := .raw _) rfl rfl) (Keeps.nil))))))) (by repeat (first | exact HSub.refl _ | refine HSub.pick 1 rfl ?_ | refine HSub.pick 3 rfl ?_ | refine HSub.pick 6 rfl ?_ | refine HSub.drop ?_)) ?_
                exact ⟨hel0, by omega⟩
              · try have h27 := of_decide_eq_false h27
                refine LW.seq ?_
                refine LW.region ?_
                refine X.act (X.alloc rfl Try.zeroValue3 (by exact Cells.raw rfl) (fun b11 => ?_))
                refine X.act (X.store 0 rfl Try.sizeOf3 Is.rfl' Is.rfl' (by exact Cells.raw rfl) (by (simp; done)) (by (simp; done)) ?_)
                refine LL.nil (after_code ?_)
                refine LW.seq ?_
                refine X.wcells (ys := [i64 0]) rfl ?_
                refine LW.region ?_
                refine X.u (LU.closure (vs := [_, _]) (Opds.cons Is.rfl' (Opds.cons Is.rfl' Opds.nil))) rfl ?_
                refine X.act (X.alloc rfl Try.zeroValue35 (by exact Cells.raw rfl) (fun b12 => ?_))
                refine X.act (X.store 0 rfl Try.sizeOf35 Is.rfl' Is.rfl' (by exact Cells.raw rfl) (by (simp; done)) (by (simp; done)) ?_)
                refine LL.nil (after_code ?_)
                refine LW.seq ?_
                refine X.wghost (H' := qa g ws es .nilFunc b o c p q r :: .tail b o c :: .tail p q r :: .cells b12 35 [.raw (fv b11 b6)] :: .cells b11 3 [i64 ((0 : Nat) : Int)] :: .cells b6 65 (aqL x) :: .cells b4 68 (rq ws es) :: Rf) (by repeat (first | exact HSub.refl _ | refine HSub.pick 3 rfl ?_)) ?_
                have hdn := drain_calls (HtQ b12 b11 b6 x) (ansOf x.l) 50 #[] #[.pointer (some ⟨b12, 0, none⟩)] ws hwl (fun j y hy => FnCalls.closure Try.func50 rfl rfl (answer3_calls y b12 b11 b6 j x (by have := (List.getElem?_eq_some_iff.1 hy).1; omega))) g es (by omega) b o c p q r
                have hevl := evs_len (ansOf x.l) ws
                refine LW.region ?_
                refine X.u (LU.moveR Is.rfl') rfl ?_
                refine X.u (LU.closure (vs := [_]) (Opds.cons Is.rfl' Opds.nil)) rfl ?_
                refine X.act (X.call (hdn) Try.func42 rfl rfl rfl (by (refine HSub.pick 0 rfl ?_); (refine HSub.pick 0 rfl ?_); (refine HSub.pick 0 rfl ?_); (refine HSub.pick 0 rfl ?_); (refine HSub.pick 0 rfl ?_); (refine HSub.pick 0 rfl ?_); exact HSub.refl _) (Opds.cons Is.rfl' (Opds.cons Is.rfl' Opds.nil)) ?_)
                rintro r H' ⟨b3_, o3_, c3_, p3_, q3_, r3_, rfl, rfl⟩
                refine X.u (LU.assignS Is.rfl') rfl ?_
                refine LL.nil (after_code ?_)
                refine LW.seq ?_
                refine LW.region ?_
                refine X.act (X.store 4 rfl Try.sizeOf3 Is.rfl' Is.rfl' (by exact Cells.raw rfl) (by (simp; done)) (by (simp; done)) ?_)
                refine LL.nil (after_code ?_)
                refine LW.seq ?_
                refine X.wcells (ys := [i64 ((0 : Nat) : Int)]) rfl ?_
                refine LW.region ?_
                refine X.u (LU.assign (Is.nil 3)) rfl ?_
                refine LL.nil (after_code ?_)
                refine LW.seq ?_
                refine LW.block ?_
                refine X.wweak (t := 14) (v := .sl 3 [] (.tok 0 0 0)) (Is.full_tok 0 0) ?_
                refine X.wghost (H' := .tail 0 0 0 :: qa g [] (es ++ evs (ansOf x.l) ws) .nilFunc b3_ o3_ c3_ p3_ q3_ r3_ :: .tail b3_ o3_ c3_ :: .tail p3_ q3_ r3_ :: .cells b12 35 [.raw (fv b11 b6)] :: .cells b11 3 [i64 ((0 : Nat) : Int)] :: .cells b6 65 (aqL x) :: .cells b4 68 (rq ws es) :: Rf) (HSub.trans (HSub.tail0 0 0 0 (Nat.le_refl _) _) (by repeat (first | exact HSub.refl _ | refine HSub.pick 0 rfl ?_ | refine HSub.pick 1 rfl ?_))) ?_
                refine X.loopK (α := Nat × Nat × Nat × Nat) (fun ⟨m, tb, to, tc⟩ => [(14, .sl 3 (eds ((evs (ansOf x.l) ws).take m)) (.tok tb to tc))]) [3, 4, 6, 7, 8, 12, 13, 22, 23, 24] (fun ⟨m, tb, to, tc⟩ => .tail tb to tc :: qa g [] (es ++ evs (ansOf x.l) ws) .nilFunc b3_ o3_ c3_ p3_ q3_ r3_ :: .tail b3_ o3_ c3_ :: .tail p3_ q3_ r3_ :: .cells b12 35 [.raw (fv b11 b6)] :: .cells b11 3 [i64 (m : Nat)] :: .cells b6 65 (aqL x) :: .cells b4 68 (rq (ws.drop m) (es ++ (evs (ansOf x.l) ws).take m)) :: Rf) (fun ⟨m, tb, to, tc⟩ => m ≤ ws.length) (fun ⟨m, tb, to, tc⟩ => ws.length - m) ((0, 0, 0, 0)) (EnvLe.cons (by rfl) (EnvLe.nil)) (by show L.HSub _ (.tail 0 0 0 :: qa g [] (es ++ evs (ansOf x.l) ws) .nilFunc b3_ o3_ c3_ p3_ q3_ r3_ :: .tail b3_ o3_ c3_ :: .tail p3_ q3_ r3_ :: .cells b12 35 [.raw (fv b11 b6)] :: .cells b11 3 [i64 ((0 : Nat) : Int)] :: .cells b6 65 (aqL x) :: .cells b4 68 (rq (ws.drop 0) (es ++ (evs (ansOf x.l) ws).take 0)) :: Rf); rw [List.take_zero, List.append_nil, List.drop_zero]; exact HSub.refl _) ?_ ?_
                · exact Nat.zero_le _
                · rintro ⟨m, tb, to, tc⟩ hI
                  refine LW.seq ?_
                  refine LW.seq ?_
                  refine LW.region ?_
                  refine X.u (LU.fieldO Try.underlying68 rfl Try.sizeOf24 (by decide) Is.rfl') rfl ?_
                  refine X.u (LU.loadO 7 rfl ⟨Try.sizeOf24, Try.isAgg24⟩ Is.rfl' (Part.one rfl)) rfl ?_
                  refine X.u (LU.lenN Try.underlying24 Is.rfl' (by (simp only [Option.getD_some, Option.getD_none, byteEls_length, intEls_length, List.length_append, List.length_cons, List.length_nil, List.length_map, List.length_drop, List.length_take, Int.toNat_natCast]; rfl))) rfl ?_
                  refine X.u (LU.gtr Is.rfl' Is.rfl') rfl ?_
                  refine LL.nil (after_code ?_)
                  refine X.cond rfl (fun h15 => ?_) (fun h15 => ?_)
                  · have h15 : m < ws.length := by have := of_decide_eq_true h15; omega
                    obtain ⟨y, hy⟩ := at_lt h15
                    have hfv := fv_calls b11 b6 m x (by omega)
                    have hrs := rstep_cons (ws.drop m) (es ++ (evs (ansOf x.l) ws).take m) y (ansOf x.l m) (drop_zero hy) (by rw [List.length_drop]; omega) (by rw [List.length_append, List.length_take]; omega)
                    rw [drop_erase, List.append_assoc, ← evs_snoc hy] at hrs
                    refine X.wghost (H' := .tail tb to tc :: qa g [] (es ++ evs (ansOf x.l) ws) .nilFunc b3_ o3_ c3_ p3_ q3_ r3_ :: .tail b3_ o3_ c3_ :: .tail p3_ q3_ r3_ :: .cells b12 35 [.raw (fv b11 b6)] :: .cells b11 3 [i64 (m : Nat)] :: .cells b6 65 (aqL x) :: .cells b4 68 (rq (ws.drop m) (es ++ (evs (ansOf x.l) ws).take m)) :: Rf) (HSub.refl _) ?_
                    refine LW.skip (after_code ?_)
                    refine LW.block ?_
                    refine LW.seq ?_
                    refine LW.region ?_
                    refine X.act (X.alloc rfl Try.zeroValue58 (by exact Cells.rawagg (by decide)) (fun b15 => ?_))
                    refine LL.nil (after_code ?_)
                    refine LW.seq ?_
                    refine X.wghost (H' := .cells b11 3 [i64 (m : Nat)] :: .cells b4 68 (rq (ws.drop m) (es ++ (evs (ansOf x.l) ws).take m)) :: .cells b15 58 (edL (0, 0, 0)) :: .cells b12 35 [.raw (fv b11 b6)] :: .cells b6 65 (aqL x) :: .tail tb to tc :: qa g [] (es ++ evs (ansOf x.l) ws) .nilFunc b3_ o3_ c3_ p3_ q3_ r3_ :: .tail b3_ o3_ c3_ :: .tail p3_ q3_ r3_ :: Rf) (by repeat (first | exact HSub.refl _ | refine HSub.pick 0 rfl ?_ | refine HSub.pick 4 rfl ?_ | refine HSub.pick 6 rfl ?_ | refine HSub.pick 7 rfl ?_)) ?_
                    obtain ⟨R5, hR5⟩ : ∃ R5, R5 = .tail tb to tc :: qa g [] (es ++ evs (ansOf x.l) ws) .nilFunc b3_ o3_ c3_ p3_ q3_ r3_ :: .tail b3_ o3_ c3_ :: .tail p3_ q3_ r3_ :: Rf := ⟨_, rfl⟩
                    rw [← hR5]
                    obtain ⟨W1, hW1⟩ : ∃ W1, W1 = rq (ws.drop m) (es ++ (evs (ansOf x.l) ws).take m) := ⟨_, rfl⟩
                    obtain ⟨W2, hW2⟩ : ∃ W2, W2 = rq (ws.drop (m + 1)) (es ++ (evs (ansOf x.l) ws).take (m + 1)) := ⟨_, rfl⟩
                    have hl1 : W1.length = 2 := by rw [hW1]; rfl
                    have hl2 : W2.length = 2 := by rw [hW2]; rfl
                    rw [← hW1, ← hW2] at hrs
                    rw [← hW1]
                    refine LW.invB (m := 10) (γ := Unit × Unit) [(0, 39), (1, 40), (2, 41), (3, 42), (4, 38), (5, 43), (6, 44), (7, 45)] (fun g_ d => match g_ with | ⟨za, zb⟩ => match d with | 39 => .agg W1 | 40 => .raw (fv b11 b6) | 41 => i64 (ansOf x.l m) | 42 => .tup [.agg W2, .agg (edL (y, outE (ansOf x.l m), ansOf x.l m)), i64 0] | 38 => .tup [.agg W2, .agg (edL (y, outE (ansOf x.l m), ansOf x.l m)), i64 0] | 43 => .agg W2 | 44 => .agg (edL (y, outE (ansOf x.l m), ansOf x.l m)) | 45 => i64 0 | _ => .any) (fun g_ f => match g_ with | ⟨za, zb⟩ => .cells b11 3 (cond (f 2) [i64 ((m + 1 : Nat) : Int)] [i64 (m : Nat)]) :: .cells b4 68 (cond (f 8) W2 W1) :: .cells b15 58 (cond (f 9) (edL (y, outE (ansOf x.l m), ansOf x.l m)) (edL (0, 0, 0))) :: .cells b12 35 [.raw (fv b11 b6)] :: .cells b6 65 (aqL x) :: R5) ((), ()) rfl (by kernel_rfl) rfl rfl ((HSub.refl _)) ?_ ?_
                    · intro i hi f g_ hfi hdir hdown
                      obtain ⟨za, zb⟩ := g_
                      have hc : i = 0 ∨ i = 1 ∨ i = 2 ∨ i = 3 ∨ i = 4 ∨ i = 5 ∨ i = 6 ∨ i = 7 ∨ i = 8 ∨ i = 9 := by omega
                      rcases hc with rfl | rfl | rfl | rfl | rfl | rfl | rfl | rfl | rfl | rfl
                      · refine ⟨_, rfl, ?_⟩
                        have h8 : f 8 = false := Bool.eq_false_iff.2 (fun h => by rw [hdown 8 (by omega) h 0 (List.mem_of_elem_eq_true (by kernel_rfl))] at hfi; cases hfi)
                        refine A.u (LU.loadO (v := .agg W1) 1 rfl ⟨Try.sizeOf68, Try.isAgg68⟩ Is.rfl' (by show L.Part _ _ (cond (f 8) _ _) _ _; rw [h8]; exact Part.whole hl1)) rfl ?_
                        refine ⟨⟨za, zb⟩, Weaker.mk' ?_ (HSub.refl _)⟩
                        refine env_back0 (envS_hit (sl := [(0, 39), (1, 40), (2, 41), (3, 42), (4, 38), (5, 43), (6, 44), (7, 45)]) (j := 0) (d := 39) rfl (fun _ _ h => h))  (envS_next ?_)
                        · intro p hp hne; simp only [List.mem_cons, List.not_mem_nil, or_false] at hp; rcases hp with rfl | rfl | rfl | rfl | rfl | rfl | rfl | rfl <;> first | exact absurd rfl hne | exact ⟨rfl, rfl⟩
                      · refine ⟨_, rfl, ?_⟩
                        refine A.u (LU.loadO 3 rfl ⟨Try.sizeOf35, Try.isAgg35⟩ Is.rfl' (Part.one rfl)) rfl ?_
                        refine ⟨⟨za, zb⟩, Weaker.mk' ?_ (HSub.refl _)⟩
                        refine env_back0 (envS_hit (sl := [(0, 39), (1, 40), (2, 41), (3, 42), (4, 38), (5, 43), (6, 44), (7, 45)]) (j := 1) (d := 40) rfl (fun _ _ h => h))  (envS_next ?_)
                        · intro p hp hne; simp only [List.mem_cons, List.not_mem_nil, or_false] at hp; rcases hp with rfl | rfl | rfl | rfl | rfl | rfl | rfl | rfl <;> first | exact absurd rfl hne | exact ⟨rfl, rfl⟩
                      · have d1 := hdir 1 (List.mem_of_elem_eq_true (by kernel_rfl))
                        refine ⟨_, rfl, ?_⟩
                        refine LP.ghost (H' := .cells b11 3 [i64 (m : Nat)] :: .cells b6 65 (aqL x) :: .cells b4 68 (cond (f 8) W2 W1) :: .cells b15 58 (cond (f 9) (edL (y, outE (ansOf x.l m), ansOf x.l m)) (edL (0, 0, 0))) :: .cells b12 35 [.raw (fv b11 b6)] :: R5) (by show L.HSub (.cells b11 _ (cond (f 2) _ _) :: _) _; rw [hfi]; exact HSub.pick 0 rfl (HSub.pick 3 rfl (HSub.refl _))) ?_
                        refine LP.weak (t := 40) (v := .raw (fv b11 b6)) (envS_is (j := 1) rfl d1) ?_
                        refine A.act (X.callF (hfv) Is.rfl' rfl (by (refine HSub.pick 0 rfl ?_); (refine HSub.pick 0 rfl ?_); exact HSub.refl _) Opds.nil ?_)
                        rintro r H' ⟨rfl, rfl⟩
                        refine ⟨⟨za, zb⟩, Weaker.mk' ?_ (by show L.HSub _ (.cells b11 _ (cond true _ _) :: _); exact HSub.pick 0 rfl (HSub.pick 1 rfl (HSub.pick 1 rfl (HSub.pick 1 rfl (HSub.refl _)))))⟩
                        refine env_back1 (envS_hit (sl := [(0, 39), (1, 40), (2, 41), (3, 42), (4, 38), (5, 43), (6, 44), (7, 45)]) (j := 2) (d := 41) rfl (fun _ _ h => h)) (envS_hit (sl := [(0, 39), (1, 40), (2, 41), (3, 42), (4, 38), (5, 43), (6, 44), (7, 45)]) (j := 1) (d := 40) rfl (fun _ _ h => h)) (envS_next ?_)
                        · intro p hp hne; simp only [List.mem_cons, List.not_mem_nil, or_false] at hp; rcases hp with rfl | rfl | rfl | rfl | rfl | rfl | rfl | rfl <;> first | exact absurd rfl hne | exact ⟨rfl, rfl⟩
                      · have d0 := hdir 0 (List.mem_of_elem_eq_true (by kernel_rfl))
                        have d2 := hdir 2 (List.mem_of_elem_eq_true (by kernel_rfl))
                        refine ⟨_, rfl, ?_⟩
                        refine LP.weak (t := 39) (v := .agg W1) (envS_is (j := 0) rfl d0) ?_
                        refine LP.weak (t := 41) (v := i64 (ansOf x.l m)) (envS_is (j := 2) rfl d2) ?_
                        refine A.u (LU.call (hrs) Try.func46 rfl rfl (Opds.cons Is.rfl' (Opds.cons Is.rfl' Opds.nil))) rfl ?_
                        refine ⟨⟨za, zb⟩, Weaker.mk' ?_ (HSub.refl _)⟩
                        refine env_back2 (envS_hit (sl := [(0, 39), (1, 40), (2, 41), (3, 42), (4, 38), (5, 43), (6, 44), (7, 45)]) (j := 3) (d := 42) rfl (fun _ _ h => h)) (envS_hit (sl := [(0, 39), (1, 40), (2, 41), (3, 42), (4, 38), (5, 43), (6, 44), (7, 45)]) (j := 2) (d := 41) rfl (fun _ _ h => h)) (envS_hit (sl := [(0, 39), (1, 40), (2, 41), (3, 42), (4, 38), (5, 43), (6, 44), (7, 45)]) (j := 0) (d := 39) rfl (fun _ _ h => h)) (envS_next ?_)
                        · intro p hp hne; simp only [List.mem_cons, List.not_mem_nil, or_false] at hp; rcases hp with rfl | rfl | rfl | rfl | rfl | rfl | rfl | rfl <;> first | exact absurd rfl hne | exact ⟨rfl, rfl⟩
                      · have d3 := hdir 3 (List.mem_of_elem_eq_true (by kernel_rfl))
                        refine ⟨_, rfl, ?_⟩
                        refine LP.weak (t := 42) (v := .tup [.agg W2, .agg (edL (y, outE (ansOf x.l m), ansOf x.l m)), i64 0]) (envS_is (j := 3) rfl d3) ?_
                        refine A.u (LU.moveT Is.rfl') rfl ?_
                        refine ⟨⟨za, zb⟩, Weaker.mk' ?_ (HSub.refl _)⟩
                        refine env_back1 (envS_hit (sl := [(0, 39), (1, 40), (2, 41), (3, 42), (4, 38), (5, 43), (6, 44), (7, 45)]) (j := 4) (d := 38) rfl (fun _ _ h => h)) (envS_hit (sl := [(0, 39), (1, 40), (2, 41), (3, 42), (4, 38), (5, 43), (6, 44), (7, 45)]) (j := 3) (d := 42) rfl (fun _ _ h => h)) (envS_next ?_)
                        · intro p hp hne; simp only [List.mem_cons, List.not_mem_nil, or_false] at hp; rcases hp with rfl | rfl | rfl | rfl | rfl | rfl | rfl | rfl <;> first | exact absurd rfl hne | exact ⟨rfl, rfl⟩
                      · have d4 := hdir 4 (List.mem_of_elem_eq_true (by kernel_rfl))
                        refine ⟨_, rfl, ?_⟩
                        refine LP.weak (t := 38) (v := .tup [.agg W2, .agg (edL (y, outE (ansOf x.l m), ansOf x.l m)), i64 0]) (envS_is (j := 4) rfl d4) ?_
                        refine A.u (LU.extract Is.rfl' rfl) rfl ?_
                        refine ⟨⟨za, zb⟩, Weaker.mk' ?_ (HSub.refl _)⟩
                        refine env_back1 (envS_hit (sl := [(0, 39), (1, 40), (2, 41), (3, 42), (4, 38), (5, 43), (6, 44), (7, 45)]) (j := 5) (d := 43) rfl (fun _ _ h => h)) (envS_hit (sl := [(0, 39), (1, 40), (2, 41), (3, 42), (4, 38), (5, 43), (6, 44), (7, 45)]) (j := 4) (d := 38) rfl (fun _ _ h => h)) (envS_next ?_)
                        · intro p hp hne; simp only [List.mem_cons, List.not_mem_nil, or_false] at hp; rcases hp with rfl | rfl | rfl | rfl | rfl | rfl | rfl | rfl <;> first | exact absurd rfl hne | exact ⟨rfl, rfl⟩
                      · have d4 := hdir 4 (List.mem_of_elem_eq_true (by kernel_rfl))
                        refine ⟨_, rfl, ?_⟩
                        refine LP.weak (t := 38) (v := .tup [.agg W2, .agg (edL (y, outE (ansOf x.l m), ansOf x.l m)), i64 0]) (envS_is (j := 4) rfl d4) ?_
                        refine A.u (LU.extract Is.rfl' rfl) rfl ?_
                        refine ⟨⟨za, zb⟩, Weaker.mk' ?_ (HSub.refl _)⟩
                        refine env_back1 (envS_hit (sl := [(0, 39), (1, 40), (2, 41), (3, 42), (4, 38), (5, 43), (6, 44), (7, 45)]) (j := 6) (d := 44) rfl (fun _ _ h => h)) (envS_hit (sl := [(0, 39), (1, 40), (2, 41), (3, 42), (4, 38), (5, 43), (6, 44), (7, 45)]) (j := 4) (d := 38) rfl (fun _ _ h => h)) (envS_next ?_)
                        · intro p hp hne; simp only [List.mem_cons, List.not_mem_nil, or_false] at hp; rcases hp with rfl | rfl | rfl | rfl | rfl | rfl | rfl | rfl <;> first | exact absurd rfl hne | exact ⟨rfl, rfl⟩
                      · have d4 := hdir 4 (List.mem_of_elem_eq_true (by kernel_rfl))
                        refine ⟨_, rfl, ?_⟩
                        refine LP.weak (t := 38) (v := .tup [.agg W2, .agg (edL (y, outE (ansOf x.l m), ansOf x.l m)), i64 0]) (envS_is (j := 4) rfl d4) ?_
                        refine A.u (LU.extract Is.rfl' rfl) rfl ?_
                        refine ⟨⟨za, zb⟩, Weaker.mk' ?_ (HSub.refl _)⟩
                        refine env_back1 (envS_hit (sl := [(0, 39), (1, 40), (2, 41), (3, 42), (4, 38), (5, 43), (6, 44), (7, 45)]) (j := 7) (d := 45) rfl (fun _ _ h => h)) (envS_hit (sl := [(0, 39), (1, 40), (2, 41), (3, 42), (4, 38), (5, 43), (6, 44), (7, 45)]) (j := 4) (d := 38) rfl (fun _ _ h => h)) (envS_next ?_)
                        · intro p hp hne; simp only [List.mem_cons, List.not_mem_nil, or_false] at hp; rcases hp with rfl | rfl | rfl | rfl | rfl | rfl | rfl | rfl <;> first | exact absurd rfl hne | exact ⟨rfl, rfl⟩
                      · have d0 := hdir 0 (List.mem_of_elem_eq_true (by kernel_rfl))
                        have d1 := hdir 1 (List.mem_of_elem_eq_true (by kernel_rfl))
                        have d2 := hdir 2 (List.mem_of_elem_eq_true (by kernel_rfl))
                        have d3 := hdir 3 (List.mem_of_elem_eq_true (by kernel_rfl))
                        have d4 := hdir 4 (List.mem_of_elem_eq_true (by kernel_rfl))
                        have d5 := hdir 5 (List.mem_of_elem_eq_true (by kernel_rfl))
                        refine ⟨_, rfl, ?_⟩
                        refine LP.ghost (H' := .cells b4 68 W1 :: .cells b11 3 (cond (f 2) [i64 ((m + 1 : Nat) : Int)] [i64 (m : Nat)]) :: .cells b15 58 (cond (f 9) (edL (y, outE (ansOf x.l m), ansOf x.l m)) (edL (0, 0, 0))) :: .cells b12 35 [.raw (fv b11 b6)] :: .cells b6 65 (aqL x) :: R5) (by show L.HSub (_ :: .cells b4 _ (cond (f 8) _ _) :: _) _; rw [hfi]; exact HSub.pick 1 rfl (HSub.refl _)) ?_
                        refine LP.weak (t := 43) (v := .agg W2) (envS_is (j := 5) rfl d5) ?_
                        refine A.act (X.store 0 rfl Try.sizeOf68 Is.rfl' Is.rfl' (by exact Cells.agg) (by assumption) (by (simp; omega)) ?_)
                        refine ⟨⟨za, zb⟩, Weaker.mk' ?_ (by rw [putAt_all (xs := W1) (ys := W2) (by rw [hl1, hl2])]; show L.HSub _ (_ :: .cells b4 _ (cond true _ _) :: _); exact HSub.pick 1 rfl (HSub.refl _))⟩
                        refine env_back0 (envS_hit (sl := [(0, 39), (1, 40), (2, 41), (3, 42), (4, 38), (5, 43), (6, 44), (7, 45)]) (j := 5) (d := 43) rfl (fun _ _ h => h)) (envS_next ?_)
                        · intro p hp hne; simp only [List.mem_cons, List.not_mem_nil, or_false] at hp; rcases hp with rfl | rfl | rfl | rfl | rfl | rfl | rfl | rfl <;> first | exact absurd rfl hne | exact ⟨rfl, rfl⟩
                      · have d0 := hdir 0 (List.mem_of_elem_eq_true (by kernel_rfl))
                        have d1 := hdir 1 (List.mem_of_elem_eq_true (by kernel_rfl))
                        have d2 := hdir 2 (List.mem_of_elem_eq_true (by kernel_rfl))
                        have d3 := hdir 3 (List.mem_of_elem_eq_true (by kernel_rfl))
                        have d4 := hdir 4 (List.mem_of_elem_eq_true (by kernel_rfl))
                        have d5 := hdir 5 (List.mem_of_elem_eq_true (by kernel_rfl))
                        have d6 := hdir 6 (List.mem_of_elem_eq_true (by kernel_rfl))
                        have d8 := hdir 8 (List.mem_of_elem_eq_true (by kernel_rfl))
                        refine ⟨_, rfl, ?_⟩
                        refine LP.ghost (H' := .cells b15 58 (edL (0, 0, 0)) :: .cells b11 3 (cond (f 2) [i64 ((m + 1 : Nat) : Int)] [i64 (m : Nat)]) :: .cells b4 68 (cond (f 8) W2 W1) :: .cells b12 35 [.raw (fv b11 b6)] :: .cells b6 65 (aqL x) :: R5) (by show L.HSub (_ :: _ :: .cells b15 _ (cond (f 9) _ _) :: _) _; rw [hfi]; exact HSub.pick 2 rfl (HSub.refl _)) ?_
                        refine LP.weak (t := 44) (v := .agg (edL (y, outE (ansOf x.l m), ansOf x.l m))) (envS_is (j := 6) rfl d6) ?_
                        refine A.act (X.store 0 rfl Try.sizeOf58 Is.rfl' Is.rfl' (by exact Cells.agg) (by (simp; done)) (by (simp; done)) ?_)
                        refine ⟨⟨za, zb⟩, Weaker.mk' ?_ (by rw [putAt_all (xs := edL (0, 0, 0)) (ys := edL (y, outE (ansOf x.l m), ansOf x.l m)) rfl]; show L.HSub _ (_ :: _ :: .cells b15 _ (cond true _ _) :: _); exact HSub.pick 1 rfl (HSub.pick 1 rfl (HSub.refl _)))⟩
                        refine env_back0 (envS_hit (sl := [(0, 39), (1, 40), (2, 41), (3, 42), (4, 38), (5, 43), (6, 44), (7, 45)]) (j := 6) (d := 44) rfl (fun _ _ h => h)) (envS_next ?_)
                        · intro p hp hne; simp only [List.mem_cons, List.not_mem_nil, or_false] at hp; rcases hp with rfl | rfl | rfl | rfl | rfl | rfl | rfl | rfl <;> first | exact absurd rfl hne | exact ⟨rfl, rfl⟩
                    · intro g_ f hf_
                      obtain ⟨za, zb⟩ := g_
                      refine X.ghost (H' := .cells b11 3 [i64 ((m + 1 : Nat) : Int)] :: .cells b4 68 W2 :: .cells b15 58 (edL (y, outE (ansOf x.l m), ansOf x.l m)) :: .cells b12 35 [.raw (fv b11 b6)] :: .cells b6 65 (aqL x) :: R5) (by show L.HSub (.cells b11 _ (cond (f 2) _ _) :: .cells b4 _ (cond (f 8) _ _) :: .cells b15 _ (cond (f 9) _ _) :: _) _; rw [hf_ 2 (by omega), hf_ 8 (by omega), hf_ 9 (by omega)]; exact HSub.refl _) ?_
                      refine LL.nil (after_code ?_)
                      rw [hR5, hW2]
                      refine X.wghost (H' := .tail tb to tc :: .cells b11 3 [i64 ((m + 1 : Nat) : Int)] :: .cells b4 68 (rq (ws.drop (m + 1)) (es ++ (evs (ansOf x.l) ws).take (m + 1))) :: .cells b15 58 (edL (y, outE (ansOf x.l m), ansOf x.l m)) :: .cells b12 35 [.raw (fv b11 b6)] :: .cells b6 65 (aqL x) :: qa g [] (es ++ evs (ansOf x.l) ws) .nilFunc b3_ o3_ c3_ p3_ q3_ r3_ :: .tail b3_ o3_ c3_ :: .tail p3_ q3_ r3_ :: Rf) (by repeat (first | exact HSub.refl _ | refine HSub.pick 5 rfl ?_)) ?_
                      refine LW.region ?_
                      refine X.u (LU.moveS Is.rfl') rfl ?_
                      refine X.u (LU.loadO 3 rfl ⟨Try.sizeOf58, Try.isAgg58⟩ Is.rfl' (Part.whole (by (simp; done)))) rfl ?_
                      refine X.u (LU.lits Try.underlying54 Try.sizeOf58 Try.zeroValue58 (ones rfl) rfl (by decide) (by decide) (Elems.cons Is.rfl' (by exact Cells.agg) Elems.nil) (by (simp; done)) rfl) rfl ?_
                      refine X.act (X.append 0 rfl rfl Try.underlying54 (El.of (P := Try.prog) (z := (.agg #[(.int .i64 0), (.int .i64 0), (.int .i64 0)])) (size := 3) (bytes := 24) rfl rfl rfl) Is.rfl' Is.rfl' (SrcL.slice Try.underlying54 (by decide) (by simp)) (by simp only [Option.getD_some, Option.getD_none, byteEls_length, intEls_length, List.length_append, List.length_cons, List.length_nil, List.length_map, List.length_drop, List.length_take, Int.toNat_natCast]; omega) (by simp only [Option.getD_some, Option.getD_none, byteEls_length, intEls_length, List.length_append, List.length_cons, List.length_nil, List.length_map, List.length_drop, List.length_take, Int.toNat_natCast]; omega) (fun b49 o49 c49 => X.weak (t := 49) (Is.of (y := .sl 3 (eds ((evs (ansOf x.l) ws).take (m + 1))) (.tok b49 o49 c49)) ((eds_snoc _ _ _).trans (congrArg (fun z => LV.sl 3 (eds z) (.tok b49 o49 c49)) (evs_snoc hy).symm))) ?_))
                      refine X.u (LU.assignS Is.rfl') rfl ?_
                      refine LL.nil (after_blk (after_rnd ?_))
                      refine X.next ((m + 1, b49, o49, c49)) rfl (EnvLe.cons (by rfl) (EnvLe.nil)) (Keeps.cons (by exact Eq.trans (b := .raw _) rfl rfl) (Keeps.cons (by exact Eq.trans (b := .raw _) rfl rfl) (Keeps.cons (by exact Eq.trans (b := .raw _) rfl rfl) (Keeps.cons (by exact Eq.trans (b := .raw _) rfl rfl) (Keeps.cons (by exact Eq.trans (b := .raw _) rfl rfl) (Keeps.cons (by exact Eq.trans (b := .raw _) rfl rfl) (Keeps.cons (by exact Eq.trans (b := .sl _ _ _) rfl rfl) (Keeps.cons (by exact Eq.trans (b := .sl _ _ _) rfl rfl) (Keeps.cons (by exact Eq.trans (b := .raw _) rfl rfl) (Keeps.cons (by exact Eq.trans (b := .raw _) rfl rfl) (Keeps.nil))))))))))) (by repeat (first | exact HSub.refl _ | refine HSub.pick 0 rfl ?_ | refine HSub.pick 2 rfl ?_ | refine HSub.pick 3 rfl ?_ | refine HSub.pick 5 rfl ?_ | refine HSub.drop ?_)) ?_ ?_
                      · exact Nat.succ_le_of_lt h15
                      · (simp; omega)
                  · have h15 : m = ws.length := by have := of_decide_eq_false h15; omega
                    subst h15
                    refine X.wghost (H' := .tail tb to tc :: qa g [] (es ++ evs (ansOf x.l) ws) .nilFunc b3_ o3_ c3_ p3_ q3_ r3_ :: .tail b3_ o3_ c3_ :: .tail p3_ q3_ r3_ :: .cells b12 35 [.raw (fv b11 b6)] :: .cells b11 3 [i64 (ws.length : Nat)] :: .cells b6 65 (aqL x) :: .cells b4 68 (rq [] (es ++ evs (ansOf x.l) ws)) :: Rf) (by show L.HSub (_ :: _ :: _ :: _ :: _ :: _ :: _ :: .cells b4 _ (rq (ws.drop ws.length) (es ++ (evs (ansOf x.l) ws).take ws.length)) :: _) _; rw [List.drop_length, List.take_of_length_le (by rw [evs_len]; exact Nat.le_refl _)]; exact HSub.refl _) ?_
                    refine LW.exit (exit_code (exit_rnd (exit_blk (after_code ?_))))
                    refine LW.seq ?_
                    refine LW.region ?_
                    refine X.u (LU.moveS Is.rfl') rfl ?_
                    refine X.u (LU.moveS Is.rfl') rfl ?_
                    refine X.u (LU.call (same21_calls (evs (ansOf x.l) ws) ((evs (ansOf x.l) ws).take ws.length) .unk (.tok tb to tc) (by omega) (by rw [List.length_take]; omega)) Try.func47 rfl rfl (Opds.cons Is.rfl' (Opds.cons Is.rfl' Opds.nil))) rfl ?_
                    refine X.u (LU.weak (LU.not Is.rfl') (asB (c := false) rfl (by rw [decide_eq_true (show evs (ansOf x.l) ws = (evs (ansOf x.l) ws).take ws.length by rw [List.take_of_length_le (by rw [evs_len]; exact Nat.le_refl _)])]; rfl))) rfl ?_
                    refine LL.nil (after_code ?_)
                    refine X.condF rfl ?_ ?_
                    · rfl
                    refine LW.skip (after_blk (after_rnd ?_))
                    refine X.meets (([], es ++ evs (ansOf x.l) ws, b3_, o3_, c3_, p3_, q3_, r3_, 0)) rfl (EnvLe.cons (by rfl) (EnvLe.cons (by rfl) (EnvLe.nil))) (Keeps.cons (by exact Eq.trans (b := .raw _) rfl rfl) (Keeps.cons (by exact Eq.trans (b := .raw _) rfl rfl) (Keeps.cons (by exact Eq.trans (b := .raw _) rfl rfl) (Keeps.cons (by exact Eq.trans (b := .sl _ _ _) rfl rfl) (Keeps.cons (by exact Eq.trans (b := .raw _) rfl rfl) (Keeps.cons (by exact Eq.trans (b := .raw _) rfl rfl) (Keeps.nil))))))) (by repeat (first | exact HSub.refl _ | refine HSub.pick 1 rfl ?_ | refine HSub.pick 3 rfl ?_ | refine HSub.pick 6 rfl ?_ | refine HSub.drop ?_)) ?_
                    exact ⟨Nat.zero_le _, by rw [List.length_append, evs_len]; simp; omega⟩
        · rintro ⟨ws2, es2, b2_, o2_, c2_, p2_, q2_, r2_, e⟩ hI
          obtain ⟨hwl2, hel2⟩ := hI
          refine LW.seq ?_
          refine X.drawM 30 rfl (by kernel_rfl) rfl ?_
          refine QD.u (LU.moveR Is.rfl') rfl ?_
          refine QD.u (LU.moveR Is.rfl') rfl ?_
          refine QD.u (LU.weak (LU.neq Is.rfl' Is.rfl') (asB (c := false) rfl (by simp))) rfl ?_
          refine QD.u (LU.moveR Is.rfl') rfl ?_
          refine QD.doF rfl rfl (LU.moveR (by exact Is.rfl')) rfl ?_
          refine QD.doF rfl rfl (LU.call1 1 rfl (waiting_calls g ws2 es2 .nilFunc b2_ o2_ c2_ p2_ q2_ r2_ (by omega)) Try.func29 rfl rfl (Opds.cons (by exact Is.rfl') Opds.nil)) rfl ?_
          refine QD.doF rfl rfl (LU.fieldO Try.underlying68 rfl Try.sizeOf24 (by decide) (by exact Is.rfl')) rfl ?_
          refine QD.doF rfl rfl (LU.loadO 4 rfl ⟨Try.sizeOf24, Try.isAgg24⟩ (by exact Is.rfl') (Part.one rfl)) rfl ?_
          refine QD.doF rfl rfl (LU.call (ints_calls ws2 ws2 .unk .unk (by omega) (by omega)) Try.func38 rfl rfl (Opds.cons (by exact Is.rfl') (Opds.cons (by exact Is.rfl') Opds.nil))) rfl ?_
          refine QD.doF rfl rfl (LU.weak (LU.not (by exact Is.rfl')) (asB (c := false) rfl (by simp))) rfl ?_
          refine QD.u (LU.pickF Is.rfl' (by exact Is.rfl')) rfl ?_
          refine QD.u (LU.moveR Is.rfl') rfl ?_
          refine QD.doF rfl rfl (LU.moveR (by exact Is.rfl')) rfl ?_
          refine QD.doF rfl rfl (LU.call1 1 rfl (ended_calls g ws2 es2 .nilFunc b2_ o2_ c2_ p2_ q2_ r2_ (by omega)) Try.func30 rfl rfl (Opds.cons (by exact Is.rfl') Opds.nil)) rfl ?_
          refine QD.doF rfl rfl (LU.fieldO Try.underlying68 rfl Try.sizeOf54 (by decide) (by exact Is.rfl')) rfl ?_
          refine QD.doF rfl rfl (LU.loadO 4 rfl ⟨Try.sizeOf54, Try.isAgg54⟩ (by exact Is.rfl') (Part.one rfl)) rfl ?_
          refine QD.doF rfl rfl (LU.call (same21_calls es2 es2 .unk .unk (by omega) (by omega)) Try.func47 rfl rfl (Opds.cons (by exact Is.rfl') (Opds.cons (by exact Is.rfl') Opds.nil))) rfl ?_
          refine QD.doF rfl rfl (LU.weak (LU.not (by exact Is.rfl')) (asB (c := false) rfl (by simp))) rfl ?_
          refine QD.u (LU.pickF Is.rfl' (by exact Is.rfl')) rfl ?_
          refine QD.u (LU.moveR Is.rfl') rfl ?_
          refine QD.doF rfl rfl (LU.moveR (by exact Is.rfl')) rfl ?_
          refine QD.doF rfl rfl (LU.fieldO Try.underlying65 rfl Try.sizeOf3 (by decide) (by exact Is.rfl')) rfl ?_
          refine QD.doF rfl rfl (LU.loadO 0 rfl ⟨Try.sizeOf3, Try.isAgg3⟩ (by exact Is.rfl') (Part.one rfl)) rfl ?_
          refine QD.doF rfl rfl (LU.call1 1 rfl (place_calls g ws2 es2 .nilFunc b2_ o2_ c2_ p2_ q2_ r2_ x.id (by omega)) Try.func32 rfl rfl (Opds.cons (by exact Is.rfl') (Opds.cons (by exact Is.rfl') Opds.nil))) rfl ?_
          refine QD.doF rfl rfl (LU.loadO 4 rfl ⟨Try.sizeOf68, Try.isAgg68⟩ (by exact Is.rfl') (Part.whole (by (simp; done)))) rfl ?_
          refine QD.doF rfl rfl (LU.fieldO Try.underlying65 rfl Try.sizeOf3 (by decide) (by exact Is.rfl')) rfl ?_
          refine QD.doF rfl rfl (LU.loadO 0 rfl ⟨Try.sizeOf3, Try.isAgg3⟩ (by exact Is.rfl') (Part.one rfl)) rfl ?_
          refine QD.doF rfl rfl (LU.call (rplace_calls ws2 es2 x.id (by omega)) Try.func51 rfl rfl (Opds.cons (by exact Is.rfl') (Opds.cons (by exact Is.rfl') Opds.nil))) rfl ?_
          refine QD.doF rfl rfl (LU.weak (LU.neq (by exact Is.rfl') (by exact Is.rfl')) (asB (c := false) rfl (by simp))) rfl ?_
          refine QD.u (LU.pickF Is.rfl' (by exact Is.rfl')) rfl ?_
          refine QD.nil ?_
          refine LL.nil (after_code ?_)
          refine X.condF rfl ?_ ?_
          · rfl
          refine LW.skip (after_blk (after_code ?_))
          refine LW.region ?_
          refine X.u (LU.addN Is.rfl' Is.rfl' (wrap_i64 (by omega) (by omega))) rfl ?_
          refine X.u (LU.moveR Is.rfl') rfl ?_
          refine LL.nil (after_rnd ?_)
          refine X.next ((k + 1, ws2, es2, b2_, o2_, c2_, p2_, q2_, r2_)) rfl (EnvLe.cons (by rfl) (EnvLe.nil)) (Keeps.cons (by exact Eq.trans (b := .raw _) rfl rfl) (Keeps.cons (by exact Eq.trans (b := .raw _) rfl rfl) (Keeps.cons (by exact Eq.trans (b := .sl _ _ _) rfl rfl) (Keeps.cons (by exact Eq.trans (b := .raw _) rfl rfl) (Keeps.nil))))) (by repeat (first | exact HSub.refl _ | refine HSub.pick 1 rfl ?_ | refine HSub.drop ?_)) ?_ ?_
          · exact ⟨by omega, hwl2, hel2⟩
          · (simp; omega)
      · try have h5 := of_decide_eq_false h5
        refine LW.exit (exit_code (exit_rnd (exit_blk (after_code ?_))))
        refine LW.seq ?_
        refine LW.region ?_
        refine X.u (LU.call (lives21_calls) Try.func31 rfl rfl Opds.nil) rfl ?_
        refine X.u (LU.assignR Is.rfl') rfl ?_
        refine LL.nil (after_code ?_)
        refine LW.ret (after_end ?_)
        refine X.ret (H' := []) (Res.one (by exact IsR rfl)) (by repeat (first | exact HSub.refl _ | refine HSub.drop ?_)) ?_
        exact ⟨rfl, rfl⟩
theorem QueuePlays_row (es : List (List LV)) (h0 : ∀ c ∈ es, QAq c) (h1 : es.length * 48 ≤ reachBytes) : LCalls Try.prog 11 [.sl 4 es .unk] [] (fun r _ => r = .raw (.bool true)) := by
  obtain ⟨l, rfl, hl⟩ := aqs_of h0
  rw [List.length_map] at h1
  have hr := reachBytes_lt
  exact (qpl_calls l (by omega) hl).mono fun r H' h => h.1
end Go.Proofs.Ytpimalihpnfdkaa
