/- Within a try all calls may be made. -/
import Derived.Test.YtpimalihpnfdkaaQuK
import Derived.Test.YtpimalihpnfdkaaQuL
import Derived.Test.YtpimalihpnfdkaaLogR
set_option linter.unusedVariables false
set_option linter.unusedSimpArgs false
namespace Go.Proofs.Ytpimalihpnfdkaa
open Go.RowKit Go.L
attribute [local irreducible] LL LW LO
set_option maxRecDepth 100000 in
theorem step_over (g : Nat) (ws : List Int) (es : List Ed) (b o c p q r : Nat) (ff f2 : FuncId) (first caps first2 caps2 : Array Value) : LCalls Try.prog 33 [pt g, .raw (.func (.func ff) first caps)] [qa g ws es (.func (.func f2) first2 caps2) b o c p q r] (fun v H' => v = .tup [.agg (edL (0, 0, 0)), i64 82] ∧ H' = [qa g ws es (.func (.func f2) first2 caps2) b o c p q r]) := by
  refine LCalls.of Try.func33 rfl Try.ntmps33 Try.results33 rfl (fun Rf => ?_)
  refine LW.seq ?_
  refine LW.region ?_
  refine X.act (X.box rfl Is.rfl' (by exact Cells.raw rfl) (fun b2 => ?_))
  refine X.act (X.alloc rfl Try.zeroValue58 (by exact Cells.rawagg (by decide)) (fun b4 => ?_))
  refine X.u (LU.assignR Is.rfl') rfl ?_
  refine LL.nil (after_code ?_)
  refine LW.seq ?_
  refine LW.block ?_
  refine LW.seq ?_
  refine LW.region ?_
  refine X.u (LU.loadO 1 rfl ⟨Try.sizeOf51, Try.isAgg51⟩ Is.rfl' (Part.one rfl)) rfl ?_
  refine X.u (LU.call1 2 rfl (none_calls21 g ws es (.func (.func f2) first2 caps2) b o c p q r) Try.func57 rfl rfl (Opds.cons Is.rfl' Opds.nil)) rfl ?_
  refine X.u (LU.assignR Is.rfl') rfl ?_
  refine LL.nil (after_code ?_)
  refine X.condF rfl ?_ ?_
  · rfl
  refine LW.seq ?_
  refine LW.region ?_
  refine X.u (LU.moveR Is.rfl') rfl ?_
  refine X.u (LU.nilFEqS Try.underlying30 Is.rfl' Is.rfl') rfl ?_
  refine X.u (LU.assignR Is.rfl') rfl ?_
  refine LL.nil (after_code ?_)
  refine X.condF rfl ?_ ?_
  · rfl
  refine LW.seq ?_
  refine LW.region ?_
  refine X.u (LU.loadO 1 rfl ⟨Try.sizeOf51, Try.isAgg51⟩ Is.rfl' (Part.one rfl)) rfl ?_
  refine X.u (LU.nilCheck Is.rfl') rfl ?_
  refine X.u (LU.fieldO Try.underlying77 rfl Try.sizeOf30 (by decide) Is.rfl') rfl ?_
  refine X.u (LU.loadO 2 rfl ⟨Try.sizeOf30, Try.isAgg30⟩ Is.rfl' (Part.one rfl)) rfl ?_
  refine X.u (LU.nilFNeS Try.underlying30 Is.rfl' Is.rfl') rfl ?_
  refine X.u (LU.assignR Is.rfl') rfl ?_
  refine LL.nil (after_code ?_)
  refine X.condT rfl ?_ ?_
  · rfl
  refine LW.seq ?_
  refine LW.region ?_
  refine X.u (LU.weak (LU.build (places := #[(0, 1), (1, 1), (2, 1)]) Try.underlying58 Try.zeroValue58 (ones rfl) (by intro w; simp [Try.sizeOf26, Try.sizeOf3]) Parts.nil rfl) (Is.of (y := .agg (edL (0, 0, 0))) (rfl))) rfl ?_
  refine X.act (X.store 0 rfl Try.sizeOf58 Is.rfl' Is.rfl' (by exact Cells.agg) (by (simp; done)) (by exact Nat.le_of_ble_eq_true rfl) ?_)
  refine X.u (LU.assignR Is.rfl') rfl ?_
  refine LL.nil (after_code ?_)
  refine LW.ret (ret_blk (ret_code (after_end ?_)))
  refine X.ret (H' := [qa g ws es (.func (.func f2) first2 caps2) b o c p q r]) (by exact Res.cell2 0 rfl rfl ⟨Try.sizeOf58, Try.isAgg58⟩ (Part.whole (by rfl)) (by exact IsA rfl) (by exact IsR rfl)) (by repeat (first | exact HSub.refl _ | refine HSub.pick 2 rfl ?_ | refine HSub.drop ?_)) ?_
  exact ⟨rfl, rfl⟩
set_option maxRecDepth 100000 in
theorem drain_over (g : Nat) (ws : List Int) (es : List Ed) (b o c p q r : Nat) (ff f2 : FuncId) (first caps first2 caps2 : Array Value) : LCalls Try.prog 42 [pt g, .raw (.func (.func ff) first caps)] [qa g ws es (.func (.func f2) first2 caps2) b o c p q r] (fun v H' => v = .sl 3 [] .unk ∧ H' = [qa g ws es (.func (.func f2) first2 caps2) b o c p q r]) := by
  refine LCalls.of Try.func42 rfl Try.ntmps42 Try.results42 rfl (fun Rf => ?_)
  refine LW.seq ?_
  refine LW.region ?_
  refine X.u (LU.assign (Is.nil 3)) rfl ?_
  refine LL.nil (after_code ?_)
  refine LW.seq ?_
  refine LW.seq ?_
  refine LW.region ?_
  refine X.u (LU.moveR Is.rfl') rfl ?_
  refine X.u (LU.call1 0 rfl (none_calls21 g ws es (.func (.func f2) first2 caps2) b o c p q r) Try.func57 rfl rfl (Opds.cons Is.rfl' Opds.nil)) rfl ?_
  refine X.u (LU.moveR Is.rfl') rfl ?_
  refine X.doF rfl rfl (LU.moveR (by exact Is.rfl')) rfl ?_
  refine X.doF rfl rfl (LU.nilFEqS Try.underlying30 (by exact Is.rfl') (by exact Is.rfl')) rfl ?_
  refine X.u (LU.pickF Is.rfl' (by exact Is.rfl')) rfl ?_
  refine X.u (LU.moveR Is.rfl') rfl ?_
  refine X.doF rfl rfl (LU.moveR (by exact Is.rfl')) rfl ?_
  refine X.doF rfl rfl (LU.nilCheck (by exact Is.rfl')) rfl ?_
  refine X.doF rfl rfl (LU.fieldO Try.underlying77 rfl Try.sizeOf30 (by decide) (by exact Is.rfl')) rfl ?_
  refine X.doF rfl rfl (LU.loadO 0 rfl ⟨Try.sizeOf30, Try.isAgg30⟩ (by exact Is.rfl') (Part.one rfl)) rfl ?_
  refine X.doF rfl rfl (LU.nilFNeS Try.underlying30 (by exact Is.rfl') (by exact Is.rfl')) rfl ?_
  refine X.u (LU.pickF Is.rfl' (by exact Is.rfl')) rfl ?_
  refine LL.nil (after_code ?_)
  refine X.condT rfl ?_ ?_
  · rfl
  refine LW.seq ?_
  refine LW.region ?_
  refine X.u (LU.assign (Is.nil 3)) rfl ?_
  refine LL.nil (after_code ?_)
  refine LW.ret (ret_code (after_end ?_))
  refine X.ret (H' := [qa g ws es (.func (.func f2) first2 caps2) b o c p q r]) (Res.one (by exact IsS rfl)) (by repeat (exact HSub.refl _)) ?_
  exact ⟨rfl, rfl⟩
set_option maxRecDepth 100000 in
theorem drop_over (g : Nat) (ws : List Int) (es : List Ed) (b o c p q r : Nat) (f2 : FuncId) (first2 caps2 : Array Value) (x : Int) (hx : ws[0]? = some x) (hw : ws.length ≤ 1000) : LCalls Try.prog 36 [pt g, i64 x] [qa g ws es (.func (.func f2) first2 caps2) b o c p q r] (fun v H' => v = i64 82 ∧ H' = [qa g ws es (.func (.func f2) first2 caps2) b o c p q r]) := by
  have hix := index_calls ws (.tok b o c) x (by omega)
  rw [idx_zero hx] at hix
  refine LCalls.of Try.func36 rfl Try.ntmps36 Try.results36 rfl (fun Rf => ?_)
  refine LW.seq ?_
  refine LW.region ?_
  refine X.u (LU.assignR Is.rfl') rfl ?_
  refine LL.nil (after_code ?_)
  refine LW.seq ?_
  refine LW.seq ?_
  refine LW.region ?_
  refine X.u (LU.moveR Is.rfl') rfl ?_
  refine X.u (LU.call1 0 rfl (none_calls21 g ws es (.func (.func f2) first2 caps2) b o c p q r) Try.func57 rfl rfl (Opds.cons Is.rfl' Opds.nil)) rfl ?_
  refine LL.nil (after_code ?_)
  refine X.condF rfl ?_ ?_
  · rfl
  refine LW.skip (after_code ?_)
  refine LW.seq ?_
  refine LW.region ?_
  refine X.u (LU.moveR Is.rfl') rfl ?_
  refine X.u (LU.nilCheck Is.rfl') rfl ?_
  refine X.u (LU.fieldO Try.underlying77 rfl Try.sizeOf24 (by decide) Is.rfl') rfl ?_
  refine X.u (LU.loadO 0 rfl ⟨Try.sizeOf24, Try.isAgg24⟩ Is.rfl' (Part.one rfl)) rfl ?_
  refine X.u (LU.moveR Is.rfl') rfl ?_
  refine X.u (LU.call (hix) Try.func62 rfl rfl (Opds.cons Is.rfl' (Opds.cons Is.rfl' Opds.nil))) rfl ?_
  refine X.u (LU.assignR Is.rfl') rfl ?_
  refine LL.nil (after_code ?_)
  refine LW.seq ?_
  refine LW.block ?_
  refine LW.seq ?_
  refine LW.region ?_
  refine X.u (LU.moveR Is.rfl') rfl ?_
  refine X.u (LU.lss Is.rfl' Is.rfl') rfl ?_
  refine X.u (LU.assignR Is.rfl') rfl ?_
  refine LL.nil (after_code ?_)
  refine X.condF rfl ?_ ?_
  · rfl
  refine LW.seq ?_
  refine LW.region ?_
  refine X.u (LU.moveR Is.rfl') rfl ?_
  refine X.u (LU.weak (LU.eql Is.rfl' Is.rfl') (asB (c := true) rfl (by rfl))) rfl ?_
  refine X.u (LU.moveR Is.rfl') rfl ?_
  refine X.doT rfl rfl (LU.moveR (by exact Is.rfl')) rfl ?_
  refine X.doT rfl rfl (LU.nilCheck (by exact Is.rfl')) rfl ?_
  refine X.doT rfl rfl (LU.fieldO Try.underlying77 rfl Try.sizeOf30 (by decide) (by exact Is.rfl')) rfl ?_
  refine X.doT rfl rfl (LU.loadO 0 rfl ⟨Try.sizeOf30, Try.isAgg30⟩ (by exact Is.rfl') (Part.one rfl)) rfl ?_
  refine X.doT rfl rfl (LU.nilFNeS Try.underlying30 (by exact Is.rfl') (by exact Is.rfl')) rfl ?_
  refine X.u (LU.pickT Is.rfl' (by exact Is.rfl')) rfl ?_
  refine X.u (LU.assignR Is.rfl') rfl ?_
  refine LL.nil (after_code ?_)
  refine X.condT rfl ?_ ?_
  · rfl
  refine LW.seq ?_
  refine LW.region ?_
  refine X.u (LU.assignR Is.rfl') rfl ?_
  refine LL.nil (after_code ?_)
  refine LW.ret (ret_blk (ret_code (after_end ?_)))
  refine X.ret (H' := [qa g ws es (.func (.func f2) first2 caps2) b o c p q r]) (Res.one (by exact IsR rfl)) (by repeat (exact HSub.refl _)) ?_
  exact ⟨rfl, rfl⟩
set_option maxRecDepth 100000 in
theorem dropT_calls (g : Nat) (ws : List Int) (es : List Ed) (b o c p q r : Nat) (f2 : FuncId) (first2 caps2 : Array Value) (id x : Int) (hx0 : ws[0]? = some x) (hne : id ≠ x) (hw : ws.length ≤ 1000) (he : es.length ≤ 3000000000000) : LCalls Try.prog 36 [pt g, i64 id] [qa g ws es (.func (.func f2) first2 caps2) b o c p q r, .tail b o c, .tail p q r] (fun v H' => ∃ b' o' c' p' q' r', v = i64 (dropP ws id) ∧ H' = [qa g (dropW ws id) (dropE ws es id) (.func (.func f2) first2 caps2) b' o' c' p' q' r', .tail b' o' c', .tail p' q' r']) := by
  refine LCalls.of Try.func36 rfl Try.ntmps36 Try.results36 rfl (fun Rf => ?_)
  refine LW.seq ?_
  refine LW.region ?_
  refine X.u (LU.assignR Is.rfl') rfl ?_
  refine LL.nil (after_code ?_)
  refine LW.seq ?_
  refine LW.seq ?_
  refine LW.region ?_
  refine X.u (LU.moveR Is.rfl') rfl ?_
  refine X.u (LU.call1 0 rfl (none_calls21 g ws es (.func (.func f2) first2 caps2) b o c p q r) Try.func57 rfl rfl (Opds.cons Is.rfl' Opds.nil)) rfl ?_
  refine LL.nil (after_code ?_)
  refine X.condF rfl ?_ ?_
  · rfl
  refine LW.skip (after_code ?_)
  refine LW.seq ?_
  refine LW.region ?_
  refine X.u (LU.moveR Is.rfl') rfl ?_
  refine X.u (LU.nilCheck Is.rfl') rfl ?_
  refine X.u (LU.fieldO Try.underlying77 rfl Try.sizeOf24 (by decide) Is.rfl') rfl ?_
  refine X.u (LU.loadO 0 rfl ⟨Try.sizeOf24, Try.isAgg24⟩ Is.rfl' (Part.one rfl)) rfl ?_
  refine X.u (LU.moveR Is.rfl') rfl ?_
  refine X.u (LU.call (index_calls ws (.tok b o c) id (by omega)) Try.func62 rfl rfl (Opds.cons Is.rfl' (Opds.cons Is.rfl' Opds.nil))) rfl ?_
  refine X.u (LU.assignR Is.rfl') rfl ?_
  refine LL.nil (after_code ?_)
  refine LW.seq ?_
  refine LW.block ?_
  refine LW.seq ?_
  refine LW.region ?_
  refine X.u (LU.moveR Is.rfl') rfl ?_
  refine X.u (LU.lss Is.rfl' Is.rfl') rfl ?_
  refine X.u (LU.assignR Is.rfl') rfl ?_
  refine LL.nil (after_code ?_)
  refine X.cond rfl (fun h4 => ?_) (fun h4 => ?_)
  · try have h4 := of_decide_eq_true h4
    refine LW.seq ?_
    refine LW.region ?_
    refine X.u (LU.assignR Is.rfl') rfl ?_
    refine LL.nil (after_code ?_)
    refine LW.ret (ret_blk (ret_code (after_end ?_)))
    refine X.ret (H' := [qa g ws es (.func (.func f2) first2 caps2) b o c p q r, .tail b o c, .tail p q r]) (Res.one (by exact IsR rfl)) (by repeat (exact HSub.refl _)) ?_
    exact ⟨b, o, c, p, q, r, by unfold dropP; rw [if_pos h4]; rfl, by unfold dropW dropE; rw [if_pos h4, if_pos h4]⟩
  · have h4 : ¬ idx ws id < 0 := by simpa using h4
    obtain ⟨i, hi, hx⟩ := idx_spec (l := ws) (v := id) (by omega)
    have hi0 : i ≠ 0 := fun h => by rw [h, hx0] at hx; exact hne (Option.some.inj hx).symm
    have hP : dropP ws id = 0 := by unfold dropP; rw [if_neg h4]
    have hW : dropW ws id = ws.eraseIdx i := by unfold dropW; rw [if_neg h4, hi, Int.toNat_natCast]
    have hE : dropE ws es id = es ++ [(id, outE 201, 201)] := by unfold dropE; rw [if_neg h4]; rfl
    rw [hi]
    refine LW.seq ?_
    refine LW.region ?_
    refine X.u (LU.moveR Is.rfl') rfl ?_
    refine X.u (LU.weak (LU.eql Is.rfl' Is.rfl') (asB (c := false) rfl (by exact decide_eq_false (by omega)))) rfl ?_
    refine X.u (LU.moveR Is.rfl') rfl ?_
    refine X.skipT rfl rfl rfl ?_
    refine X.skipT rfl rfl rfl ?_
    refine X.skipT rfl rfl rfl ?_
    refine X.skipT rfl rfl rfl ?_
    refine X.skipT rfl rfl rfl ?_
    refine X.u (LU.pickF Is.rfl' (by exact Is.rfl')) rfl ?_
    refine X.u (LU.assignR Is.rfl') rfl ?_
    refine LL.nil (after_code ?_)
    refine X.condF rfl ?_ ?_
    · rfl
    refine LW.skip (after_blk (after_code ?_))
    refine LW.seq ?_
    refine LW.region ?_
    refine X.u (LU.moveR Is.rfl') rfl ?_
    refine X.u (LU.moveR Is.rfl') rfl ?_
    refine X.act (X.call (end_calls g ws es (.func (.func f2) first2 caps2) b o c p q r i id 201 hx hw he) Try.func64 rfl rfl rfl (by (refine HSub.pick 0 rfl ?_); (refine HSub.pick 0 rfl ?_); (refine HSub.pick 0 rfl ?_); exact HSub.refl _) (Opds.cons Is.rfl' (Opds.cons Is.rfl' (Opds.cons Is.rfl' Opds.nil))) ?_)
    rintro r H' ⟨b', o', c', p', q', r', rfl, rfl⟩
    refine LL.nil (after_code ?_)
    refine LW.seq ?_
    refine LW.region ?_
    refine X.u (LU.assignR Is.rfl') rfl ?_
    refine LL.nil (after_code ?_)
    refine LW.ret (after_end ?_)
    refine X.ret (H' := [qa g (ws.eraseIdx i) (es ++ [(id, outE 201, 201)]) (.func (.func f2) first2 caps2) b' o' c' p' q' r', .tail b' o' c', .tail p' q' r']) (Res.one (by exact IsR rfl)) (by repeat (exact HSub.refl _)) ?_
    exact ⟨b', o', c', p', q', r', by rw [hP]; rfl, by rw [hW, hE]⟩
theorem dropW_zero {ws : List Int} {id x : Int} (hx0 : ws[0]? = some x) (hne : id ≠ x) : (dropW ws id)[0]? = some x := by
  unfold dropW
  split
  · exact hx0
  · rename_i h4
    obtain ⟨i, hi, hx⟩ := idx_spec (l := ws) (v := id) (by omega)
    have hi0 : i ≠ 0 := fun h => by rw [h, hx0] at hx; exact hne (Option.some.inj hx).symm
    rw [hi, Int.toNat_natCast, List.getElem?_eraseIdx, if_pos (by omega)]
    exact hx0
abbrev inH (t7 t10 t14 t4 t13 t5 g : Nat) (ws : List Int) (a : AcQ) (an : Int) (W : List Int) (E : List Ed) : List Atom := [.cells t7 51 [pt g], .cells t10 24 [Ints ws .unk], .cells t14 4 [bl true], .cells t4 65 (aqL a), .cells t13 68 (rq W E), .cells t5 3 [i64 an]]
set_option maxHeartbeats 2000000 in
set_option maxRecDepth 100000 in
theorem inner_calls (t7 t10 t14 t4 t13 t5 g : Nat) (ws : List Int) (a : AcQ) (an x : Int) (b o c p q r : Nat) (f2 : FuncId) (first2 caps2 : Array Value) (hx : ws[0]? = some x) (hw : ws.length ≤ 64) (hu : Uni ws) : LCalls Try.prog 40 [i64 x, pt t7, pt t10, pt t14, pt t4, pt t13, pt t5] (qa g ws [] (.func (.func f2) first2 caps2) b o c p q r :: .tail b o c :: .tail p q r :: inH t7 t10 t14 t4 t13 t5 g ws a an ws []) (fun v H' => ∃ why ws' es' b' o' c' p' q' r' Ht', v = i64 why ∧ H' = qa g ws' es' (.func (.func f2) first2 caps2) b' o' c' p' q' r' :: .tail b' o' c' :: .tail p' q' r' :: Ht' ∧ ws'[0]? = some x ∧ ws'.length ≤ 1000 ∧ es'.length ≤ 3000000000000 ∧ (why = an ∧ Ht' = inH t7 t10 t14 t4 t13 t5 g ws a an ws' es' ∧ ws'[0]? = some x ∧ ws'.length ≤ 64 ∧ es'.length ≤ 1)) := by
  have h0 := (List.getElem?_eq_some_iff.1 hx).1
  obtain ⟨hf1, hf2, hf3⟩ := putW_facts a.id hu hw
  obtain ⟨hd1, hd2⟩ := dropW_facts a.id hu hw
  have hd3 : (dropE ws [] a.id).length ≤ 1 := dropE_le ws [] a.id
  refine LCalls.of Try.func40 rfl Try.ntmps40 Try.results40 rfl (fun Rf => ?_)
  refine LW.seq ?_
  refine LW.region ?_
  refine X.u (LU.assignR Is.rfl') rfl ?_
  refine LL.nil (after_code ?_)
  refine LW.seq ?_
  refine LW.region ?_
  refine X.u (LU.loadO 3 rfl ⟨Try.sizeOf51, Try.isAgg51⟩ Is.rfl' (Part.one rfl)) rfl ?_
  refine X.u (LU.call1 0 rfl (step_over g ws [] b o c p q r _ f2 _ _ first2 caps2) Try.func33 rfl rfl (Opds.cons Is.rfl' (Opds.cons Is.rfl' Opds.nil))) rfl ?_
  refine X.u (LU.moveT Is.rfl') rfl ?_
  refine X.u (LU.extract Is.rfl' rfl) rfl ?_
  refine X.u (LU.extract Is.rfl' rfl) rfl ?_
  refine X.act (X.alloc rfl Try.zeroValue58 (by exact Cells.rawagg (by decide)) (fun b9 => ?_))
  refine X.act (X.store 0 rfl Try.sizeOf58 Is.rfl' Is.rfl' (by exact Cells.agg) (by (simp; done)) (by exact Nat.le_of_ble_eq_true rfl) ?_)
  refine X.u (LU.assignR Is.rfl') rfl ?_
  refine LL.nil (after_code ?_)
  refine LW.seq ?_
  refine LW.region ?_
  refine X.u (LU.loadO 4 rfl ⟨Try.sizeOf51, Try.isAgg51⟩ Is.rfl' (Part.one rfl)) rfl ?_
  refine X.u (LU.moveR Is.rfl') rfl ?_
  refine X.u (LU.call1 1 rfl (drop_over g ws [] b o c p q r f2 first2 caps2 x hx (by omega)) Try.func36 rfl rfl (Opds.cons Is.rfl' (Opds.cons Is.rfl' Opds.nil))) rfl ?_
  refine X.u (LU.assignR Is.rfl') rfl ?_
  refine LL.nil (after_code ?_)
  refine LW.seq ?_
  refine X.drawM 25 rfl (by kernel_rfl) rfl ?_
  refine QD.u (LU.moveR Is.rfl') rfl ?_
  refine QD.u (LU.loadO 5 rfl ⟨Try.sizeOf24, Try.isAgg24⟩ Is.rfl' (Part.one rfl)) rfl ?_
  refine QD.u (LU.at Try.underlying24 ⟨Try.sizeOf3, Try.isAgg3⟩ Is.rfl' Is.rfl' (by omega) (ints_at hx) (by simp)) rfl ?_
  refine QD.u (LU.load ⟨Try.sizeOf3, Try.isAgg3⟩ Is.rfl' (by (simp; done)) (Part.one rfl)) rfl ?_
  refine QD.u (LU.weak (LU.eql Is.rfl' Is.rfl') (asB (c := true) rfl (by simp))) rfl ?_
  refine QD.u (LU.moveR Is.rfl') rfl ?_
  refine QD.doT rfl rfl (LU.moveR (by exact Is.rfl')) rfl ?_
  refine QD.doT rfl rfl (LU.weak (LU.eql (by exact Is.rfl') (by exact Is.rfl')) (asB (c := true) rfl (by rfl))) rfl ?_
  refine QD.u (LU.pickT Is.rfl' (by exact Is.rfl')) rfl ?_
  refine QD.u (LU.moveR Is.rfl') rfl ?_
  refine QD.doT rfl rfl (LU.moveR (by exact Is.rfl')) rfl ?_
  refine QD.doT rfl rfl (LU.weak (LU.eql (by exact Is.rfl') (by exact Is.rfl')) (asB (c := true) rfl (by rfl))) rfl ?_
  refine QD.u (LU.pickT Is.rfl' (by exact Is.rfl')) rfl ?_
  refine QD.u (LU.moveR Is.rfl') rfl ?_
  refine QD.doT rfl rfl (LU.loadO 4 rfl ⟨Try.sizeOf51, Try.isAgg51⟩ (by exact Is.rfl') (Part.one rfl)) rfl ?_
  refine QD.doT rfl rfl (LU.call1 1 rfl (drain_over g ws [] b o c p q r _ f2 _ _ first2 caps2) Try.func42 rfl rfl (Opds.cons (by exact Is.rfl') (Opds.cons (by exact Is.rfl') Opds.nil))) rfl ?_
  refine QD.doT rfl rfl (LU.lenN Try.underlying54 (by exact Is.rfl') (by (simp only [Option.getD_some, Option.getD_none, byteEls_length, intEls_length, List.length_append, List.length_cons, List.length_nil, List.length_map, List.length_drop, List.length_take, Int.toNat_natCast]; rfl))) rfl ?_
  refine QD.doT rfl rfl (LU.weak (LU.eql (by exact Is.rfl') (by exact Is.rfl')) (asB (c := true) rfl (by rfl))) rfl ?_
  refine QD.u (LU.pickT Is.rfl' (by exact Is.rfl')) rfl ?_
  refine QD.u (LU.moveR Is.rfl') rfl ?_
  refine QD.doT rfl rfl (LU.loadO 4 rfl ⟨Try.sizeOf51, Try.isAgg51⟩ (by exact Is.rfl') (Part.one rfl)) rfl ?_
  refine QD.doT rfl rfl (LU.call1 1 rfl (waiting_calls g ws [] (.func (.func f2) first2 caps2) b o c p q r (by omega)) Try.func29 rfl rfl (Opds.cons (by exact Is.rfl') Opds.nil)) rfl ?_
  refine QD.doT rfl rfl (LU.loadO 5 rfl ⟨Try.sizeOf24, Try.isAgg24⟩ (by exact Is.rfl') (Part.one rfl)) rfl ?_
  refine QD.doT rfl rfl (LU.weak (LU.call (ints_calls ws ws .unk .unk (by omega) (by omega)) Try.func38 rfl rfl (Opds.cons (by exact Is.rfl') (Opds.cons (by exact Is.rfl') Opds.nil))) (asB (c := true) rfl (by simp))) rfl ?_
  refine QD.u (LU.pickT Is.rfl' (by exact Is.rfl')) rfl ?_
  refine QD.nil ?_
  refine X.act (X.store 6 rfl Try.sizeOf4 Is.rfl' Is.rfl' (by exact Cells.raw rfl) (by (simp; done)) (by (simp; done)) ?_)
  refine LL.nil (after_code ?_)
  refine LW.seq ?_
  refine LW.region ?_
  refine X.u (LU.assignR Is.rfl') rfl ?_
  refine LL.nil (after_code ?_)
  refine LW.seq ?_
  refine LW.region ?_
  refine X.u (LU.assignR Is.rfl') rfl ?_
  refine LL.nil (after_code ?_)
  refine X.meetK (α := List Int × List Ed × Nat × Nat × Nat × Nat × Nat × Nat × Int) (fun ⟨ws2, es2, b2_, o2_, c2_, p2_, q2_, r2_, e⟩ => [(12, i64 e), (13, i64 e)]) [3, 6, 8] (fun ⟨ws2, es2, b2_, o2_, c2_, p2_, q2_, r2_, e⟩ => qa g ws2 es2 (.func (.func f2) first2 caps2) b2_ o2_ c2_ p2_ q2_ r2_ :: .tail b2_ o2_ c2_ :: .tail p2_ q2_ r2_ :: .cells t7 51 [pt g] :: .cells t10 24 [Ints ws .unk] :: .cells t14 4 [bl true] :: .cells t4 65 (aqL a) :: .cells t13 68 (rq ws2 es2) :: .cells t5 3 [i64 an] :: Rf) (fun ⟨ws2, es2, b2_, o2_, c2_, p2_, q2_, r2_, e⟩ => ws2[0]? = some x ∧ ws2.length ≤ 64 ∧ es2.length ≤ 1) ?_ ?_
  · refine LW.block ?_
    refine LW.seq ?_
    refine LW.region ?_
    refine X.u (LU.fieldO Try.underlying65 rfl Try.sizeOf3 (by decide) Is.rfl') rfl ?_
    refine X.u (LU.loadO 7 rfl ⟨Try.sizeOf3, Try.isAgg3⟩ Is.rfl' (Part.one rfl)) rfl ?_
    refine X.u (LU.eql Is.rfl' Is.rfl') rfl ?_
    refine X.u (LU.assignR Is.rfl') rfl ?_
    refine LL.nil (after_code ?_)
    refine X.cond rfl (fun h6 => ?_) (fun h6 => ?_)
    · try have h6 := of_decide_eq_true h6
      refine LW.seq ?_
      refine LW.region ?_
      refine X.u (LU.loadO 5 rfl ⟨Try.sizeOf51, Try.isAgg51⟩ Is.rfl' (Part.one rfl)) rfl ?_
      refine X.u (LU.fieldO Try.underlying65 rfl Try.sizeOf3 (by decide) Is.rfl') rfl ?_
      refine X.u (LU.loadO 7 rfl ⟨Try.sizeOf3, Try.isAgg3⟩ Is.rfl' (Part.one rfl)) rfl ?_
      refine X.act (X.call (put_calls21 g ws [] (.func (.func f2) first2 caps2) b o c p q r a.id hw) Try.func28 rfl rfl rfl (by (refine HSub.pick 2 rfl ?_); (refine HSub.pick 2 rfl ?_); (refine HSub.pick 2 rfl ?_); exact HSub.refl _) (Opds.cons Is.rfl' (Opds.cons Is.rfl' Opds.nil)) ?_)
      rintro r H' ⟨b3_, o3_, c3_, rfl, rfl⟩
      refine X.u (LU.assignR Is.rfl') rfl ?_
      refine LL.nil (after_code ?_)
      refine LW.region ?_
      refine X.u (LU.loadO 8 rfl ⟨Try.sizeOf68, Try.isAgg68⟩ Is.rfl' (Part.whole (by (simp; done)))) rfl ?_
      refine X.u (LU.fieldO Try.underlying65 rfl Try.sizeOf3 (by decide) Is.rfl') rfl ?_
      refine X.u (LU.loadO 7 rfl ⟨Try.sizeOf3, Try.isAgg3⟩ Is.rfl' (Part.one rfl)) rfl ?_
      refine X.u (LU.call (rput_calls ws [] a.id hw) Try.func44 rfl rfl (Opds.cons Is.rfl' (Opds.cons Is.rfl' Opds.nil))) rfl ?_
      refine X.u (LU.moveT Is.rfl') rfl ?_
      refine X.u (LU.extract Is.rfl' rfl) rfl ?_
      refine X.u (LU.extract Is.rfl' rfl) rfl ?_
      refine X.act (X.store 8 rfl Try.sizeOf68 Is.rfl' Is.rfl' (by exact Cells.agg) (by (simp; done)) (by (simp; done)) ?_)
      refine X.u (LU.assignR Is.rfl') rfl ?_
      refine LL.nil (after_blk (after_rnd ?_))
      refine X.meets ((putW ws a.id, [], b3_, o3_, c3_, p, q, r, idxP ws a.id)) rfl (EnvLe.cons (by rfl) (EnvLe.cons (by rfl) (EnvLe.nil))) (Keeps.cons (by exact Eq.trans (b := .raw _) rfl rfl) (Keeps.cons (by exact Eq.trans (b := .raw _) rfl rfl) (Keeps.cons (by exact Eq.trans (b := .raw _) rfl rfl) (Keeps.nil)))) (by repeat (first | exact HSub.refl _ | refine HSub.pick 0 rfl ?_ | refine HSub.pick 1 rfl ?_ | refine HSub.pick 2 rfl ?_ | refine HSub.pick 3 rfl ?_ | refine HSub.drop ?_)) ?_
      exact ⟨by rw [hf3 0 h0]; exact hx, hf2, Nat.zero_le _⟩
    · try have h6 := of_decide_eq_false h6
      refine LW.seq ?_
      refine LW.region ?_
      refine X.u (LU.fieldO Try.underlying65 rfl Try.sizeOf3 (by decide) Is.rfl') rfl ?_
      refine X.u (LU.loadO 7 rfl ⟨Try.sizeOf3, Try.isAgg3⟩ Is.rfl' (Part.one rfl)) rfl ?_
      refine X.u (LU.moveR Is.rfl') rfl ?_
      refine X.u (LU.neq Is.rfl' Is.rfl') rfl ?_
      refine X.u (LU.assignR Is.rfl') rfl ?_
      refine LL.nil (after_code ?_)
      refine X.cond rfl (fun h9 => ?_) (fun h9 => ?_)
      · have hne : a.id ≠ x := by simpa using h9
        refine LW.seq ?_
        refine LW.region ?_
        refine X.u (LU.loadO 5 rfl ⟨Try.sizeOf51, Try.isAgg51⟩ Is.rfl' (Part.one rfl)) rfl ?_
        refine X.u (LU.fieldO Try.underlying65 rfl Try.sizeOf3 (by decide) Is.rfl') rfl ?_
        refine X.u (LU.loadO 7 rfl ⟨Try.sizeOf3, Try.isAgg3⟩ Is.rfl' (Part.one rfl)) rfl ?_
        refine X.act (X.call (dropT_calls g ws [] b o c p q r f2 first2 caps2 a.id x hx hne (by omega) (by simp)) Try.func36 rfl rfl rfl (by (refine HSub.pick 2 rfl ?_); (refine HSub.pick 2 rfl ?_); (refine HSub.pick 2 rfl ?_); exact HSub.refl _) (Opds.cons Is.rfl' (Opds.cons Is.rfl' Opds.nil)) ?_)
        rintro r H' ⟨b3_, o3_, c3_, p3_, q3_, r3_, rfl, rfl⟩
        refine X.u (LU.assignR Is.rfl') rfl ?_
        refine LL.nil (after_code ?_)
        refine LW.region ?_
        refine X.u (LU.loadO 8 rfl ⟨Try.sizeOf68, Try.isAgg68⟩ Is.rfl' (Part.whole (by (simp; done)))) rfl ?_
        refine X.u (LU.fieldO Try.underlying65 rfl Try.sizeOf3 (by decide) Is.rfl') rfl ?_
        refine X.u (LU.loadO 7 rfl ⟨Try.sizeOf3, Try.isAgg3⟩ Is.rfl' (Part.one rfl)) rfl ?_
        refine X.u (LU.call (rdrop_calls ws [] a.id (by omega) (by simp)) Try.func45 rfl rfl (Opds.cons Is.rfl' (Opds.cons Is.rfl' Opds.nil))) rfl ?_
        refine X.u (LU.moveT Is.rfl') rfl ?_
        refine X.u (LU.extract Is.rfl' rfl) rfl ?_
        refine X.u (LU.extract Is.rfl' rfl) rfl ?_
        refine X.act (X.store 8 rfl Try.sizeOf68 Is.rfl' Is.rfl' (by exact Cells.agg) (by (simp; done)) (by (simp; done)) ?_)
        refine X.u (LU.assignR Is.rfl') rfl ?_
        refine LL.nil (after_blk (after_rnd ?_))
        refine X.meets ((dropW ws a.id, dropE ws [] a.id, b3_, o3_, c3_, p3_, q3_, r3_, dropP ws a.id)) rfl (EnvLe.cons (by rfl) (EnvLe.cons (by rfl) (EnvLe.nil))) (Keeps.cons (by exact Eq.trans (b := .raw _) rfl rfl) (Keeps.cons (by exact Eq.trans (b := .raw _) rfl rfl) (Keeps.cons (by exact Eq.trans (b := .raw _) rfl rfl) (Keeps.nil)))) (by repeat (first | exact HSub.refl _ | refine HSub.pick 0 rfl ?_ | refine HSub.pick 1 rfl ?_ | refine HSub.pick 2 rfl ?_ | refine HSub.pick 3 rfl ?_ | refine HSub.drop ?_)) ?_
        exact ⟨dropW_zero hx hne, hd2, hd3⟩
      · try have h9 := of_decide_eq_false h9
        refine LW.skip (after_blk (after_rnd ?_))
        refine X.meets ((ws, [], b, o, c, p, q, r, 0)) rfl (EnvLe.cons (by rfl) (EnvLe.cons (by rfl) (EnvLe.nil))) (Keeps.cons (by exact Eq.trans (b := .raw _) rfl rfl) (Keeps.cons (by exact Eq.trans (b := .raw _) rfl rfl) (Keeps.cons (by exact Eq.trans (b := .raw _) rfl rfl) (Keeps.nil)))) (by repeat (first | exact HSub.refl _ | refine HSub.pick 0 rfl ?_ | refine HSub.pick 1 rfl ?_ | refine HSub.pick 2 rfl ?_ | refine HSub.drop ?_)) ?_
        exact ⟨hx, hw, Nat.zero_le _⟩
  · rintro ⟨ws2, es2, b2_, o2_, c2_, p2_, q2_, r2_, e⟩ hI
    obtain ⟨hx2, hw2, he2⟩ := hI
    refine LW.seq ?_
    refine LW.region ?_
    refine X.u (LU.loadO 5 rfl ⟨Try.sizeOf4, Try.isAgg4⟩ Is.rfl' (Part.one rfl)) rfl ?_
    refine X.u (LU.moveR Is.rfl') rfl ?_
    refine X.doT rfl rfl (LU.moveR (by exact Is.rfl')) rfl ?_
    refine X.doT rfl rfl (LU.moveR (by exact Is.rfl')) rfl ?_
    refine X.doT rfl rfl (LU.weak (LU.eql (by exact Is.rfl') (by exact Is.rfl')) (asB (c := true) rfl (by simp))) rfl ?_
    refine X.u (LU.pickT Is.rfl' (by exact Is.rfl')) rfl ?_
    refine X.act (X.store 5 rfl Try.sizeOf4 Is.rfl' Is.rfl' (by exact Cells.raw rfl) (by (simp; done)) (by (simp; done)) ?_)
    refine LL.nil (after_code ?_)
    refine LW.seq ?_
    refine LW.region ?_
    refine X.u (LU.loadO 8 rfl ⟨Try.sizeOf3, Try.isAgg3⟩ Is.rfl' (Part.one rfl)) rfl ?_
    refine X.u (LU.assignR Is.rfl') rfl ?_
    refine LL.nil (after_code ?_)
    refine LW.ret (after_end ?_)
    refine X.ret (H' := qa g ws2 es2 (.func (.func f2) first2 caps2) b2_ o2_ c2_ p2_ q2_ r2_ :: .tail b2_ o2_ c2_ :: .tail p2_ q2_ r2_ :: inH t7 t10 t14 t4 t13 t5 g ws a an ws2 es2) (Res.one (by exact IsR rfl)) (by repeat (first | exact HSub.refl _ | refine HSub.pick 1 rfl ?_)) ?_
    exact ⟨an, ws2, es2, b2_, o2_, c2_, p2_, q2_, r2_, _, rfl, rfl, hx2, by omega, by omega, rfl, rfl, hx2, hw2, he2⟩
set_option maxHeartbeats 2000000 in
set_option maxRecDepth 100000 in
theorem qi_calls (ids : List Int) (a : AcQ) (an : Int) (hi0 : ids.length < 140737488355328) : LCalls Try.prog 10 [Ints ids .unk, .agg (aqL a), i64 an] [] (fun r H' => r = bl true ∧ H' = []) := by
  refine LCalls.of Try.func10 rfl Try.ntmps10 Try.results10 rfl (fun Rf => ?_)
  refine LW.seq ?_
  refine LW.region ?_
  refine X.act (X.box rfl Is.rfl' (by exact Cells.agg) (fun b4 => ?_))
  refine X.act (X.box rfl Is.rfl' (by exact Cells.raw rfl) (fun b5 => ?_))
  refine X.u (LU.assignR Is.rfl') rfl ?_
  refine LL.nil (after_code ?_)
  refine LW.seq ?_
  refine LW.region ?_
  refine X.act (X.call (new_calls21) Try.func27 rfl rfl rfl (HSub.refl _) Opds.nil ?_)
  rintro r H' ⟨g, rfl, rfl⟩
  refine X.act (X.alloc rfl Try.zeroValue51 (by exact Cells.raw rfl) (fun b7 => ?_))
  refine X.act (X.store 0 rfl Try.sizeOf51 Is.rfl' Is.rfl' (by exact Cells.raw rfl) (by (simp; done)) (by (simp; done)) ?_)
  refine LL.nil (after_code ?_)
  refine LW.seq ?_
  refine LW.seq ?_
  refine LW.region ?_
  refine X.u (LU.moveS Is.rfl') rfl ?_
  refine X.u (LU.lenN Try.underlying24 Is.rfl' (by (simp only [Option.getD_some, Option.getD_none, byteEls_length, intEls_length, List.length_append, List.length_cons, List.length_nil, List.length_map, List.length_drop, List.length_take, Int.toNat_natCast]; rfl))) rfl ?_
  refine X.u (LU.moveR Is.rfl') rfl ?_
  refine LL.nil (after_code ?_)
  refine LW.block ?_
  refine X.loopK (α := Nat × List Int × Nat × Nat × Nat) (fun ⟨i, ws, b, o, c⟩ => [(22, i64 i)]) [4, 5, 6, 7, 20, 21] (fun ⟨i, ws, b, o, c⟩ => qa g ws [] .nilFunc b o c 0 0 0 :: .tail b o c :: .tail 0 0 0 :: .cells b7 51 [pt g] :: .cells b5 3 [i64 an] :: .cells b4 65 (aqL a) :: Rf) (fun ⟨i, ws, b, o, c⟩ => i ≤ ids.length ∧ ws.length ≤ 64 ∧ Uni ws) (fun ⟨i, ws, b, o, c⟩ => ids.length - i) ((0, [], 0, 0, 0)) (EnvLe.cons (by rfl) (EnvLe.nil)) (by repeat (first | exact HSub.refl _ | refine HSub.pick 1 rfl ?_)) ?_ ?_
  · exact ⟨Nat.zero_le _, by simp, Uni.nil⟩
  · rintro ⟨i, ws, b, o, c⟩ hI
    obtain ⟨hi, hwl, hun⟩ := hI
    refine LW.seq ?_
    refine LW.region ?_
    refine X.u (LU.lss Is.rfl' Is.rfl') rfl ?_
    refine LL.nil (after_code ?_)
    refine LW.seq ?_
    refine X.cond rfl (fun h3 => ?_) (fun h3 => ?_)
    · try have h3 := of_decide_eq_true h3
      refine LW.skip (after_code ?_)
      refine X.meetK (α := List Int × Nat × Nat × Nat) (fun ⟨ws2, b2_, o2_, c2_⟩ => []) [4, 5, 6, 7, 20, 21, 22] (fun ⟨ws2, b2_, o2_, c2_⟩ => qa g ws2 [] .nilFunc b2_ o2_ c2_ 0 0 0 :: .tail b2_ o2_ c2_ :: .tail 0 0 0 :: .cells b7 51 [pt g] :: .cells b5 3 [i64 an] :: .cells b4 65 (aqL a) :: Rf) (fun ⟨ws2, b2_, o2_, c2_⟩ => ws2.length ≤ 64 ∧ Uni ws2) ?_ ?_
      · refine LW.block ?_
        refine LW.seq ?_
        obtain ⟨y, hy⟩ := at_lt (show i < ids.length by omega)
        obtain ⟨hf1, hf2, hf3⟩ := putW_facts y hun hwl
        have hpu := put_calls21 g ws [] .nilFunc b o c 0 0 0 y hwl
        refine LW.region ?_
        refine X.u (LU.moveR Is.rfl') rfl ?_
        refine X.u (LU.at Try.underlying24 ⟨Try.sizeOf3, Try.isAgg3⟩ Is.rfl' Is.rfl' (by omega) (ints_at hy) (by simp)) rfl ?_
        refine X.u (LU.load ⟨Try.sizeOf3, Try.isAgg3⟩ Is.rfl' (by (simp; done)) (Part.one rfl)) rfl ?_
        refine X.u (LU.assignR Is.rfl') rfl ?_
        refine X.u (LU.assignR Is.rfl') rfl ?_
        refine LL.nil (after_code ?_)
        refine LW.seq ?_
        refine LW.region ?_
        refine X.u (LU.moveR Is.rfl') rfl ?_
        refine X.u (LU.lss Is.rfl' Is.rfl') rfl ?_
        refine LL.nil (after_code ?_)
        refine X.cond rfl (fun h5 => ?_) (fun h5 => ?_)
        · try have h5 := of_decide_eq_true h5
          refine LW.region ?_
          refine X.u (LU.loadO 3 rfl ⟨Try.sizeOf51, Try.isAgg51⟩ Is.rfl' (Part.one rfl)) rfl ?_
          refine X.u (LU.moveR Is.rfl') rfl ?_
          refine X.act (X.call (hpu) Try.func28 rfl rfl rfl (by (refine HSub.pick 0 rfl ?_); (refine HSub.pick 0 rfl ?_); (refine HSub.pick 0 rfl ?_); exact HSub.refl _) (Opds.cons Is.rfl' (Opds.cons Is.rfl' Opds.nil)) ?_)
          rintro r H' ⟨b3_, o3_, c3_, rfl, rfl⟩
          refine LL.nil (after_blk (after_rnd ?_))
          refine X.meets ((putW ws y, b3_, o3_, c3_)) rfl (EnvLe.nil) (Keeps.cons (by exact Eq.trans (b := .raw _) rfl rfl) (Keeps.cons (by exact Eq.trans (b := .raw _) rfl rfl) (Keeps.cons (by exact Eq.trans (b := .raw _) rfl rfl) (Keeps.cons (by exact Eq.trans (b := .raw _) rfl rfl) (Keeps.cons (by exact Eq.trans (b := .sl _ _ _) rfl rfl) (Keeps.cons (by exact Eq.trans (b := .raw _) rfl rfl) (Keeps.cons (by exact Eq.trans (b := .raw _) rfl rfl) (Keeps.nil)))))))) (by repeat (exact HSub.refl _)) ?_
          exact ⟨hf2, hf1⟩
        · try have h5 := of_decide_eq_false h5
          refine LW.skip (after_blk (after_rnd ?_))
          refine X.meets ((ws, b, o, c)) rfl (EnvLe.nil) (Keeps.cons (by exact Eq.trans (b := .raw _) rfl rfl) (Keeps.cons (by exact Eq.trans (b := .raw _) rfl rfl) (Keeps.cons (by exact Eq.trans (b := .raw _) rfl rfl) (Keeps.cons (by exact Eq.trans (b := .raw _) rfl rfl) (Keeps.cons (by exact Eq.trans (b := .sl _ _ _) rfl rfl) (Keeps.cons (by exact Eq.trans (b := .raw _) rfl rfl) (Keeps.cons (by exact Eq.trans (b := .raw _) rfl rfl) (Keeps.nil)))))))) (by repeat (exact HSub.refl _)) ?_
          exact ⟨hwl, hun⟩
      · rintro ⟨ws2, b2_, o2_, c2_⟩ hI
        obtain ⟨hwl2, hun2⟩ := hI
        refine LW.region ?_
        refine X.u (LU.addN Is.rfl' Is.rfl' (wrap_i64 (by omega) (by omega))) rfl ?_
        refine X.u (LU.moveR Is.rfl') rfl ?_
        refine LL.nil (after_rnd ?_)
        refine X.next ((i + 1, ws2, b2_, o2_, c2_)) rfl (EnvLe.cons (by rfl) (EnvLe.nil)) (Keeps.cons (by exact Eq.trans (b := .raw _) rfl rfl) (Keeps.cons (by exact Eq.trans (b := .raw _) rfl rfl) (Keeps.cons (by exact Eq.trans (b := .raw _) rfl rfl) (Keeps.cons (by exact Eq.trans (b := .raw _) rfl rfl) (Keeps.cons (by exact Eq.trans (b := .sl _ _ _) rfl rfl) (Keeps.cons (by exact Eq.trans (b := .raw _) rfl rfl) (Keeps.nil))))))) (by repeat (exact HSub.refl _)) ?_ ?_
        · exact ⟨by omega, hwl2, hun2⟩
        · (simp; omega)
    · try have h3 := of_decide_eq_false h3
      refine LW.exit (exit_code (exit_rnd (exit_blk (after_code ?_))))
      refine LW.seq ?_
      refine LW.region ?_
      refine X.u (LU.loadO 3 rfl ⟨Try.sizeOf51, Try.isAgg51⟩ Is.rfl' (Part.one rfl)) rfl ?_
      refine X.u (LU.call1 0 rfl (waiting_calls g ws [] .nilFunc b o c 0 0 0 (by omega)) Try.func29 rfl rfl (Opds.cons Is.rfl' Opds.nil)) rfl ?_
      refine X.act (X.alloc rfl Try.zeroValue24 (by exact Cells.raw rfl) (fun b10 => ?_))
      refine X.act (X.store 0 rfl Try.sizeOf24 Is.rfl' Is.rfl' (by exact Cells.sl) (by (simp; done)) (by (simp; done)) ?_)
      refine LL.nil (after_code ?_)
      refine LW.seq ?_
      refine LW.seq ?_
      refine LW.region ?_
      refine X.u (LU.loadO 0 rfl ⟨Try.sizeOf24, Try.isAgg24⟩ Is.rfl' (Part.one rfl)) rfl ?_
      refine X.u (LU.lenN Try.underlying24 Is.rfl' (by (simp only [Option.getD_some, Option.getD_none, byteEls_length, intEls_length, List.length_append, List.length_cons, List.length_nil, List.length_map, List.length_drop, List.length_take, Int.toNat_natCast]; rfl))) rfl ?_
      refine X.u (LU.eql Is.rfl' Is.rfl') rfl ?_
      refine LL.nil (after_code ?_)
      refine X.cond rfl (fun h9 => ?_) (fun h9 => ?_)
      · have hw0 : ws = [] := List.length_eq_zero_iff.1 (by have := of_decide_eq_true h9; omega)
        subst hw0
        refine LW.seq ?_
        refine LW.region ?_
        refine X.u (LU.loadO 4 rfl ⟨Try.sizeOf51, Try.isAgg51⟩ Is.rfl' (Part.one rfl)) rfl ?_
        refine X.u (LU.call1 1 rfl (step_empty g [] b o c 0 0 0 39 #[] #[]) Try.func33 rfl rfl (Opds.cons Is.rfl' (Opds.cons Is.rfl' Opds.nil))) rfl ?_
        refine X.u (LU.moveT Is.rfl') rfl ?_
        refine X.u (LU.extract Is.rfl' rfl) rfl ?_
        refine X.u (LU.extract Is.rfl' rfl) rfl ?_
        refine X.act (X.alloc rfl Try.zeroValue58 (by exact Cells.rawagg (by decide)) (fun b11 => ?_))
        refine X.act (X.store 0 rfl Try.sizeOf58 Is.rfl' Is.rfl' (by exact Cells.agg) (by (simp; done)) (by exact Nat.le_of_ble_eq_true rfl) ?_)
        refine X.u (LU.assignR Is.rfl') rfl ?_
        refine LL.nil (after_code ?_)
        refine LW.seq ?_
        refine LW.region ?_
        refine X.u (LU.moveR Is.rfl') rfl ?_
        refine X.u (LU.weak (LU.eql Is.rfl' Is.rfl') (asB (c := true) rfl (by rfl))) rfl ?_
        refine X.u (LU.moveR Is.rfl') rfl ?_
        refine X.doT rfl rfl (LU.call (lives21_calls) Try.func31 rfl rfl Opds.nil) rfl ?_
        refine X.u (LU.pickT Is.rfl' (by exact Is.rfl')) rfl ?_
        refine X.u (LU.assignR Is.rfl') rfl ?_
        refine LL.nil (after_code ?_)
        refine LW.ret (ret_code (after_end ?_))
        refine X.ret (H' := []) (Res.one (by exact IsR rfl)) (by repeat (first | exact HSub.refl _ | refine HSub.drop ?_)) ?_
        exact ⟨rfl, rfl⟩
      · have h9 : 0 < ws.length := by have := of_decide_eq_false h9; omega
        obtain ⟨x, hx⟩ := at_lt h9
        refine LW.skip (after_code ?_)
        refine LW.seq ?_
        refine LW.region ?_
        refine X.u (LU.loadO 0 rfl ⟨Try.sizeOf24, Try.isAgg24⟩ Is.rfl' (Part.one rfl)) rfl ?_
        refine X.u (LU.build (places := #[(0, 1), (1, 1)]) Try.underlying68 Try.zeroValue68 (ones rfl) (by intro w; simp [Try.sizeOf24, Try.sizeOf54]) (Parts.cons Is.rfl' (by exact Cells.sl) Parts.nil) rfl) rfl ?_
        refine X.act (X.alloc rfl Try.zeroValue68 (by exact Cells.rawagg (by decide)) (fun b13 => ?_))
        refine X.act (X.store 0 rfl Try.sizeOf68 Is.rfl' Is.rfl' (by exact Cells.agg) (by rfl) (by exact Nat.le_of_ble_eq_true rfl) ?_)
        refine LL.nil (after_code ?_)
        refine LW.seq ?_
        refine X.wghost (HSub.trans (B := .cells b13 68 [Ints ws .unk, .raw (.slice none 0 0)] :: qa g ws [] .nilFunc b o c 0 0 0 :: .tail b o c :: .tail 0 0 0 :: .cells b7 51 [pt g] :: .cells b10 24 [Ints ws .unk] :: .cells b4 65 (aqL a) :: .cells b5 3 [i64 an] :: Rf) (by repeat (first | exact HSub.refl _ | refine HSub.pick 0 rfl ?_ | refine HSub.pick 1 rfl ?_)) (HSub.cell 1 rfl ((Is.nil 3).trans Is.unk))) ?_
        refine LW.region ?_
        refine X.act (X.alloc rfl Try.zeroValue4 (by exact Cells.raw rfl) (fun b14 => ?_))
        refine X.act (X.store 0 rfl Try.sizeOf4 Is.rfl' Is.rfl' (by exact Cells.raw rfl) (by (simp; done)) (by (simp; done)) ?_)
        refine LL.nil (after_code ?_)
        refine LW.seq ?_
        have hst := stepG_calls (Post := fun why ws2 es2 Ht2 => why = an ∧ Ht2 = inH b7 b10 b14 b4 b13 b5 g ws a an ws2 es2 ∧ ws2[0]? = some x ∧ ws2.length ≤ 64 ∧ es2.length ≤ 1) (inH b7 b10 b14 b4 b13 b5 g ws a an ws []) g ws [] b o c 0 0 0 40 #[] #[.pointer (some ⟨b7, 0, none⟩), .pointer (some ⟨b10, 0, none⟩), .pointer (some ⟨b14, 0, none⟩), .pointer (some ⟨b4, 0, none⟩), .pointer (some ⟨b13, 0, none⟩), .pointer (some ⟨b5, 0, none⟩)] x hx (by omega) (FnCalls.closure Try.func40 rfl rfl (inner_calls b7 b10 b14 b4 b13 b5 g ws a an x b o c 0 0 0 _ _ _ hx hwl hun))
        refine LW.region ?_
        refine X.u (LU.loadO 5 rfl ⟨Try.sizeOf51, Try.isAgg51⟩ Is.rfl' (Part.one rfl)) rfl ?_
        refine X.u (LU.closure (vs := [_, _, _, _, _, _]) (Opds.cons Is.rfl' (Opds.cons Is.rfl' (Opds.cons Is.rfl' (Opds.cons Is.rfl' (Opds.cons Is.rfl' (Opds.cons Is.rfl' Opds.nil))))))) rfl ?_
        refine X.act (X.call (hst) Try.func33 rfl rfl rfl (by (refine HSub.pick 2 rfl ?_); (refine HSub.pick 2 rfl ?_); (refine HSub.pick 2 rfl ?_); (refine HSub.pick 2 rfl ?_); (refine HSub.pick 2 rfl ?_); (refine HSub.pick 0 rfl ?_); (refine HSub.pick 1 rfl ?_); (refine HSub.pick 0 rfl ?_); (refine HSub.pick 0 rfl ?_); exact HSub.refl _) (Opds.cons Is.rfl' (Opds.cons Is.rfl' Opds.nil)) ?_)
        rintro r H' ⟨why, ws2, es2, b2_, o2_, c2_, p2_, q2_, r2_, Ht', rfl, rfl, rfl, rfl, hx2, hw2, he2⟩
        refine X.u (LU.moveT Is.rfl') rfl ?_
        refine X.u (LU.extract Is.rfl' rfl) rfl ?_
        refine X.u (LU.extract Is.rfl' rfl) rfl ?_
        refine X.act (X.alloc rfl Try.zeroValue58 (by exact Cells.rawagg (by decide)) (fun b15 => ?_))
        refine X.act (X.store 0 rfl Try.sizeOf58 Is.rfl' Is.rfl' (by exact Cells.agg) (by (simp; done)) (by exact Nat.le_of_ble_eq_true rfl) ?_)
        refine X.u (LU.assignR Is.rfl') rfl ?_
        refine LL.nil (after_code ?_)
        refine LW.seq ?_
        refine LW.region ?_
        refine X.u (LU.loadO 8 rfl ⟨Try.sizeOf68, Try.isAgg68⟩ Is.rfl' (Part.whole (by (simp; done)))) rfl ?_
        refine X.u (LU.loadO 9 rfl ⟨Try.sizeOf3, Try.isAgg3⟩ Is.rfl' (Part.one rfl)) rfl ?_
        refine X.u (LU.call (rstep_cons ws2 es2 x why hx2 (by omega) (by omega)) Try.func46 rfl rfl (Opds.cons Is.rfl' (Opds.cons Is.rfl' Opds.nil))) rfl ?_
        refine X.u (LU.moveT Is.rfl') rfl ?_
        refine X.u (LU.extract Is.rfl' rfl) rfl ?_
        refine X.u (LU.extract Is.rfl' rfl) rfl ?_
        refine X.u (LU.extract Is.rfl' rfl) rfl ?_
        refine X.act (X.alloc rfl Try.zeroValue58 (by exact Cells.rawagg (by decide)) (fun b17 => ?_))
        refine X.act (X.store 9 rfl Try.sizeOf68 Is.rfl' Is.rfl' (by exact Cells.agg) (by (simp; done)) (by (simp; done)) ?_)
        refine X.act (X.store 1 rfl Try.sizeOf58 Is.rfl' Is.rfl' (by exact Cells.agg) (by (simp; done)) (by exact Nat.le_of_ble_eq_true rfl) ?_)
        refine X.u (LU.assignR Is.rfl') rfl ?_
        refine LL.nil (after_code ?_)
        refine LW.seq ?_
        have hel2 : (ws2.eraseIdx 0).length ≤ 64 := by rw [List.length_eraseIdx]; split <;> omega
        have hee2 : (es2 ++ [(x, outE why, why)] : List Ed).length ≤ 2 := by rw [List.length_append]; simp; omega
        refine X.drawM 32 rfl (by kernel_rfl) rfl ?_
        refine QD.u (LU.loadO 8 rfl ⟨Try.sizeOf4, Try.isAgg4⟩ Is.rfl' (Part.one rfl)) rfl ?_
        refine QD.u (LU.moveR Is.rfl') rfl ?_
        refine QD.doT rfl rfl (LU.loadO 2 rfl ⟨Try.sizeOf58, Try.isAgg58⟩ (by exact Is.rfl') (Part.whole (by rfl))) rfl ?_
        refine QD.doT rfl rfl (LU.loadO 0 rfl ⟨Try.sizeOf58, Try.isAgg58⟩ (by exact Is.rfl') (Part.whole (by rfl))) rfl ?_
        refine QD.doT rfl rfl (LU.weak (LU.eqlA (by exact Is.rfl') (by exact Is.rfl') (RawL.cons (RawL.cons (RawL.cons (RawL.nil)))) (RawL.cons (RawL.cons (RawL.cons (RawL.nil)))) Try.eqGuardType58 rfl (EqR.struct Try.underlying58 Try.stoodInHeld58 (EqFs.cons rfl (part_one Try.isAgg3 rfl) (part_one Try.isAgg3 rfl) (EqR.int Try.underlying3) (EqFs.cons rfl (part_one Try.isAgg3 rfl) (part_one Try.isAgg3 rfl) (EqR.int Try.underlying3) (EqFs.one rfl (part_one Try.isAgg26 rfl) (part_one Try.isAgg26 rfl) (EqR.int Try.underlying26)))))) (asB (c := true) rfl (by simp))) rfl ?_
        refine QD.u (LU.pickT Is.rfl' (by exact Is.rfl')) rfl ?_
        refine QD.u (LU.moveR Is.rfl') rfl ?_
        refine QD.doT rfl rfl (LU.moveR (by exact Is.rfl')) rfl ?_
        refine QD.doT rfl rfl (LU.weak (LU.eql (by exact Is.rfl') (by exact Is.rfl')) (asB (c := true) rfl (by rfl))) rfl ?_
        refine QD.u (LU.pickT Is.rfl' (by exact Is.rfl')) rfl ?_
        refine QD.u (LU.moveR Is.rfl') rfl ?_
        refine QD.doT rfl rfl (LU.moveR (by exact Is.rfl')) rfl ?_
        refine QD.doT rfl rfl (LU.weak (LU.eql (by exact Is.rfl') (by exact Is.rfl')) (asB (c := true) rfl (by rfl))) rfl ?_
        refine QD.u (LU.pickT Is.rfl' (by exact Is.rfl')) rfl ?_
        refine QD.u (LU.moveR Is.rfl') rfl ?_
        refine QD.doT rfl rfl (LU.loadO 6 rfl ⟨Try.sizeOf51, Try.isAgg51⟩ (by exact Is.rfl') (Part.one rfl)) rfl ?_
        refine QD.doT rfl rfl (LU.call1 3 rfl (waiting_calls g (ws2.eraseIdx 0) (es2 ++ [(x, outE why, why)] : List Ed) .nilFunc b2_ o2_ c2_ p2_ q2_ r2_ (by omega)) Try.func29 rfl rfl (Opds.cons (by exact Is.rfl') Opds.nil)) rfl ?_
        refine QD.doT rfl rfl (LU.fieldO Try.underlying68 rfl Try.sizeOf24 (by decide) (by exact Is.rfl')) rfl ?_
        refine QD.doT rfl rfl (LU.loadO 1 rfl ⟨Try.sizeOf24, Try.isAgg24⟩ (by exact Is.rfl') (Part.one rfl)) rfl ?_
        refine QD.doT rfl rfl (LU.weak (LU.call (ints_calls (ws2.eraseIdx 0) (ws2.eraseIdx 0) .unk .unk (by omega) (by omega)) Try.func38 rfl rfl (Opds.cons (by exact Is.rfl') (Opds.cons (by exact Is.rfl') Opds.nil))) (asB (c := true) rfl (by simp))) rfl ?_
        refine QD.u (LU.pickT Is.rfl' (by exact Is.rfl')) rfl ?_
        refine QD.u (LU.moveR Is.rfl') rfl ?_
        refine QD.doT rfl rfl (LU.loadO 6 rfl ⟨Try.sizeOf51, Try.isAgg51⟩ (by exact Is.rfl') (Part.one rfl)) rfl ?_
        refine QD.doT rfl rfl (LU.call1 3 rfl (ended_calls g (ws2.eraseIdx 0) (es2 ++ [(x, outE why, why)] : List Ed) .nilFunc b2_ o2_ c2_ p2_ q2_ r2_ (by omega)) Try.func30 rfl rfl (Opds.cons (by exact Is.rfl') Opds.nil)) rfl ?_
        refine QD.doT rfl rfl (LU.fieldO Try.underlying68 rfl Try.sizeOf54 (by decide) (by exact Is.rfl')) rfl ?_
        refine QD.doT rfl rfl (LU.loadO 1 rfl ⟨Try.sizeOf54, Try.isAgg54⟩ (by exact Is.rfl') (Part.one rfl)) rfl ?_
        refine QD.doT rfl rfl (LU.weak (LU.call (same21_calls (es2 ++ [(x, outE why, why)] : List Ed) (es2 ++ [(x, outE why, why)] : List Ed) .unk .unk (by omega) (by omega)) Try.func47 rfl rfl (Opds.cons (by exact Is.rfl') (Opds.cons (by exact Is.rfl') Opds.nil))) (asB (c := true) rfl (by simp))) rfl ?_
        refine QD.u (LU.pickT Is.rfl' (by exact Is.rfl')) rfl ?_
        refine QD.u (LU.moveR Is.rfl') rfl ?_
        refine QD.doT rfl rfl (LU.call (lives21_calls) Try.func31 rfl rfl Opds.nil) rfl ?_
        refine QD.u (LU.pickT Is.rfl' (by exact Is.rfl')) rfl ?_
        refine QD.u (LU.assignR Is.rfl') rfl ?_
        refine QD.nil ?_
        refine LL.nil (after_code ?_)
        refine LW.ret (after_end ?_)
        refine X.ret (H' := []) (Res.one (by exact IsR rfl)) (by repeat (first | exact HSub.refl _ | refine HSub.drop ?_)) ?_
        exact ⟨rfl, rfl⟩
theorem QueueInner_row (x0 : List (List LV)) (x1 : List LV) (an : Int) (h0 : ∀ c ∈ x0, QInt .i64 c) (h1 : x0.length * 8 ≤ reachBytes) (h2 : QAq x1) (h3 : (Lit.int .i64 an).wf = true) : LCalls Try.prog 10 [.sl 1 x0 .unk, .agg x1, i64 an] [] (fun r _ => r = .raw (.bool true)) := by
  obtain ⟨l, rfl, _⟩ := decode_ints h0
  obtain ⟨a, rfl, ha⟩ := aq_of x1 h2
  rw [intEls_length] at h1
  have hr := reachBytes_lt
  exact (qi_calls l a an (by omega)).mono fun r H' h => h.1
end Go.Proofs.Ytpimalihpnfdkaa
