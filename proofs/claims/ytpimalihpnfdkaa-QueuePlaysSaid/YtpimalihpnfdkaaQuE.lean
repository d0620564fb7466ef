/- The merge queue: Step. -/
import Derived.Test.YtpimalihpnfdkaaQuD
set_option linter.unusedVariables false
set_option linter.unusedSimpArgs false
namespace Go.Proofs.Ytpimalihpnfdkaa
open Go.RowKit Go.L
attribute [local irreducible] LL LW LO
set_option maxHeartbeats 1000000 in
set_option maxRecDepth 100000 in
theorem step_calls (g : Nat) (ws : List Int) (es : List Ed) (b o c p2 q2 r2 : Nat) (tv : Value) (x why : Int) (hx : ws[0]? = some x) (hw : ws.length ≤ 1000) (he : es.length ≤ 3000000000000) (hh : FnCalls Try.prog tv [i64 x] [] (fun r H' => r = i64 why ∧ H' = [])) : LCalls Try.prog 33 [pt g, .raw tv] [qa g ws es .nilFunc b o c p2 q2 r2, .tail b o c, .tail p2 q2 r2] (fun r H' => ∃ b' o' c' b2' o2' c2', r = .tup [.agg (edL (x, outE why, why)), i64 0] ∧ H' = [qa g (ws.eraseIdx 0) (es ++ [(x, outE why, why)]) .nilFunc b' o' c' b2' o2' c2', .tail b' o' c', .tail b2' o2' c2']) := by
  have h0 := (List.getElem?_eq_some_iff.1 hx).1
  obtain ⟨ff, fn, first, caps, rfl, _⟩ := id hh
  refine LCalls.of Try.func33 rfl Try.ntmps33 Try.results33 rfl (fun Rf => ?_)
  refine LW.seq ?_
  refine LW.region ?_
  refine X.act (X.box rfl Is.rfl' (by exact Cells.raw rfl) (fun b2 => ?_))
  refine X.act (X.alloc rfl Try.zeroValue58 (by exact Cells.rawagg (by decide)) (fun b4 => ?_))
  refine X.u (LU.assignR Is.rfl') rfl ?_
  refine LL.nil (after_code ?_)
  refine LW.seq ?_
  refine LW.block ?_
  refine LW.seq ?_
  refine LW.region ?_
  refine X.u (LU.loadO 1 rfl ⟨Try.sizeOf51, Try.isAgg51⟩ Is.rfl' (Part.one rfl)) rfl ?_
  refine X.u (LU.call1 2 rfl (none_calls21 g ws es .nilFunc b o c p2 q2 r2) Try.func57 rfl rfl (Opds.cons Is.rfl' Opds.nil)) rfl ?_
  refine X.u (LU.assignR Is.rfl') rfl ?_
  refine LL.nil (after_code ?_)
  refine X.condF rfl ?_ ?_
  · rfl
  refine LW.seq ?_
  refine LW.region ?_
  refine X.u (LU.moveR Is.rfl') rfl ?_
  refine X.u (LU.nilFEqS Try.underlying30 Is.rfl' Is.rfl') rfl ?_
  refine X.u (LU.assignR Is.rfl') rfl ?_
  refine LL.nil (after_code ?_)
  refine X.condF rfl ?_ ?_
  · rfl
  refine LW.seq ?_
  refine LW.region ?_
  refine X.u (LU.loadO 1 rfl ⟨Try.sizeOf51, Try.isAgg51⟩ Is.rfl' (Part.one rfl)) rfl ?_
  refine X.u (LU.nilCheck Is.rfl') rfl ?_
  refine X.u (LU.fieldO Try.underlying77 rfl Try.sizeOf30 (by decide) Is.rfl') rfl ?_
  refine X.u (LU.loadO 2 rfl ⟨Try.sizeOf30, Try.isAgg30⟩ Is.rfl' (Part.one rfl)) rfl ?_
  refine X.u (LU.nilFNeN Try.underlying30 Is.rfl' Is.rfl') rfl ?_
  refine X.u (LU.assignR Is.rfl') rfl ?_
  refine LL.nil (after_code ?_)
  refine X.condF rfl ?_ ?_
  · rfl
  refine LW.seq ?_
  refine LW.region ?_
  refine X.u (LU.loadO 1 rfl ⟨Try.sizeOf51, Try.isAgg51⟩ Is.rfl' (Part.one rfl)) rfl ?_
  refine X.u (LU.nilCheck Is.rfl') rfl ?_
  refine X.u (LU.fieldO Try.underlying77 rfl Try.sizeOf24 (by decide) Is.rfl') rfl ?_
  refine X.u (LU.loadO 2 rfl ⟨Try.sizeOf24, Try.isAgg24⟩ Is.rfl' (Part.one rfl)) rfl ?_
  refine X.u (LU.lenN Try.underlying24 Is.rfl' (by (simp only [Option.getD_some, Option.getD_none, byteEls_length, intEls_length, List.length_append, List.length_cons, List.length_nil, List.length_map, List.length_drop, List.length_take, Int.toNat_natCast]; rfl))) rfl ?_
  refine X.u (LU.weak (LU.eql Is.rfl' Is.rfl') (asB (c := false) rfl (by exact decide_eq_false (by omega)))) rfl ?_
  refine X.u (LU.assignR Is.rfl') rfl ?_
  refine LL.nil (after_code ?_)
  refine X.condF rfl ?_ ?_
  · rfl
  refine LW.skip (after_blk (after_code ?_))
  refine LW.seq ?_
  refine LW.region ?_
  refine X.u (LU.loadO 1 rfl ⟨Try.sizeOf51, Try.isAgg51⟩ Is.rfl' (Part.one rfl)) rfl ?_
  refine X.u (LU.moveR Is.rfl') rfl ?_
  refine X.u (LU.nilCheck Is.rfl') rfl ?_
  refine X.u (LU.fieldO Try.underlying77 rfl Try.sizeOf30 (by decide) Is.rfl') rfl ?_
  refine X.act (X.store 2 rfl Try.sizeOf30 Is.rfl' Is.rfl' (by exact Cells.raw rfl) (by (simp; done)) (by (simp; done)) ?_)
  refine LL.nil (after_code ?_)
  refine LW.seq ?_
  refine X.wcells (ys := [Ints ws (.tok b o c), .sl 3 (eds es) (.tok p2 q2 r2), .raw (.func (.func ff) first caps), bl true]) rfl ?_
  refine LW.deferC rfl Is.rfl' (after_code ?_)
  refine LW.seq ?_
  refine X.drawM 10 rfl (by kernel_rfl) rfl ?_
  refine QD.u (LU.loadO 2 rfl ⟨Try.sizeOf51, Try.isAgg51⟩ Is.rfl' (Part.one rfl)) rfl ?_
  refine QD.u (LU.nilCheck Is.rfl') rfl ?_
  refine QD.u (LU.fieldO Try.underlying77 rfl Try.sizeOf30 (by decide) Is.rfl') rfl ?_
  refine QD.u (LU.loadO 0 rfl ⟨Try.sizeOf30, Try.isAgg30⟩ Is.rfl' (Part.one rfl)) rfl ?_
  refine QD.u (LU.loadO 2 rfl ⟨Try.sizeOf51, Try.isAgg51⟩ Is.rfl' (Part.one rfl)) rfl ?_
  refine QD.u (LU.nilCheck Is.rfl') rfl ?_
  refine QD.u (LU.fieldO Try.underlying77 rfl Try.sizeOf24 (by decide) Is.rfl') rfl ?_
  refine QD.u (LU.loadO 0 rfl ⟨Try.sizeOf24, Try.isAgg24⟩ Is.rfl' (Part.one rfl)) rfl ?_
  refine QD.u (LU.at Try.underlying24 ⟨Try.sizeOf3, Try.isAgg3⟩ Is.rfl' Is.rfl' (by omega) (ints_at hx) (by simp)) rfl ?_
  refine QD.u (LU.load ⟨Try.sizeOf3, Try.isAgg3⟩ Is.rfl' (by (simp; done)) (Part.one rfl)) rfl ?_
  refine QD.nil ?_
  refine X.act (X.callF (hh) Is.rfl' rfl (HSub.refl _) (Opds.cons Is.rfl' Opds.nil) ?_)
  rintro r H' ⟨rfl, rfl⟩
  refine X.u (LU.assignR Is.rfl') rfl ?_
  refine LL.nil (after_code ?_)
  refine LW.seq ?_
  refine LW.region ?_
  refine X.u (LU.loadO 2 rfl ⟨Try.sizeOf51, Try.isAgg51⟩ Is.rfl' (Part.one rfl)) rfl ?_
  refine X.u (LU.moveR Is.rfl') rfl ?_
  refine X.act (X.call (end_calls g ws es (.func (.func ff) first caps) b o c p2 q2 r2 0 x why hx hw he) Try.func64 rfl rfl rfl (by (refine HSub.pick 0 rfl ?_); (refine HSub.pick 2 rfl ?_); (refine HSub.pick 2 rfl ?_); exact HSub.refl _) (Opds.cons Is.rfl' (Opds.cons Is.rfl' (Opds.cons Is.rfl' Opds.nil))) ?_)
  rintro r H' ⟨b', o', c', b2', o2', c2', rfl, rfl⟩
  refine X.act (X.store 3 rfl Try.sizeOf58 Is.rfl' Is.rfl' (by exact Cells.agg) (by (simp; done)) (by exact Nat.le_of_ble_eq_true rfl) ?_)
  refine X.u (LU.assignR Is.rfl') rfl ?_
  refine LL.nil (after_code ?_)
  refine LW.ret (after_end ?_)
  refine X.retC (R2 := .cells b4 58 (edL (x, outE why, why)) :: .tail b' o' c' :: .tail b2' o2' c2' :: Rf) (H' := [qa g (ws.eraseIdx 0) (es ++ [(x, outE why, why)]) .nilFunc b' o' c' b2' o2' c2', .tail b' o' c', .tail b2' o2' c2']) (undo_def b2 g (ws.eraseIdx 0) (es ++ [(x, outE why, why)]) (.func (.func ff) first caps) b' o' c' b2' o2' c2') (by repeat (first | exact HSub.refl _ | refine HSub.pick 1 rfl ?_ | refine HSub.pick 4 rfl ?_)) (by exact Res.cell2 2 rfl rfl ⟨Try.sizeOf58, Try.isAgg58⟩ (Part.whole (by rfl)) (by exact IsA rfl) (by exact IsR rfl)) (by repeat (first | exact HSub.refl _ | refine HSub.pick 1 rfl ?_ | refine HSub.pick 2 rfl ?_ | refine HSub.drop ?_)) Try.func63 ?_
  exact ⟨b', o', c', b2', o2', c2', rfl, rfl⟩
end Go.Proofs.Ytpimalihpnfdkaa
