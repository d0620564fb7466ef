/- The merge queue: Step whose try looks at one thing of its own; Drop, Ended. -/
import Derived.Test.YtpimalihpnfdkaaQuF
set_option linter.unusedVariables false
set_option linter.unusedSimpArgs false
namespace Go.Proofs.Ytpimalihpnfdkaa
open Go.RowKit Go.L
attribute [local irreducible] LL LW LO
set_option maxHeartbeats 1000000 in
set_option maxRecDepth 100000 in
theorem stepH_calls (h : Atom) (g : Nat) (ws : List Int) (es : List Ed) (b o c p2 q2 r2 : Nat) (tv : Value) (x why : Int) (hx : ws[0]? = some x) (hw : ws.length ≤ 1000) (he : es.length ≤ 3000000000000) (hh : FnCalls Try.prog tv [i64 x] [h] (fun r H' => r = i64 why ∧ H' = [h])) : LCalls Try.prog 33 [pt g, .raw tv] [qa g ws es .nilFunc b o c p2 q2 r2, .tail b o c, .tail p2 q2 r2, h] (fun r H' => ∃ b' o' c' b2' o2' c2', r = .tup [.agg (edL (x, outE why, why)), i64 0] ∧ H' = [qa g (ws.eraseIdx 0) (es ++ [(x, outE why, why)]) .nilFunc b' o' c' b2' o2' c2', .tail b' o' c', .tail b2' o2' c2', h]) := by
  have h0 := (List.getElem?_eq_some_iff.1 hx).1
  obtain ⟨ff, fn, first, caps, rfl, _⟩ := id hh
  refine LCalls.of Try.func33 rfl Try.ntmps33 Try.results33 rfl (fun Rf => ?_)
  refine LW.seq ?_
  refine LW.region ?_
  refine X.act (X.box rfl Is.rfl' (by exact Cells.raw rfl) (fun b2 => ?_))
  refine X.act (X.alloc rfl Try.zeroValue58 (by exact Cells.rawagg (by decide)) (fun b4 => ?_))
  refine X.u (LU.assignR Is.rfl') rfl ?_
  refine LL.nil (after_code ?_)
  refine LW.seq ?_
  refine LW.block ?_
  refine LW.seq ?_
  refine LW.region ?_
  refine X.u (LU.loadO 1 rfl ⟨Try.sizeOf51, Try.isAgg51⟩ Is.rfl' (Part.one rfl)) rfl ?_
  refine X.u (LU.call1 2 rfl (none_calls21 g ws es .nilFunc b o c p2 q2 r2) Try.func57 rfl rfl (Opds.cons Is.rfl' Opds.nil)) rfl ?_
  refine X.u (LU.assignR Is.rfl') rfl ?_
  refine LL.nil (after_code ?_)
  refine X.condF rfl ?_ ?_
  · rfl
  refine LW.seq ?_
  refine LW.region ?_
  refine X.u (LU.moveR Is.rfl') rfl ?_
  refine X.u (LU.nilFEqS Try.underlying30 Is.rfl' Is.rfl') rfl ?_
  refine X.u (LU.assignR Is.rfl') rfl ?_
  refine LL.nil (after_code ?_)
  refine X.condF rfl ?_ ?_
  · rfl
  refine LW.seq ?_
  refine LW.region ?_
  refine X.u (LU.loadO 1 rfl ⟨Try.sizeOf51, Try.isAgg51⟩ Is.rfl' (Part.one rfl)) rfl ?_
  refine X.u (LU.nilCheck Is.rfl') rfl ?_
  refine X.u (LU.fieldO Try.underlying77 rfl Try.sizeOf30 (by decide) Is.rfl') rfl ?_
  refine X.u (LU.loadO 2 rfl ⟨Try.sizeOf30, Try.isAgg30⟩ Is.rfl' (Part.one rfl)) rfl ?_
  refine X.u (LU.nilFNeN Try.underlying30 Is.rfl' Is.rfl') rfl ?_
  refine X.u (LU.assignR Is.rfl') rfl ?_
  refine LL.nil (after_code ?_)
  refine X.condF rfl ?_ ?_
  · rfl
  refine LW.seq ?_
  refine LW.region ?_
  refine X.u (LU.loadO 1 rfl ⟨Try.sizeOf51, Try.isAgg51⟩ Is.rfl' (Part.one rfl)) rfl ?_
  refine X.u (LU.nilCheck Is.rfl') rfl ?_
  refine X.u (LU.fieldO Try.underlying77 rfl Try.sizeOf24 (by decide) Is.rfl') rfl ?_
  refine X.u (LU.loadO 2 rfl ⟨Try.sizeOf24, Try.isAgg24⟩ Is.rfl' (Part.one rfl)) rfl ?_
  refine X.u (LU.lenN Try.underlying24 Is.rfl' (by (simp only [Option.getD_some, Option.getD_none, byteEls_length, intEls_length, List.length_append, List.length_cons, List.length_nil, List.length_map, List.length_drop, List.length_take, Int.toNat_natCast]; rfl))) rfl ?_
  refine X.u (LU.weak (LU.eql Is.rfl' Is.rfl') (asB (c := false) rfl (by exact decide_eq_false (by omega)))) rfl ?_
  refine X.u (LU.assignR Is.rfl') rfl ?_
  refine LL.nil (after_code ?_)
  refine X.condF rfl ?_ ?_
  · rfl
  refine LW.skip (after_blk (after_code ?_))
  refine LW.seq ?_
  refine LW.region ?_
  refine X.u (LU.loadO 1 rfl ⟨Try.sizeOf51, Try.isAgg51⟩ Is.rfl' (Part.one rfl)) rfl ?_
  refine X.u (LU.moveR Is.rfl') rfl ?_
  refine X.u (LU.nilCheck Is.rfl') rfl ?_
  refine X.u (LU.fieldO Try.underlying77 rfl Try.sizeOf30 (by decide) Is.rfl') rfl ?_
  refine X.act (X.store 2 rfl Try.sizeOf30 Is.rfl' Is.rfl' (by exact Cells.raw rfl) (by (simp; done)) (by (simp; done)) ?_)
  refine LL.nil (after_code ?_)
  refine LW.seq ?_
  refine X.wcells (ys := [Ints ws (.tok b o c), .sl 3 (eds es) (.tok p2 q2 r2), .raw (.func (.func ff) first caps), bl true]) rfl ?_
  refine LW.deferC rfl Is.rfl' (after_code ?_)
  refine LW.seq ?_
  refine X.drawM 10 rfl (by kernel_rfl) rfl ?_
  refine QD.u (LU.loadO 2 rfl ⟨Try.sizeOf51, Try.isAgg51⟩ Is.rfl' (Part.one rfl)) rfl ?_
  refine QD.u (LU.nilCheck Is.rfl') rfl ?_
  refine QD.u (LU.fieldO Try.underlying77 rfl Try.sizeOf30 (by decide) Is.rfl') rfl ?_
  refine QD.u (LU.loadO 0 rfl ⟨Try.sizeOf30, Try.isAgg30⟩ Is.rfl' (Part.one rfl)) rfl ?_
  refine QD.u (LU.loadO 2 rfl ⟨Try.sizeOf51, Try.isAgg51⟩ Is.rfl' (Part.one rfl)) rfl ?_
  refine QD.u (LU.nilCheck Is.rfl') rfl ?_
  refine QD.u (LU.fieldO Try.underlying77 rfl Try.sizeOf24 (by decide) Is.rfl') rfl ?_
  refine QD.u (LU.loadO 0 rfl ⟨Try.sizeOf24, Try.isAgg24⟩ Is.rfl' (Part.one rfl)) rfl ?_
  refine QD.u (LU.at Try.underlying24 ⟨Try.sizeOf3, Try.isAgg3⟩ Is.rfl' Is.rfl' (by omega) (ints_at hx) (by simp)) rfl ?_
  refine QD.u (LU.load ⟨Try.sizeOf3, Try.isAgg3⟩ Is.rfl' (by (simp; done)) (Part.one rfl)) rfl ?_
  refine QD.nil ?_
  refine X.act (X.callF (hh) Is.rfl' rfl (by (refine HSub.pick 5 rfl ?_); exact HSub.refl _) (Opds.cons Is.rfl' Opds.nil) ?_)
  rintro r H' ⟨rfl, rfl⟩
  refine X.u (LU.assignR Is.rfl') rfl ?_
  refine LL.nil (after_code ?_)
  refine LW.seq ?_
  refine LW.region ?_
  refine X.u (LU.loadO 3 rfl ⟨Try.sizeOf51, Try.isAgg51⟩ Is.rfl' (Part.one rfl)) rfl ?_
  refine X.u (LU.moveR Is.rfl') rfl ?_
  refine X.act (X.call (end_calls g ws es (.func (.func ff) first caps) b o c p2 q2 r2 0 x why hx hw he) Try.func64 rfl rfl rfl (by (refine HSub.pick 1 rfl ?_); (refine HSub.pick 3 rfl ?_); (refine HSub.pick 3 rfl ?_); exact HSub.refl _) (Opds.cons Is.rfl' (Opds.cons Is.rfl' (Opds.cons Is.rfl' Opds.nil))) ?_)
  rintro r H' ⟨b', o', c', b2', o2', c2', rfl, rfl⟩
  refine X.act (X.store 4 rfl Try.sizeOf58 Is.rfl' Is.rfl' (by exact Cells.agg) (by (simp; done)) (by exact Nat.le_of_ble_eq_true rfl) ?_)
  refine X.u (LU.assignR Is.rfl') rfl ?_
  refine LL.nil (after_code ?_)
  refine LW.ret (after_end ?_)
  refine X.retC (R2 := .cells b4 58 (edL (x, outE why, why)) :: .tail b' o' c' :: .tail b2' o2' c2' :: h :: Rf) (H' := [qa g (ws.eraseIdx 0) (es ++ [(x, outE why, why)]) .nilFunc b' o' c' b2' o2' c2', .tail b' o' c', .tail b2' o2' c2', h]) (undo_def b2 g (ws.eraseIdx 0) (es ++ [(x, outE why, why)]) (.func (.func ff) first caps) b' o' c' b2' o2' c2') (by repeat (first | exact HSub.refl _ | refine HSub.pick 1 rfl ?_ | refine HSub.pick 5 rfl ?_)) (by exact Res.cell2 2 rfl rfl ⟨Try.sizeOf58, Try.isAgg58⟩ (Part.whole (by rfl)) (by exact IsA rfl) (by exact IsR rfl)) (by repeat (first | exact HSub.refl _ | refine HSub.pick 1 rfl ?_ | refine HSub.pick 2 rfl ?_ | refine HSub.drop ?_)) Try.func63 ?_
  exact ⟨b', o', c', b2', o2', c2', rfl, rfl⟩
theorem idx_spec {l : List Int} {v : Int} (h : 0 ≤ idx l v) : ∃ i : Nat, idx l v = i ∧ l[i]? = some v := by
  unfold idx at h ⊢
  cases hf : (List.range l.length).find? (fun i => decide (v = l.getD i 0)) with
  | none => rw [hf] at h; exact absurd h (by decide)
  | some i =>
    obtain ⟨h1, h2, _⟩ := List.find?_range_eq_some.1 hf
    have hi := List.mem_range.1 h2
    refine ⟨i, rfl, ?_⟩
    have h3 := of_decide_eq_true h1
    rw [List.getElem?_eq_getElem hi, h3, List.getD_eq_getElem?_getD, List.getElem?_eq_getElem hi]; rfl
def dropP (ws : List Int) (id : Int) : Nat := if idx ws id < 0 then 111 else 0
def dropW (ws : List Int) (id : Int) : List Int := if idx ws id < 0 then ws else ws.eraseIdx (idx ws id).toNat
def dropE (ws : List Int) (es : List Ed) (id : Int) : List Ed := if idx ws id < 0 then es else es ++ [(id, 2, 201)]
set_option maxRecDepth 100000 in
theorem drop_calls (g : Nat) (ws : List Int) (es : List Ed) (b o c p q r : Nat) (id : Int) (hw : ws.length ≤ 1000) (he : es.length ≤ 3000000000000) : LCalls Try.prog 36 [pt g, i64 id] [qa g ws es .nilFunc b o c p q r, .tail b o c, .tail p q r] (fun v H' => ∃ b' o' c' p' q' r', v = i64 (dropP ws id) ∧ H' = [qa g (dropW ws id) (dropE ws es id) .nilFunc b' o' c' p' q' r', .tail b' o' c', .tail p' q' r']) := by
  refine LCalls.of Try.func36 rfl Try.ntmps36 Try.results36 rfl (fun Rf => ?_)
  refine LW.seq ?_
  refine LW.region ?_
  refine X.u (LU.assignR Is.rfl') rfl ?_
  refine LL.nil (after_code ?_)
  refine LW.seq ?_
  refine LW.seq ?_
  refine LW.region ?_
  refine X.u (LU.moveR Is.rfl') rfl ?_
  refine X.u (LU.call1 0 rfl (none_calls21 g ws es .nilFunc b o c p q r) Try.func57 rfl rfl (Opds.cons Is.rfl' Opds.nil)) rfl ?_
  refine LL.nil (after_code ?_)
  refine X.condF rfl ?_ ?_
  · rfl
  refine LW.skip (after_code ?_)
  refine LW.seq ?_
  refine LW.region ?_
  refine X.u (LU.moveR Is.rfl') rfl ?_
  refine X.u (LU.nilCheck Is.rfl') rfl ?_
  refine X.u (LU.fieldO Try.underlying77 rfl Try.sizeOf24 (by decide) Is.rfl') rfl ?_
  refine X.u (LU.loadO 0 rfl ⟨Try.sizeOf24, Try.isAgg24⟩ Is.rfl' (Part.one rfl)) rfl ?_
  refine X.u (LU.moveR Is.rfl') rfl ?_
  refine X.u (LU.call (index_calls ws (.tok b o c) id (by omega)) Try.func62 rfl rfl (Opds.cons Is.rfl' (Opds.cons Is.rfl' Opds.nil))) rfl ?_
  refine X.u (LU.assignR Is.rfl') rfl ?_
  refine LL.nil (after_code ?_)
  refine LW.seq ?_
  refine LW.block ?_
  refine LW.seq ?_
  refine LW.region ?_
  refine X.u (LU.moveR Is.rfl') rfl ?_
  refine X.u (LU.lss Is.rfl' Is.rfl') rfl ?_
  refine X.u (LU.assignR Is.rfl') rfl ?_
  refine LL.nil (after_code ?_)
  refine X.cond rfl (fun h4 => ?_) (fun h4 => ?_)
  · try have h4 := of_decide_eq_true h4
    refine LW.seq ?_
    refine LW.region ?_
    refine X.u (LU.assignR Is.rfl') rfl ?_
    refine LL.nil (after_code ?_)
    refine LW.ret (ret_blk (ret_code (after_end ?_)))
    refine X.ret (H' := [qa g ws es .nilFunc b o c p q r, .tail b o c, .tail p q r]) (Res.one (by exact IsR rfl)) (by repeat (exact HSub.refl _)) ?_
    exact ⟨b, o, c, p, q, r, by unfold dropP; rw [if_pos h4]; rfl, by unfold dropW dropE; rw [if_pos h4, if_pos h4]⟩
  · have h4 : ¬ idx ws id < 0 := by simpa using h4
    obtain ⟨i, hi, hx⟩ := idx_spec (l := ws) (v := id) (by omega)
    have hP : dropP ws id = 0 := by unfold dropP; rw [if_neg h4]
    have hW : dropW ws id = ws.eraseIdx i := by unfold dropW; rw [if_neg h4, hi, Int.toNat_natCast]
    have hE : dropE ws es id = es ++ [(id, outE 201, 201)] := by unfold dropE; rw [if_neg h4]; rfl
    rw [hi]
    refine LW.seq ?_
    refine LW.region ?_
    refine X.u (LU.moveR Is.rfl') rfl ?_
    refine X.u (LU.eql Is.rfl' Is.rfl') rfl ?_
    refine X.u (LU.moveR Is.rfl') rfl ?_
    refine X.gT rfl rfl (fun hg => LU.moveR (by exact Is.rfl')) rfl ?_
    refine X.gT rfl rfl (fun hg => LU.nilCheck (by exact Is.whenE hg)) rfl ?_
    refine X.gT rfl rfl (fun hg => LU.fieldO Try.underlying77 rfl Try.sizeOf30 (by decide) (by exact Is.whenE hg)) rfl ?_
    refine X.gT rfl rfl (fun hg => LU.loadO 0 rfl ⟨Try.sizeOf30, Try.isAgg30⟩ (by exact Is.whenE hg) (Part.one rfl)) rfl ?_
    refine X.gT rfl rfl (fun hg => LU.nilFNeN Try.underlying30 (by exact Is.whenE hg) (by exact Is.rfl')) rfl ?_
    refine X.u (LU.weak (LU.pickAnd Is.rfl' (fun hq => (by exact Is.whenE hq)) Is.rfl') (asB (c := false) rfl (by simp))) rfl ?_
    refine X.u (LU.assignR Is.rfl') rfl ?_
    refine LL.nil (after_code ?_)
    refine X.condF rfl ?_ ?_
    · rfl
    refine LW.skip (after_blk (after_code ?_))
    refine LW.seq ?_
    refine LW.region ?_
    refine X.u (LU.moveR Is.rfl') rfl ?_
    refine X.u (LU.moveR Is.rfl') rfl ?_
    refine X.act (X.call (end_calls g ws es .nilFunc b o c p q r i id 201 hx hw he) Try.func64 rfl rfl rfl (by (refine HSub.pick 0 rfl ?_); (refine HSub.pick 0 rfl ?_); (refine HSub.pick 0 rfl ?_); exact HSub.refl _) (Opds.cons Is.rfl' (Opds.cons Is.rfl' (Opds.cons Is.rfl' Opds.nil))) ?_)
    rintro r H' ⟨b', o', c', p', q', r', rfl, rfl⟩
    refine LL.nil (after_code ?_)
    refine LW.seq ?_
    refine LW.region ?_
    refine X.u (LU.assignR Is.rfl') rfl ?_
    refine LL.nil (after_code ?_)
    refine LW.ret (after_end ?_)
    refine X.ret (H' := [qa g (ws.eraseIdx i) (es ++ [(id, outE 201, 201)]) .nilFunc b' o' c' p' q' r', .tail b' o' c', .tail p' q' r']) (Res.one (by exact IsR rfl)) (by repeat (exact HSub.refl _)) ?_
    exact ⟨b', o', c', p', q', r', by rw [hP]; rfl, by rw [hW, hE]⟩
set_option maxRecDepth 100000 in
theorem clonee_calls (l : List Ed) (k : Cap) (hl : l.length < 3000000000001) : LCalls Try.prog 60 [.sl 3 (eds l) k] [] (fun r H' => r = .sl 3 (eds l) .unk ∧ H' = []) := by
  have hsz := eds_size l
  refine LCalls.of Try.func60 rfl Try.ntmps60 Try.results60 rfl (fun Rf => ?_)
  refine LW.seq ?_
  refine LW.region ?_
  refine X.u (LU.assign (Is.nil 3)) rfl ?_
  refine LL.nil (after_code ?_)
  refine LW.seq ?_
  refine LW.seq ?_
  refine LW.region ?_
  refine X.u (LU.moveS Is.rfl') rfl ?_
  refine X.act (LO.nilSl (st := ⟨_, _, _⟩) rfl Try.underlying54 Is.rfl' Is.rfl' (fun bb hbb => ?_))
  refine LL.nil (after_code ?_)
  refine X.cond rfl (fun h1 => ?_) (fun h1 => ?_)
  · try have h1 := of_decide_eq_true h1
    refine LW.seq ?_
    refine LW.region ?_
    refine X.u (LU.assign (Is.nil 3)) rfl ?_
    refine LL.nil (after_code ?_)
    refine LW.ret (ret_code (after_end ?_))
    refine X.ret (H' := []) (Res.one (by exact IsS rfl)) (by repeat (exact HSub.refl _)) ?_
    exact ⟨by rw [hbb h1], rfl⟩
  · try have h1 := of_decide_eq_false h1
    refine LW.skip (after_code ?_)
    refine LW.seq ?_
    refine LW.region ?_
    refine X.u (LU.lits Try.underlying54 Try.sizeOf58 Try.zeroValue58 (ones rfl) rfl (by decide) (by decide) Elems.nil (by intro e he; cases he) rfl) rfl ?_
    refine X.u (LU.moveS Is.rfl') rfl ?_
    refine X.u (LU.weak (LU.append Try.underlying54 (El.of (P := Try.prog) (z := (.agg #[(.int .i64 0), (.int .i64 0), (.int .i64 0)])) (size := 3) (bytes := 24) rfl rfl rfl) Is.rfl' Is.rfl' (SrcL.slice Try.underlying54 (by decide) hsz) (by simp only [Option.getD_some, Option.getD_none, byteEls_length, intEls_length, List.length_append, List.length_cons, List.length_nil, List.length_map, List.length_drop, List.length_take, Int.toNat_natCast]; omega) (by simp only [Option.getD_some, Option.getD_none, byteEls_length, intEls_length, List.length_append, List.length_cons, List.length_nil, List.length_map, List.length_drop, List.length_take, Int.toNat_natCast]; omega)) (Is.of (y := .sl 3 (eds l) .unk) (rfl))) rfl ?_
    refine X.u (LU.assignS Is.rfl') rfl ?_
    refine LL.nil (after_code ?_)
    refine LW.ret (after_end ?_)
    refine X.ret (H' := []) (Res.one (by exact IsS rfl)) (by repeat (exact HSub.refl _)) ?_
    exact ⟨rfl, rfl⟩
set_option maxRecDepth 100000 in
theorem ended_calls (g : Nat) (ws : List Int) (es : List Ed) (tv : Value) (b o c p q r : Nat) (he : es.length ≤ 3000000000000) : LCalls Try.prog 30 [pt g] [qa g ws es tv b o c p q r] (fun v H' => v = .sl 3 (eds es) .unk ∧ H' = [qa g ws es tv b o c p q r]) := by
  refine LCalls.of Try.func30 rfl Try.ntmps30 Try.results30 rfl (fun Rf => ?_)
  refine LW.seq ?_
  refine LW.region ?_
  refine X.u (LU.assign (Is.nil 3)) rfl ?_
  refine LL.nil (after_code ?_)
  refine LW.seq ?_
  refine LW.seq ?_
  refine LW.region ?_
  refine X.u (LU.moveR Is.rfl') rfl ?_
  refine X.u (LU.call1 0 rfl (none_calls21 g ws es tv b o c p q r) Try.func57 rfl rfl (Opds.cons Is.rfl' Opds.nil)) rfl ?_
  refine LL.nil (after_code ?_)
  refine X.condF rfl ?_ ?_
  · rfl
  refine LW.skip (after_code ?_)
  refine LW.seq ?_
  refine LW.region ?_
  refine X.u (LU.moveR Is.rfl') rfl ?_
  refine X.u (LU.nilCheck Is.rfl') rfl ?_
  refine X.u (LU.fieldO Try.underlying77 rfl Try.sizeOf54 (by decide) Is.rfl') rfl ?_
  refine X.u (LU.loadO 0 rfl ⟨Try.sizeOf54, Try.isAgg54⟩ Is.rfl' (Part.one rfl)) rfl ?_
  refine X.u (LU.call (clonee_calls es (.tok p q r) (by omega)) Try.func60 rfl rfl (Opds.cons Is.rfl' Opds.nil)) rfl ?_
  refine X.u (LU.assignS Is.rfl') rfl ?_
  refine LL.nil (after_code ?_)
  refine LW.ret (after_end ?_)
  refine X.ret (H' := [qa g ws es tv b o c p q r]) (Res.one (by exact IsS rfl)) (by repeat (exact HSub.refl _)) ?_
  exact ⟨rfl, rfl⟩
end Go.Proofs.Ytpimalihpnfdkaa
