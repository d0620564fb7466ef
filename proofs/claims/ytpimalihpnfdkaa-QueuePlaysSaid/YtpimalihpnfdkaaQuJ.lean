/- A try that notes what is tried. -/
import Derived.Test.YtpimalihpnfdkaaQuI
import Derived.Test.YtpimalihpnfdkaaLogFm
set_option linter.unusedVariables false
set_option linter.unusedSimpArgs false
namespace Go.Proofs.Ytpimalihpnfdkaa
open Go.RowKit Go.L
attribute [local irreducible] LL LW LO
/-- An act. -/
structure AcQ where
  k : Int
  id : Int
  an : Int
  l : List Int
abbrev aqL (a : AcQ) : List LV := [i64 a.k, i64 a.id, i64 a.an, Ints a.l .unk]
abbrev aqs (l : List AcQ) : List (List LV) := l.map aqL
def AqOk (a : AcQ) : Prop := a.l.length ≤ 140737488355328
theorem aqs_at {l : List AcQ} {i : Nat} {x : AcQ} (h : l[i]? = some x) : (aqs l)[(i : Int).toNat]? = some (aqL x) := by
  rw [Int.toNat_natCast, List.getElem?_map, h]; rfl
set_option maxRecDepth 100000 in
theorem few21_calls (l : List AcQ) (k : Cap) (hl : l.length < 140737488355328) (hok : ∀ a ∈ l, AqOk a) : LCalls Try.prog 35 [.sl 4 (aqs l) k] [] (fun r H' => ∃ fb, r = bl fb ∧ H' = []) := by
  refine LCalls.of Try.func35 rfl Try.ntmps35 Try.results35 rfl (fun Rf => ?_)
  refine LW.seq ?_
  refine LW.region ?_
  refine X.u (LU.assignR Is.rfl') rfl ?_
  refine LL.nil (after_code ?_)
  refine LW.seq ?_
  refine LW.region ?_
  refine X.u (LU.assignR Is.rfl') rfl ?_
  refine LL.nil (after_code ?_)
  refine LW.seq ?_
  refine LW.seq ?_
  refine LW.region ?_
  refine X.u (LU.moveS Is.rfl') rfl ?_
  refine X.u (LU.lenN Try.underlying62 Is.rfl' (by (simp only [Option.getD_some, Option.getD_none, byteEls_length, intEls_length, List.length_append, List.length_cons, List.length_nil, List.length_map, List.length_drop, List.length_take, Int.toNat_natCast]; rfl))) rfl ?_
  refine X.u (LU.moveR Is.rfl') rfl ?_
  refine LL.nil (after_code ?_)
  refine LW.block ?_
  refine X.loopK (α := Nat × Int) (fun ⟨i, n⟩ => [(8, i64 i), (3, i64 n)]) [2, 6, 7] (fun ⟨i, n⟩ => Rf) (fun ⟨i, n⟩ => i ≤ l.length) (fun ⟨i, n⟩ => l.length - i) ((0, 0)) (EnvLe.cons (by rfl) (EnvLe.cons (by rfl) (EnvLe.nil))) (by repeat (exact HSub.refl _)) ?_ ?_
  · exact Nat.zero_le _
  · rintro ⟨i, n⟩ hI
    refine LW.seq ?_
    refine LW.region ?_
    refine X.u (LU.lss Is.rfl' Is.rfl') rfl ?_
    refine LL.nil (after_code ?_)
    refine LW.seq ?_
    refine X.cond rfl (fun h3 => ?_) (fun h3 => ?_)
    · try have h3 := of_decide_eq_true h3
      refine LW.skip (after_code ?_)
      refine LW.seq ?_
      refine LW.block ?_
      refine LW.seq ?_
      obtain ⟨x, hx⟩ := at_lt (show i < l.length by omega)
      have hxo : x.l.length ≤ 140737488355328 := hok x (List.mem_of_getElem? hx)
      refine LW.region ?_
      refine X.u (LU.at Try.underlying62 ⟨Try.sizeOf65, Try.isAgg65⟩ Is.rfl' Is.rfl' (by omega) (aqs_at hx) (by simp)) rfl ?_
      refine X.u (LU.load ⟨Try.sizeOf65, Try.isAgg65⟩ Is.rfl' (by (simp; done)) (Part.whole (by (simp; done)))) rfl ?_
      refine X.act (X.alloc rfl Try.zeroValue65 (by exact Cells.rawagg (by decide)) (fun b5 => ?_))
      refine X.act (X.store 0 rfl Try.sizeOf65 Is.rfl' Is.rfl' (by exact Cells.agg) (by (simp; done)) (by exact Nat.le_of_ble_eq_true rfl) ?_)
      refine LL.nil (after_code ?_)
      refine X.wcells (ys := aqL x) rfl ?_
      refine LW.region ?_
      refine X.u (LU.moveR Is.rfl') rfl ?_
      refine X.u (LU.fieldO Try.underlying65 rfl Try.sizeOf24 (by decide) Is.rfl') rfl ?_
      refine X.u (LU.loadO 0 rfl ⟨Try.sizeOf24, Try.isAgg24⟩ Is.rfl' (Part.one rfl)) rfl ?_
      refine X.u (LU.lenN Try.underlying24 Is.rfl' (by (simp only [Option.getD_some, Option.getD_none, byteEls_length, intEls_length, List.length_append, List.length_cons, List.length_nil, List.length_map, List.length_drop, List.length_take, Int.toNat_natCast]; rfl))) rfl ?_
      refine X.u (LU.addN Is.rfl' Is.rfl' (wrap_i64 (by omega) (by omega))) rfl ?_
      refine X.u (LU.add Is.rfl' Is.rfl') rfl ?_
      refine X.u (LU.assignR Is.rfl') rfl ?_
      refine LL.nil (after_blk (after_code ?_))
      refine LW.region ?_
      refine X.u (LU.addN Is.rfl' Is.rfl' (wrap_i64 (by omega) (by omega))) rfl ?_
      refine X.u (LU.moveR Is.rfl') rfl ?_
      refine LL.nil (after_rnd ?_)
      refine X.next ((i + 1, IntKind.i64.wrap (n + (1 + (x.l.length : Int))))) rfl (EnvLe.cons (by rfl) (EnvLe.cons (by rfl) (EnvLe.nil))) (Keeps.cons (by exact Eq.trans (b := .raw _) rfl rfl) (Keeps.cons (by exact Eq.trans (b := .sl _ _ _) rfl rfl) (Keeps.cons (by exact Eq.trans (b := .raw _) rfl rfl) (Keeps.nil)))) (by repeat (first | exact HSub.refl _ | refine HSub.drop ?_)) ?_ ?_
      · omega
      · (simp; omega)
    · try have h3 := of_decide_eq_false h3
      refine LW.exit (exit_code (exit_rnd (exit_blk (after_code ?_))))
      refine LW.seq ?_
      refine LW.region ?_
      refine X.u (LU.moveR Is.rfl') rfl ?_
      refine X.u (LU.leq Is.rfl' Is.rfl') rfl ?_
      refine X.u (LU.assignR Is.rfl') rfl ?_
      refine LL.nil (after_code ?_)
      refine LW.ret (after_end ?_)
      refine X.ret (H' := []) (Res.one (by exact IsR rfl)) (by repeat (exact HSub.refl _)) ?_
      exact ⟨_, rfl, rfl⟩
set_option maxHeartbeats 1000000 in
set_option maxRecDepth 100000 in
/-- A Step whose try may do what it likes with the queue itself (as long as the one that is tried still waits first) and with other things. -/
theorem stepG_calls {Post : Int → List Int → List Ed → List Atom → Prop} (Ht : List Atom) (g : Nat) (ws : List Int) (es : List Ed) (b o c p2 q2 r2 : Nat) (ff : FuncId) (first caps : Array Value) (x : Int) (hx : ws[0]? = some x) (hw : ws.length ≤ 1000) (hh : FnCalls Try.prog (.func (.func ff) first caps) [i64 x] (qa g ws es (.func (.func ff) first caps) b o c p2 q2 r2 :: .tail b o c :: .tail p2 q2 r2 :: Ht) (fun v H' => ∃ why ws' es' b' o' c' p' q' r' Ht', v = i64 why ∧ H' = qa g ws' es' (.func (.func ff) first caps) b' o' c' p' q' r' :: .tail b' o' c' :: .tail p' q' r' :: Ht' ∧ ws'[0]? = some x ∧ ws'.length ≤ 1000 ∧ es'.length ≤ 3000000000000 ∧ Post why ws' es' Ht')) : LCalls Try.prog 33 [pt g, .raw (.func (.func ff) first caps)] (qa g ws es .nilFunc b o c p2 q2 r2 :: .tail b o c :: .tail p2 q2 r2 :: Ht) (fun v H' => ∃ why ws' es' b' o' c' p' q' r' Ht', v = .tup [.agg (edL (x, outE why, why)), i64 0] ∧ H' = qa g (ws'.eraseIdx 0) (es' ++ [(x, outE why, why)]) .nilFunc b' o' c' p' q' r' :: .tail b' o' c' :: .tail p' q' r' :: Ht' ∧ Post why ws' es' Ht') := by
  have h0 := (List.getElem?_eq_some_iff.1 hx).1
  refine LCalls.of Try.func33 rfl Try.ntmps33 Try.results33 rfl (fun Rf => ?_)
  refine X.wghost (H' := qa g ws es .nilFunc b o c p2 q2 r2 :: .tail b o c :: .tail p2 q2 r2 :: (Ht ++ Rf)) (HSub.refl _) ?_
  refine LW.seq ?_
  refine LW.region ?_
  refine X.act (X.box rfl Is.rfl' (by exact Cells.raw rfl) (fun b2 => ?_))
  refine X.act (X.alloc rfl Try.zeroValue58 (by exact Cells.rawagg (by decide)) (fun b4 => ?_))
  refine X.u (LU.assignR Is.rfl') rfl ?_
  refine LL.nil (after_code ?_)
  refine LW.seq ?_
  refine LW.block ?_
  refine LW.seq ?_
  refine LW.region ?_
  refine X.u (LU.loadO 1 rfl ⟨Try.sizeOf51, Try.isAgg51⟩ Is.rfl' (Part.one rfl)) rfl ?_
  refine X.u (LU.call1 2 rfl (none_calls21 g ws es .nilFunc b o c p2 q2 r2) Try.func57 rfl rfl (Opds.cons Is.rfl' Opds.nil)) rfl ?_
  refine X.u (LU.assignR Is.rfl') rfl ?_
  refine LL.nil (after_code ?_)
  refine X.condF rfl ?_ ?_
  · rfl
  refine LW.seq ?_
  refine LW.region ?_
  refine X.u (LU.moveR Is.rfl') rfl ?_
  refine X.u (LU.nilFEqS Try.underlying30 Is.rfl' Is.rfl') rfl ?_
  refine X.u (LU.assignR Is.rfl') rfl ?_
  refine LL.nil (after_code ?_)
  refine X.condF rfl ?_ ?_
  · rfl
  refine LW.seq ?_
  refine LW.region ?_
  refine X.u (LU.loadO 1 rfl ⟨Try.sizeOf51, Try.isAgg51⟩ Is.rfl' (Part.one rfl)) rfl ?_
  refine X.u (LU.nilCheck Is.rfl') rfl ?_
  refine X.u (LU.fieldO Try.underlying77 rfl Try.sizeOf30 (by decide) Is.rfl') rfl ?_
  refine X.u (LU.loadO 2 rfl ⟨Try.sizeOf30, Try.isAgg30⟩ Is.rfl' (Part.one rfl)) rfl ?_
  refine X.u (LU.nilFNeN Try.underlying30 Is.rfl' Is.rfl') rfl ?_
  refine X.u (LU.assignR Is.rfl') rfl ?_
  refine LL.nil (after_code ?_)
  refine X.condF rfl ?_ ?_
  · rfl
  refine LW.seq ?_
  refine LW.region ?_
  refine X.u (LU.loadO 1 rfl ⟨Try.sizeOf51, Try.isAgg51⟩ Is.rfl' (Part.one rfl)) rfl ?_
  refine X.u (LU.nilCheck Is.rfl') rfl ?_
  refine X.u (LU.fieldO Try.underlying77 rfl Try.sizeOf24 (by decide) Is.rfl') rfl ?_
  refine X.u (LU.loadO 2 rfl ⟨Try.sizeOf24, Try.isAgg24⟩ Is.rfl' (Part.one rfl)) rfl ?_
  refine X.u (LU.lenN Try.underlying24 Is.rfl' (by (simp only [Option.getD_some, Option.getD_none, byteEls_length, intEls_length, List.length_append, List.length_cons, List.length_nil, List.length_map, List.length_drop, List.length_take, Int.toNat_natCast]; rfl))) rfl ?_
  refine X.u (LU.weak (LU.eql Is.rfl' Is.rfl') (asB (c := false) rfl (by exact decide_eq_false (by omega)))) rfl ?_
  refine X.u (LU.assignR Is.rfl') rfl ?_
  refine LL.nil (after_code ?_)
  refine X.condF rfl ?_ ?_
  · rfl
  refine LW.skip (after_blk (after_code ?_))
  refine LW.seq ?_
  refine LW.region ?_
  refine X.u (LU.loadO 1 rfl ⟨Try.sizeOf51, Try.isAgg51⟩ Is.rfl' (Part.one rfl)) rfl ?_
  refine X.u (LU.moveR Is.rfl') rfl ?_
  refine X.u (LU.nilCheck Is.rfl') rfl ?_
  refine X.u (LU.fieldO Try.underlying77 rfl Try.sizeOf30 (by decide) Is.rfl') rfl ?_
  refine X.act (X.store 2 rfl Try.sizeOf30 Is.rfl' Is.rfl' (by exact Cells.raw rfl) (by (simp; done)) (by (simp; done)) ?_)
  refine LL.nil (after_code ?_)
  refine LW.seq ?_
  refine X.wcells (ys := [Ints ws (.tok b o c), .sl 3 (eds es) (.tok p2 q2 r2), .raw (.func (.func ff) first caps), bl true]) rfl ?_
  refine LW.deferC rfl Is.rfl' (after_code ?_)
  refine LW.seq ?_
  refine X.wghost (H' := .cells b4 58 (edL (0, 0, 0)) :: .cells b2 51 [pt g] :: ((qa g ws es (.func (.func ff) first caps) b o c p2 q2 r2 :: .tail b o c :: .tail p2 q2 r2 :: Ht) ++ Rf)) (by repeat (first | exact HSub.refl _ | refine HSub.pick 1 rfl ?_)) ?_
  refine X.drawM 10 rfl (by kernel_rfl) rfl ?_
  refine QD.u (LU.loadO 1 rfl ⟨Try.sizeOf51, Try.isAgg51⟩ Is.rfl' (Part.one rfl)) rfl ?_
  refine QD.u (LU.nilCheck Is.rfl') rfl ?_
  refine QD.u (LU.fieldO Try.underlying77 rfl Try.sizeOf30 (by decide) Is.rfl') rfl ?_
  refine QD.u (LU.loadO 2 rfl ⟨Try.sizeOf30, Try.isAgg30⟩ Is.rfl' (Part.one rfl)) rfl ?_
  refine QD.u (LU.loadO 1 rfl ⟨Try.sizeOf51, Try.isAgg51⟩ Is.rfl' (Part.one rfl)) rfl ?_
  refine QD.u (LU.nilCheck Is.rfl') rfl ?_
  refine QD.u (LU.fieldO Try.underlying77 rfl Try.sizeOf24 (by decide) Is.rfl') rfl ?_
  refine QD.u (LU.loadO 2 rfl ⟨Try.sizeOf24, Try.isAgg24⟩ Is.rfl' (Part.one rfl)) rfl ?_
  refine QD.u (LU.at Try.underlying24 ⟨Try.sizeOf3, Try.isAgg3⟩ Is.rfl' Is.rfl' (by omega) (ints_at hx) (by simp)) rfl ?_
  refine QD.u (LU.load ⟨Try.sizeOf3, Try.isAgg3⟩ Is.rfl' (by (simp; done)) (Part.one rfl)) rfl ?_
  refine QD.nil ?_
  refine X.act (X.callF (hh) Is.rfl' rfl (hsub_swap2 _ _ _ _) (Opds.cons Is.rfl' Opds.nil) ?_)
  rintro r H' ⟨why, ws', es', b', o', c', p', q', r', Ht', rfl, rfl, hx', hw', he', hpost⟩
  refine X.u (LU.assignR Is.rfl') rfl ?_
  refine LL.nil (after_code ?_)
  refine LW.seq ?_
  refine X.wghost (H' := qa g ws' es' (.func (.func ff) first caps) b' o' c' p' q' r' :: .tail b' o' c' :: .tail p' q' r' :: .cells b4 58 (edL (0, 0, 0)) :: .cells b2 51 [pt g] :: (Ht' ++ Rf)) (HSub.perm (perm_of fun x => (by simp only [List.count_append, List.count_cons, List.count_nil]; omega))) ?_
  refine LW.region ?_
  refine X.u (LU.loadO 4 rfl ⟨Try.sizeOf51, Try.isAgg51⟩ Is.rfl' (Part.one rfl)) rfl ?_
  refine X.u (LU.moveR Is.rfl') rfl ?_
  refine X.act (X.call (end_calls g ws' es' (.func (.func ff) first caps) b' o' c' p' q' r' 0 x why hx' hw' he') Try.func64 rfl rfl rfl (by (refine HSub.pick 0 rfl ?_); (refine HSub.pick 0 rfl ?_); (refine HSub.pick 0 rfl ?_); exact HSub.refl _) (Opds.cons Is.rfl' (Opds.cons Is.rfl' (Opds.cons Is.rfl' Opds.nil))) ?_)
  rintro r H' ⟨b3_, o3_, c3_, p3_, q3_, r3_, rfl, rfl⟩
  refine X.act (X.store 3 rfl Try.sizeOf58 Is.rfl' Is.rfl' (by exact Cells.agg) (by (simp; done)) (by (simp; done)) ?_)
  refine X.u (LU.assignR Is.rfl') rfl ?_
  refine LL.nil (after_code ?_)
  refine LW.ret (after_end ?_)
  refine X.retC (R2 := .cells b4 58 (edL (x, outE why, why)) :: .tail b3_ o3_ c3_ :: .tail p3_ q3_ r3_ :: (Ht' ++ Rf)) (H' := qa g (ws'.eraseIdx 0) (es' ++ [(x, outE why, why)]) .nilFunc b3_ o3_ c3_ p3_ q3_ r3_ :: .tail b3_ o3_ c3_ :: .tail p3_ q3_ r3_ :: Ht') (undo_def b2 g (ws'.eraseIdx 0) (es' ++ [(x, outE why, why)]) (.func (.func ff) first caps) b3_ o3_ c3_ p3_ q3_ r3_) (by repeat (first | exact HSub.refl _ | refine HSub.pick 1 rfl ?_ | refine HSub.pick 4 rfl ?_)) (by exact Res.cell2 2 rfl rfl ⟨Try.sizeOf58, Try.isAgg58⟩ (Part.whole (by rfl)) (by exact IsA rfl) (by exact IsR rfl)) (by repeat (first | exact HSub.refl _ | refine HSub.pick 1 rfl ?_ | refine HSub.pick 2 rfl ?_ | refine HSub.drop ?_)) Try.func63 ?_
  exact ⟨why, ws', es', b3_, o3_, c3_, p3_, q3_, r3_, Ht', rfl, rfl, hpost⟩
set_option maxRecDepth 100000 in
theorem step_empty (g : Nat) (es : List Ed) (b o c p q r : Nat) (ff : FuncId) (first caps : Array Value) : LCalls Try.prog 33 [pt g, .raw (.func (.func ff) first caps)] [qa g [] es .nilFunc b o c p q r] (fun v H' => v = .tup [.agg (edL (0, 0, 0)), i64 111] ∧ H' = [qa g [] es .nilFunc b o c p q r]) := by
  refine LCalls.of Try.func33 rfl Try.ntmps33 Try.results33 rfl (fun Rf => ?_)
  refine LW.seq ?_
  refine LW.region ?_
  refine X.act (X.box rfl Is.rfl' (by exact Cells.raw rfl) (fun b2 => ?_))
  refine X.act (X.alloc rfl Try.zeroValue58 (by exact Cells.rawagg (by decide)) (fun b4 => ?_))
  refine X.u (LU.assignR Is.rfl') rfl ?_
  refine LL.nil (after_code ?_)
  refine LW.seq ?_
  refine LW.block ?_
  refine LW.seq ?_
  refine LW.region ?_
  refine X.u (LU.loadO 1 rfl ⟨Try.sizeOf51, Try.isAgg51⟩ Is.rfl' (Part.one rfl)) rfl ?_
  refine X.u (LU.call1 2 rfl (none_calls21 g [] es .nilFunc b o c p q r) Try.func57 rfl rfl (Opds.cons Is.rfl' Opds.nil)) rfl ?_
  refine X.u (LU.assignR Is.rfl') rfl ?_
  refine LL.nil (after_code ?_)
  refine X.condF rfl ?_ ?_
  · rfl
  refine LW.seq ?_
  refine LW.region ?_
  refine X.u (LU.moveR Is.rfl') rfl ?_
  refine X.u (LU.nilFEqS Try.underlying30 Is.rfl' Is.rfl') rfl ?_
  refine X.u (LU.assignR Is.rfl') rfl ?_
  refine LL.nil (after_code ?_)
  refine X.condF rfl ?_ ?_
  · rfl
  refine LW.seq ?_
  refine LW.region ?_
  refine X.u (LU.loadO 1 rfl ⟨Try.sizeOf51, Try.isAgg51⟩ Is.rfl' (Part.one rfl)) rfl ?_
  refine X.u (LU.nilCheck Is.rfl') rfl ?_
  refine X.u (LU.fieldO Try.underlying77 rfl Try.sizeOf30 (by decide) Is.rfl') rfl ?_
  refine X.u (LU.loadO 2 rfl ⟨Try.sizeOf30, Try.isAgg30⟩ Is.rfl' (Part.one rfl)) rfl ?_
  refine X.u (LU.nilFNeN Try.underlying30 Is.rfl' Is.rfl') rfl ?_
  refine X.u (LU.assignR Is.rfl') rfl ?_
  refine LL.nil (after_code ?_)
  refine X.condF rfl ?_ ?_
  · rfl
  refine LW.seq ?_
  refine LW.region ?_
  refine X.u (LU.loadO 1 rfl ⟨Try.sizeOf51, Try.isAgg51⟩ Is.rfl' (Part.one rfl)) rfl ?_
  refine X.u (LU.nilCheck Is.rfl') rfl ?_
  refine X.u (LU.fieldO Try.underlying77 rfl Try.sizeOf24 (by decide) Is.rfl') rfl ?_
  refine X.u (LU.loadO 2 rfl ⟨Try.sizeOf24, Try.isAgg24⟩ Is.rfl' (Part.one rfl)) rfl ?_
  refine X.u (LU.lenN Try.underlying24 Is.rfl' (by (simp only [Option.getD_some, Option.getD_none, byteEls_length, intEls_length, List.length_append, List.length_cons, List.length_nil, List.length_map, List.length_drop, List.length_take, Int.toNat_natCast]; rfl))) rfl ?_
  refine X.u (LU.weak (LU.eql Is.rfl' Is.rfl') (asB (c := true) rfl (by rfl))) rfl ?_
  refine X.u (LU.assignR Is.rfl') rfl ?_
  refine LL.nil (after_code ?_)
  refine X.condT rfl ?_ ?_
  · rfl
  refine LW.seq ?_
  refine LW.region ?_
  refine X.u (LU.weak (LU.build (places := #[(0, 1), (1, 1), (2, 1)]) Try.underlying58 Try.zeroValue58 (ones rfl) (by intro w; simp [Try.sizeOf26, Try.sizeOf3]) Parts.nil rfl) (Is.of (y := .agg (edL (0, 0, 0))) (rfl))) rfl ?_
  refine X.act (X.store 0 rfl Try.sizeOf58 Is.rfl' Is.rfl' (by exact Cells.agg) (by (simp; done)) (by exact Nat.le_of_ble_eq_true rfl) ?_)
  refine X.u (LU.assignR Is.rfl') rfl ?_
  refine LL.nil (after_code ?_)
  refine LW.ret (ret_blk (ret_code (after_end ?_)))
  refine X.ret (H' := [qa g [] es .nilFunc b o c p q r]) (by exact Res.cell2 0 rfl rfl ⟨Try.sizeOf58, Try.isAgg58⟩ (Part.whole (by rfl)) (by exact IsA rfl) (by exact IsR rfl)) (by repeat (first | exact HSub.refl _ | refine HSub.pick 2 rfl ?_ | refine HSub.drop ?_)) ?_
  exact ⟨rfl, rfl⟩
set_option maxRecDepth 100000 in
theorem note_calls (id : Int) (t5 tb to tc a : Nat) (T : List Int) (x : AcQ) (hT : T.length ≤ 10000000000000) : LCalls Try.prog 37 [i64 id, pt t5, pt a] [.cells t5 24 [Ints T (.tok tb to tc)], .tail tb to tc, .cells a 65 (aqL x)] (fun r H' => ∃ tb' to' tc', r = i64 x.an ∧ H' = [.cells t5 24 [Ints (T ++ [id]) (.tok tb' to' tc')], .tail tb' to' tc', .cells a 65 (aqL x)]) := by
  refine LCalls.of Try.func37 rfl Try.ntmps37 Try.results37 rfl (fun Rf => ?_)
  refine LW.seq ?_
  refine LW.region ?_
  refine X.u (LU.assignR Is.rfl') rfl ?_
  refine LL.nil (after_code ?_)
  refine LW.seq ?_
  refine LW.region ?_
  refine X.u (LU.loadO 0 rfl ⟨Try.sizeOf24, Try.isAgg24⟩ Is.rfl' (Part.one rfl)) rfl ?_
  refine X.u (LU.moveR Is.rfl') rfl ?_
  refine X.u (LU.lits Try.underlying24 Try.sizeOf3 Try.zeroValue3 (ones rfl) rfl (by decide) (by decide) (Elems.cons Is.rfl' (by exact Cells.raw rfl) Elems.nil) (by (simp; done)) rfl) rfl ?_
  refine X.act (X.append 1 rfl rfl Try.underlying24 (El.of (P := Try.prog) (z := (.int .i64 0)) (size := 1) (bytes := 8) rfl rfl rfl) Is.rfl' Is.rfl' (SrcL.slice Try.underlying24 (by decide) (by (intro e he; simp [chunks] at he; simp [he]; done))) (by simp only [Option.getD_some, Option.getD_none, byteEls_length, intEls_length, List.length_append, List.length_cons, List.length_nil, List.length_map, List.length_drop, List.length_take, Int.toNat_natCast]; omega) (by simp only [Option.getD_some, Option.getD_none, byteEls_length, intEls_length, List.length_append, List.length_cons, List.length_nil, List.length_map, List.length_drop, List.length_take, Int.toNat_natCast]; omega) (fun b8 o8 c8 => X.weak (t := 8) (Is.of (y := Ints (T ++ [id]) (.tok b8 o8 c8)) (congrArg (fun z => LV.sl 1 z (.tok b8 o8 c8)) (intEls_append T [id]).symm)) ?_))
  refine X.act (X.store 1 rfl Try.sizeOf24 Is.rfl' Is.rfl' (by exact Cells.sl) (by (simp; done)) (by (simp; done)) ?_)
  refine LL.nil (after_code ?_)
  refine LW.seq ?_
  refine LW.region ?_
  refine X.u (LU.fieldO Try.underlying65 rfl Try.sizeOf3 (by decide) Is.rfl') rfl ?_
  refine X.u (LU.loadO 2 rfl ⟨Try.sizeOf3, Try.isAgg3⟩ Is.rfl' (Part.one rfl)) rfl ?_
  refine X.u (LU.assignR Is.rfl') rfl ?_
  refine LL.nil (after_code ?_)
  refine LW.ret (after_end ?_)
  refine X.ret (H' := [.cells t5 24 [Ints (T ++ [id]) (.tok b8 o8 c8)], .tail b8 o8 c8, .cells a 65 (aqL x)]) (Res.one (by exact IsR rfl)) (by repeat (exact HSub.refl _)) ?_
  exact ⟨b8, o8, c8, rfl, rfl⟩
end Go.Proofs.Ytpimalihpnfdkaa
