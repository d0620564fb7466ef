/- Lines: a chain of steps; a new graph. -/
import Derived.Test.YtolpkeajokjbjaaDoorLnD
import Derived.Test.YtolpkeajokjbjaaDoorLgD
import Derived.Test.YtolpkeajokjbjaaDoorLgC
set_option linter.unusedVariables false
set_option linter.unusedSimpArgs false
namespace Go.Proofs.YtolpkeajokjbjaaDoor
open Go.RowKit Go.L
attribute [local irreducible] LL LW LO
theorem hpush (a : Atom) (R : List Atom) : ∀ L : List Atom, HSub (a :: (L ++ R)) (L ++ (a :: R))
  | [] => HSub.refl _
  | p :: r => HSub.trans (HSub.pick 1 rfl (HSub.refl _)) (HSub.cons (hpush a R r))
theorem hswap (L R : List Atom) : ∀ K : List Atom, HSub (K ++ (L ++ R)) (L ++ (K ++ R))
  | [] => HSub.refl _
  | k :: K => HSub.trans (HSub.cons (hswap L R K)) (hpush k (K ++ R) L)
/-- An addition. -/
structure Pt where
  up : Vx
  down : Vx
  ids : List Vx
abbrev ptL (p : Pt) : List LV := vxL p.up ++ (vxL p.down ++ [Vxs p.ids .unk])
abbrev ptE (p : Pt) : LV := .agg (ptL p)
theorem pt_len (p : Pt) : (ptL p).length = 67 := by simp [p.up.p.2, p.down.p.2]
theorem pt_up (p : Pt) : ((ptL p).drop 0).take 33 = vxL p.up := by rw [List.drop_zero, List.take_left' (vxL_len p.up)]
theorem pt_down (p : Pt) : ((ptL p).drop 33).take 33 = vxL p.down := by rw [List.drop_left' (vxL_len p.up), List.take_left' (vxL_len p.down)]
theorem pt_ids (p : Pt) : (ptL p)[66]? = some (Vxs p.ids .unk) := by
  rw [List.getElem?_append_right (by rw [vxL_len]; decide), vxL_len, List.getElem?_append_right (by rw [vxL_len]; decide), vxL_len]; rfl
def chainF {S : Type} (F : S → Vx → Vx → S) : S → Vx → List Vx → Vx → S
  | s, a, [], d => F s a d
  | s, a, v :: r, d => chainF F (F s a v) v r d
theorem drop_at {α : Type} {l : List α} {i : Nat} {x : α} (h : l[i]? = some x) : l.drop i = x :: l.drop (i + 1) := by
  obtain ⟨h1, h2⟩ := List.getElem?_eq_some_iff.1 h
  rw [List.drop_eq_getElem_cons h1, h2]
set_option maxHeartbeats 1000000 in
set_option maxRecDepth 100000 in
theorem chain_calls {S : Type} (Hm : S → List Atom) (F : S → Vx → Vx → S) (φ : Nat → S → Prop) (yv : Value) (p : Pt) (s0 : S) (hl : p.ids.length < 1000000)
    (hf : ∀ i s a b, i ≤ p.ids.length → φ i s → FnCalls Tryd.prog yv [.agg (vxL a), .agg (vxL b)] (Hm s) (fun r H' => r = .tup [] ∧ H' = Hm (F s a b)) ∧ φ (i + 1) (F s a b)) (h0 : φ 0 s0) :
    LCalls Tryd.prog 37 [ptE p, .raw yv] (Hm s0) (fun r H' => r = .tup [] ∧ H' = Hm (chainF F s0 p.up p.ids p.down) ∧ φ (p.ids.length + 1) (chainF F s0 p.up p.ids p.down)) := by
  have hpl := pt_len p
  have hul := vxL_len p.up
  have hdl := vxL_len p.down
  have hu32 : p.up.p.1.length = 32 := p.up.p.2
  have hd32 : p.down.p.1.length = 32 := p.down.p.2
  refine LCalls.of Tryd.func37 rfl Tryd.ntmps37 Tryd.results37 rfl (fun Rf => ?_)
  refine LW.seq ?_
  refine LW.region ?_
  refine X.act (X.box rfl Is.rfl' (by exact Cells.agg) (fun b2 => ?_))
  refine LL.nil (after_code ?_)
  refine LW.seq ?_
  refine LW.region ?_
  refine X.u (LU.fieldO Tryd.underlying82 rfl Tryd.sizeOf35 (by decide) Is.rfl') rfl ?_
  refine X.u (LU.weak (LU.loadO 0 rfl ⟨Tryd.sizeOf35, Tryd.isAgg35⟩ Is.rfl' (Part.sub (by (simp; omega)))) (Is.of (y := .agg (vxL p.up)) (congrArg LV.agg (pt_up p)))) rfl ?_
  refine X.act (X.alloc rfl Tryd.zeroValue35 (by exact Cells.rawagg (by decide)) (fun b4 => ?_))
  refine X.act (X.store 0 rfl Tryd.sizeOf35 Is.rfl' Is.rfl' (by exact Cells.agg) (by assumption) (by exact Nat.le_of_ble_eq_true rfl) ?_)
  refine LL.nil (after_code ?_)
  refine LW.seq ?_
  refine LW.seq ?_
  refine X.wcells (ys := vxL p.up) (putAt_all (by rw [hul]; rfl)) ?_
  refine LW.region ?_
  refine X.u (LU.fieldO Tryd.underlying82 rfl Tryd.sizeOf26 (by decide) Is.rfl') rfl ?_
  refine X.u (LU.loadO 1 rfl ⟨Tryd.sizeOf26, Tryd.isAgg26⟩ Is.rfl' (Part.one (pt_ids p))) rfl ?_
  refine X.u (LU.lenN Tryd.underlying26 Is.rfl' (by (simp only [Option.getD_some, Option.getD_none, byteEls_length, intEls_length, List.length_append, List.length_cons, List.length_nil, List.length_map, List.length_drop, List.length_take, Int.toNat_natCast]; rfl))) rfl ?_
  refine X.u (LU.moveR Is.rfl') rfl ?_
  refine LL.nil (after_code ?_)
  refine LW.block ?_
  refine X.loopK (α := Nat × Vx × S) (fun ⟨i, a, s⟩ => [(12, i64 i)]) [1, 2, 4, 10, 11] (fun ⟨i, a, s⟩ => .cells b4 35 (vxL a) :: .cells b2 82 (ptL p) :: (Hm s ++ Rf)) (fun ⟨i, a, s⟩ => i ≤ p.ids.length ∧ φ i s ∧ chainF F s a (p.ids.drop i) p.down = chainF F s0 p.up p.ids p.down) (fun ⟨i, a, s⟩ => p.ids.length - i) ((0, p.up, s0)) (EnvLe.cons (by rfl) (EnvLe.nil)) (by repeat (exact HSub.refl _)) ?_ ?_
  · exact ⟨Nat.zero_le _, h0, rfl⟩
  · rintro ⟨i, a, s⟩ hI
    obtain ⟨hi, hs, hc⟩ := hI
    have hal := vxL_len a
    have ha32 : a.p.1.length = 32 := a.p.2
    refine LW.seq ?_
    refine LW.region ?_
    refine X.u (LU.lss Is.rfl' Is.rfl') rfl ?_
    refine LL.nil (after_code ?_)
    refine LW.seq ?_
    refine X.cond rfl (fun h3 => ?_) (fun h3 => ?_)
    · try have h3 := of_decide_eq_true h3
      refine LW.skip (after_code ?_)
      refine LW.seq ?_
      refine LW.block ?_
      refine LW.seq ?_
      obtain ⟨v, hv⟩ := at_lt (show i < p.ids.length by omega)
      have hvl := vxL_len v
      have hfs := hf i s a v hi hs
      refine LW.region ?_
      refine X.u (LU.at Tryd.underlying26 ⟨Tryd.sizeOf35, Tryd.isAgg35⟩ Is.rfl' Is.rfl' (by omega) (vxs_at hv) (vx_ne v)) rfl ?_
      refine X.u (LU.weak (LU.load ⟨Tryd.sizeOf35, Tryd.isAgg35⟩ Is.rfl' (by assumption) (Part.whole (by assumption))) (Is.of (y := .agg (vxL v)) (rfl))) rfl ?_
      refine X.act (X.alloc rfl Tryd.zeroValue35 (by exact Cells.rawagg (by decide)) (fun b6 => ?_))
      refine X.act (X.store 0 rfl Tryd.sizeOf35 Is.rfl' Is.rfl' (by exact Cells.agg) (by assumption) (by exact Nat.le_of_ble_eq_true rfl) ?_)
      refine LL.nil (after_code ?_)
      refine LW.seq ?_
      refine X.wcells (ys := vxL v) (putAt_all (by rw [hvl]; rfl)) ?_
      refine LW.region ?_
      refine X.u (LU.moveR Is.rfl') rfl ?_
      refine X.u (LU.loadO 1 rfl ⟨Tryd.sizeOf35, Tryd.isAgg35⟩ Is.rfl' (Part.whole (by assumption))) rfl ?_
      refine X.u (LU.loadO 0 rfl ⟨Tryd.sizeOf35, Tryd.isAgg35⟩ Is.rfl' (Part.whole (by assumption))) rfl ?_
      refine X.act (X.callF (hfs.1) Is.rfl' rfl (hswap (Hm s) Rf [.cells b6 35 (vxL v), .cells b4 35 (vxL a), .cells b2 82 (ptL p)]) (Opds.cons Is.rfl' (Opds.cons Is.rfl' Opds.nil)) ?_)
      rintro r H' ⟨rfl, rfl⟩
      refine LL.nil (after_code ?_)
      refine X.wghost (hswap [.cells b6 35 (vxL v), .cells b4 35 (vxL a), .cells b2 82 (ptL p)] Rf (Hm (F s a v))) ?_
      refine LW.region ?_
      refine X.u (LU.loadO 0 rfl ⟨Tryd.sizeOf35, Tryd.isAgg35⟩ Is.rfl' (Part.whole (by assumption))) rfl ?_
      refine X.act (X.store 1 rfl Tryd.sizeOf35 Is.rfl' Is.rfl' (by exact Cells.agg) (by assumption) (by (simp; omega)) ?_)
      refine LL.nil (after_blk (after_code ?_))
      refine X.wcells (ys := vxL v) (putAt_all (by rw [hvl, hal])) ?_
      refine LW.region ?_
      refine X.u (LU.addN Is.rfl' Is.rfl' (wrap_i64 (by omega) (by omega))) rfl ?_
      refine X.u (LU.moveR Is.rfl') rfl ?_
      refine LL.nil (after_rnd ?_)
      refine X.next ((i + 1, v, F s a v)) rfl (EnvLe.cons (by rfl) (EnvLe.nil)) (Keeps.cons (by exact Eq.trans (b := .raw _) rfl rfl) (Keeps.cons (by exact Eq.trans (b := .raw _) rfl rfl) (Keeps.cons (by exact Eq.trans (b := .raw _) rfl rfl) (Keeps.cons (by exact Eq.trans (b := .sl _ _ _) rfl rfl) (Keeps.cons (by exact Eq.trans (b := .raw _) rfl rfl) (Keeps.nil)))))) (by repeat (first | exact HSub.refl _ | refine HSub.pick 0 rfl ?_ | refine HSub.pick 1 rfl ?_ | refine HSub.drop ?_)) ?_ ?_
      · refine ⟨by omega, hfs.2, ?_⟩
        rw [← hc, drop_at hv]; rfl
      · (simp; omega)
    · try have h3 := of_decide_eq_false h3
      refine LW.exit (exit_code (exit_rnd (exit_blk (after_code ?_))))
      have hfs := hf i s a p.down hi hs
      have hil : i = p.ids.length := by omega
      rw [hil, List.drop_of_length_le (Nat.le_refl _)] at hc
      refine LW.region ?_
      refine X.u (LU.moveR Is.rfl') rfl ?_
      refine X.u (LU.loadO 0 rfl ⟨Tryd.sizeOf35, Tryd.isAgg35⟩ Is.rfl' (Part.whole (by assumption))) rfl ?_
      refine X.u (LU.fieldO Tryd.underlying82 rfl Tryd.sizeOf35 (by decide) Is.rfl') rfl ?_
      refine X.u (LU.weak (LU.loadO 1 rfl ⟨Tryd.sizeOf35, Tryd.isAgg35⟩ Is.rfl' (Part.sub (by (simp; omega)))) (Is.of (y := .agg (vxL p.down)) (congrArg LV.agg (pt_down p)))) rfl ?_
      refine X.act (X.callF (hfs.1) Is.rfl' rfl (hswap (Hm s) Rf [.cells b4 35 (vxL a), .cells b2 82 (ptL p)]) (Opds.cons Is.rfl' (Opds.cons Is.rfl' Opds.nil)) ?_)
      rintro r H' ⟨rfl, rfl⟩
      refine LL.nil (after_end ?_)
      refine X.normal (H' := Hm (F s a p.down)) Res.none (HSub.trans (hswap [.cells b4 35 (vxL a), .cells b2 82 (ptL p)] Rf (Hm (F s a p.down))) (HSub.drop (HSub.drop (HSub.refl _)))) ?_
      have hc2 : F s a p.down = chainF F s0 p.up p.ids p.down := hc
      exact ⟨rfl, by rw [hc2], by rw [← hc2, ← hil]; exact hfs.2⟩
end Go.Proofs.YtolpkeajokjbjaaDoor
