/- Lines: the least of some. -/
import Derived.Test.YtolpkeajokjbjaaDoorLnM
set_option linter.unusedVariables false
set_option linter.unusedSimpArgs false
namespace Go.Proofs.YtolpkeajokjbjaaDoor
open Go.RowKit Go.L Go.Lib
attribute [local irreducible] LL LW LO
abbrev z35 : Value := Value.agg #[(.int .u8 0), (.int .u8 0), (.int .u8 0), (.int .u8 0), (.int .u8 0), (.int .u8 0), (.int .u8 0), (.int .u8 0), (.int .u8 0), (.int .u8 0), (.int .u8 0), (.int .u8 0), (.int .u8 0), (.int .u8 0), (.int .u8 0), (.int .u8 0), (.int .u8 0), (.int .u8 0), (.int .u8 0), (.int .u8 0), (.int .u8 0), (.int .u8 0), (.int .u8 0), (.int .u8 0), (.int .u8 0), (.int .u8 0), (.int .u8 0), (.int .u8 0), (.int .u8 0), (.int .u8 0), (.int .u8 0), (.int .u8 0), (.int .i64 0)]
theorem cmp_fn (a b : Vx) : FnCalls Tryd.prog (.func (.func 68) #[] #[]) [.agg (vxL a), .agg (vxL b)] [] (fun r H' => r = i64 (cmpV a b) ∧ H' = []) :=
  FnCalls.named Tryd.func68 rfl rfl (cmpv_calls a b)
set_option maxHeartbeats 1000000 in
set_option maxRecDepth 100000 in
theorem minfunc_calls (a : Vx) (l : List Vx) (k : Cap) (hl : l.length < 1000000) : LCalls Tryd.prog 67 [Vxs (a :: l) k, .raw (.func (.func 68) #[] #[])] [] (fun r H' => r = .agg (vxL (minV a l)) ∧ H' = []) := by
  have hal := vxL_len a
  obtain ⟨L, hL⟩ : ∃ L, L = a :: l := ⟨_, rfl⟩
  have hLl : L.length = l.length + 1 := by rw [hL]; rfl
  have hL0 : L[0]? = some a := by rw [hL]; rfl
  have hL1 : L.drop 1 = l := by rw [hL]; rfl
  rw [← hL]
  refine LCalls.of Tryd.func67 rfl Tryd.ntmps67 Tryd.results67 rfl (fun Rf => ?_)
  refine LW.seq ?_
  refine LW.region ?_
  refine X.act (X.alloc rfl Tryd.zeroValue35 (by exact Cells.rawagg (by decide)) (fun b4 => ?_))
  refine LL.nil (after_code ?_)
  refine LW.seq ?_
  refine LW.seq ?_
  refine LW.region ?_
  refine X.u (LU.moveS Is.rfl') rfl ?_
  refine X.u (LU.lenN Tryd.underlying26 Is.rfl' (by (simp only [Option.getD_some, Option.getD_none, byteEls_length, intEls_length, List.length_append, List.length_cons, List.length_nil, List.length_map, List.length_drop, List.length_take, Int.toNat_natCast]; rfl))) rfl ?_
  refine X.u (LU.weak (LU.lss Is.rfl' Is.rfl') (asB (c := false) rfl (by simp; omega))) rfl ?_
  refine LL.nil (after_code ?_)
  refine X.condF rfl ?_ ?_
  · rfl
  refine LW.skip (after_code ?_)
  refine LW.seq ?_
  refine LW.region ?_
  refine X.u (LU.moveS Is.rfl') rfl ?_
  refine X.u (LU.at Tryd.underlying26 ⟨Tryd.sizeOf35, Tryd.isAgg35⟩ Is.rfl' Is.rfl' (by omega) (show (vxs L)[(0 : Int).toNat]? = some (vxL a) from vxs_at (i := 0) hL0) (vx_ne a)) rfl ?_
  refine X.u (LU.weak (LU.load ⟨Tryd.sizeOf35, Tryd.isAgg35⟩ Is.rfl' (by assumption) (Part.whole (by assumption))) (Is.of (y := .agg (vxL a)) (rfl))) rfl ?_
  refine X.act (X.alloc rfl Tryd.zeroValue35 (by exact Cells.rawagg (by decide)) (fun b5 => ?_))
  refine X.act (X.store 0 rfl Tryd.sizeOf35 Is.rfl' Is.rfl' (by exact Cells.agg) (by assumption) (by exact Nat.le_of_ble_eq_true rfl) ?_)
  refine LL.nil (after_code ?_)
  refine LW.seq ?_
  refine LW.seq ?_
  refine X.wcells (ys := vxL a) (putAt_all (by rw [hal]; rfl)) ?_
  refine LW.region ?_
  refine X.u (LU.assignR Is.rfl') rfl ?_
  refine LL.nil (after_code ?_)
  refine LW.block ?_
  obtain ⟨Z, hZ⟩ : ∃ Z, Z = raws z35.cells.toList := ⟨_, rfl⟩
  have hZl : Z.length = 33 := by rw [hZ]; rfl
  refine X.wghost (H' := .cells b5 35 (vxL a) :: .cells b4 35 Z :: Rf) (by rw [hZ]; exact (by repeat (exact HSub.refl _))) ?_
  refine X.loopK (α := Nat × Vx) (fun ⟨i, c⟩ => [(6, i64 i)]) [0, 1, 4, 5] (fun ⟨i, c⟩ => .cells b5 35 (vxL c) :: .cells b4 35 Z :: Rf) (fun ⟨i, c⟩ => 1 ≤ i ∧ i ≤ L.length ∧ minV c (L.drop i) = minV a l) (fun ⟨i, c⟩ => L.length - i) ((1, a)) (EnvLe.cons (by rfl) (EnvLe.nil)) (by repeat (exact HSub.refl _)) ?_ ?_
  · exact ⟨Nat.le_refl _, by omega, by rw [hL1]⟩
  · rintro ⟨i, c⟩ hI
    obtain ⟨hi1, hi2, hmin⟩ := hI
    have hcl := vxL_len c
    have hc32 : c.p.1.length = 32 := c.p.2
    refine LW.seq ?_
    refine LW.seq ?_
    refine LW.region ?_
    refine X.u (LU.moveR Is.rfl') rfl ?_
    refine X.u (LU.moveS Is.rfl') rfl ?_
    refine X.u (LU.lenN Tryd.underlying26 Is.rfl' (by (simp only [Option.getD_some, Option.getD_none, byteEls_length, intEls_length, List.length_append, List.length_cons, List.length_nil, List.length_map, List.length_drop, List.length_take, Int.toNat_natCast]; rfl))) rfl ?_
    refine X.u (LU.lss Is.rfl' Is.rfl') rfl ?_
    refine LL.nil (after_code ?_)
    refine X.cond rfl (fun h5 => ?_) (fun h5 => ?_)
    · try have h5 := of_decide_eq_true h5
      refine LW.skip (after_code ?_)
      refine LW.seq ?_
      refine LW.block ?_
      refine LW.seq ?_
      obtain ⟨x, hx⟩ := at_lt (show i < L.length by omega)
      have hxl := vxL_len x
      have hx32 : x.p.1.length = 32 := x.p.2
      have hcx := cmp_fn x c
      rw [drop_at hx] at hmin
      have hmin2 : minV (if cmpV x c < 0 then x else c) (L.drop (i + 1)) = minV a l := hmin
      refine X.drawM 6 rfl (by kernel_rfl) rfl ?_
      refine QD.u (LU.moveR Is.rfl') rfl ?_
      refine QD.u (LU.moveS Is.rfl') rfl ?_
      refine QD.u (LU.moveR Is.rfl') rfl ?_
      refine QD.u (LU.at Tryd.underlying26 ⟨Tryd.sizeOf35, Tryd.isAgg35⟩ Is.rfl' Is.rfl' (by omega) (vxs_at hx) (vx_ne x)) rfl ?_
      refine QD.u (LU.weak (LU.load ⟨Tryd.sizeOf35, Tryd.isAgg35⟩ Is.rfl' (by assumption) (Part.whole (by assumption))) (Is.of (y := .agg (vxL x)) (rfl))) rfl ?_
      refine QD.u (LU.loadO 0 rfl ⟨Tryd.sizeOf35, Tryd.isAgg35⟩ Is.rfl' (Part.whole (by assumption))) rfl ?_
      refine QD.nil ?_
      refine X.act (X.callF (hcx) Is.rfl' rfl (HSub.refl _) (Opds.cons Is.rfl' (Opds.cons Is.rfl' Opds.nil)) ?_)
      rintro r H' ⟨rfl, rfl⟩
      refine X.u (LU.lss Is.rfl' Is.rfl') rfl ?_
      refine LL.nil (after_code ?_)
      refine X.cond rfl (fun h7 => ?_) (fun h7 => ?_)
      · have h7 : cmpV x c < 0 := of_decide_eq_true h7
        rw [if_pos h7] at hmin2
        refine LW.region ?_
        refine X.u (LU.moveS Is.rfl') rfl ?_
        refine X.u (LU.moveR Is.rfl') rfl ?_
        refine X.u (LU.at Tryd.underlying26 ⟨Tryd.sizeOf35, Tryd.isAgg35⟩ Is.rfl' Is.rfl' (by omega) (vxs_at hx) (vx_ne x)) rfl ?_
        refine X.u (LU.weak (LU.load ⟨Tryd.sizeOf35, Tryd.isAgg35⟩ Is.rfl' (by assumption) (Part.whole (by assumption))) (Is.of (y := .agg (vxL x)) (rfl))) rfl ?_
        refine X.act (X.store 0 rfl Tryd.sizeOf35 Is.rfl' Is.rfl' (by exact Cells.agg) (by assumption) (by (simp; omega)) ?_)
        refine LL.nil (after_blk (after_code ?_))
        refine X.wcells (ys := vxL x) (putAt_all (by rw [hxl, hcl])) ?_
        refine LW.region ?_
        refine X.u (LU.moveR Is.rfl') rfl ?_
        refine X.u (LU.addN Is.rfl' Is.rfl' (wrap_i64 (by omega) (by omega))) rfl ?_
        refine X.u (LU.assignR Is.rfl') rfl ?_
        refine LL.nil (after_rnd ?_)
        refine X.next ((i + 1, x)) rfl (EnvLe.cons (by rfl) (EnvLe.nil)) (Keeps.cons (by exact Eq.trans (b := .sl _ _ _) rfl rfl) (Keeps.cons (by exact Eq.trans (b := .raw _) rfl rfl) (Keeps.cons (by exact Eq.trans (b := .raw _) rfl rfl) (Keeps.cons (by exact Eq.trans (b := .raw _) rfl rfl) (Keeps.nil))))) (by repeat (exact HSub.refl _)) ?_ ?_
        · exact ⟨by omega, by omega, hmin2⟩
        · (simp; omega)
      · have h7 : ¬ cmpV x c < 0 := of_decide_eq_false h7
        rw [if_neg h7] at hmin2
        refine LW.skip (after_blk (after_code ?_))
        refine LW.region ?_
        refine X.u (LU.moveR Is.rfl') rfl ?_
        refine X.u (LU.addN Is.rfl' Is.rfl' (wrap_i64 (by omega) (by omega))) rfl ?_
        refine X.u (LU.assignR Is.rfl') rfl ?_
        refine LL.nil (after_rnd ?_)
        refine X.next ((i + 1, c)) rfl (EnvLe.cons (by rfl) (EnvLe.nil)) (Keeps.cons (by exact Eq.trans (b := .sl _ _ _) rfl rfl) (Keeps.cons (by exact Eq.trans (b := .raw _) rfl rfl) (Keeps.cons (by exact Eq.trans (b := .raw _) rfl rfl) (Keeps.cons (by exact Eq.trans (b := .raw _) rfl rfl) (Keeps.nil))))) (by repeat (exact HSub.refl _)) ?_ ?_
        · exact ⟨by omega, by omega, hmin2⟩
        · (simp; omega)
    · try have h5 := of_decide_eq_false h5
      refine LW.exit (exit_code (exit_rnd (exit_blk (after_code ?_))))
      refine LW.seq ?_
      rw [show i = L.length by omega, List.drop_length] at hmin
      have hmin3 : c = minV a l := hmin
      refine LW.region ?_
      refine X.u (LU.loadO 0 rfl ⟨Tryd.sizeOf35, Tryd.isAgg35⟩ Is.rfl' (Part.whole (by assumption))) rfl ?_
      refine X.act (X.store 1 rfl Tryd.sizeOf35 Is.rfl' Is.rfl' (by exact Cells.agg) (by assumption) (by (simp; omega)) ?_)
      refine LL.nil (after_code ?_)
      refine LW.ret (after_end ?_)
      rw [putAt_all (by rw [hcl, hZl])]
      refine X.ret (H' := []) (Res.cell1 0 rfl rfl ⟨Tryd.sizeOf35, Tryd.isAgg35⟩ (Part.whole hcl) (IsA rfl)) (by repeat (first | exact HSub.refl _ | refine HSub.drop ?_)) ?_
      exact ⟨by rw [hmin3], rfl⟩
end Go.Proofs.YtolpkeajokjbjaaDoor
