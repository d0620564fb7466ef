/- Lines: slices.Delete at owned rows. -/
import Derived.Test.YtolpkeajokjbjaaDoorLnS
import Derived.Test.YtolpkeajokjbjaaDoorLgD
set_option linter.unusedVariables false
set_option linter.unusedSimpArgs false
namespace Go.Proofs.YtolpkeajokjbjaaDoor
open Go.RowKit Go.L Go.Lib
attribute [local irreducible] LL LW LO
theorem slicedV (b off l h m sz : Nat) : sliced ((some b).map fun b => (⟨b, off, none⟩ : Addr)) l h m sz = .slice (some ⟨b, if m = l then off else off + l * sz, none⟩) (h - l) (m - l) := by
  unfold sliced
  by_cases e : m = l
  · rw [if_pos e, if_pos e]; rfl
  · rw [if_neg e, if_neg e]; simp [add_lit]
theorem del_src {size : Nat} {es : List (List LV)} {A : Option Nat} {off n c i : Nat} {xs : List LV} (h : OwnS size es A off n c xs) (hi : i < n) : (if c = i + 1 then off else off + (i + 1) * size) + (n - (i + 1)) * size ≤ xs.length ∧ (es.drop (i + 1)).flatten = (xs.drop (if c = i + 1 then off else off + (i + 1) * size)).take ((n - (i + 1)) * size) := by
  have hcnt := h.cnt
  have hle := h.le
  have hlen := h.len
  have hs3 : n * size ≤ c * size := Nat.mul_le_mul_right _ hle
  by_cases e : c = i + 1
  · rw [if_pos e, show n - (i + 1) = 0 by omega, List.drop_of_length_le (by omega)]
    exact ⟨by omega, by simp⟩
  · have hs : n * size = (i + 1) * size + (n - (i + 1)) * size := by rw [← Nat.add_mul, show i + 1 + (n - (i + 1)) = n by omega]
    rw [if_neg e]
    refine ⟨by omega, ?_⟩
    have hf1 : (es.take (i + 1)).flatten.length = (i + 1) * size := by
      rw [flat_len fun e he => h.sz e (List.mem_of_mem_take he), List.length_take, Nat.min_eq_left (by omega)]
    have h2 := congrArg (List.drop ((i + 1) * size)) h.cells
    rw [List.drop_take, List.drop_drop, hs, Nat.add_sub_cancel_left] at h2
    rw [h2]
    conv => rhs; rw [← List.take_append_drop (i + 1) es, List.flatten_append]
    rw [List.drop_left' hf1]
theorem vxs_erase (es : List Vx) (i : Nat) : vxs (es.eraseIdx i) = (vxs es).eraseIdx i := by
  rw [List.eraseIdx_eq_take_drop_succ, List.eraseIdx_eq_take_drop_succ, ← vxs_app]
  show List.map vxL (es.take i) ++ List.map vxL (es.drop (i + 1)) = _
  rw [List.map_take, List.map_drop]
set_option maxHeartbeats 2000000 in
set_option maxRecDepth 100000 in
theorem delete_calls (es : List Vx) (b off n c i : Nat) (te : TypeId) (xs : List LV) (ow : OwnS 33 (vxs es) (some b) off n c xs) (hi : i < n) (hn : n < 1000000) : LCalls Tryd.prog 57 [ownV (some b) off n c, i64 (i : Nat), i64 ((i + 1 : Nat) : Int)] [.cells b te xs] (fun r H' => r = ownV (some b) off (n - 1) c ∧ ∃ xs', H' = [.cells b te xs'] ∧ OwnS 33 (vxs (es.eraseIdx i)) (some b) off (n - 1) c xs') := by
  have hle := ow.le
  have hlen := ow.len
  have hs3 : n * 33 ≤ c * 33 := Nat.mul_le_mul_right _ hle
  obtain ⟨hsr1, hsr2⟩ := del_src ow hi
  rw [← List.map_drop] at hsr2
  have hcnt : es.length = n := by have := ow.cnt; rwa [List.length_map] at this
  have hsr3 : (vxs (es.drop (i + 1))).length = n - (i + 1) := by rw [List.length_map, List.length_drop, hcnt]
  have hsr4 : off + i * 33 + (n - (i + 1)) * 33 ≤ xs.length := by omega
  have hfl : (vxs (es.drop (i + 1))).flatten.length = (n - (i + 1)) * 33 := by rw [flat_len (vxs_size _), hsr3]
  have her := ow.erase (zs := raws z35.cells.toList) hi rfl
  rw [← List.map_drop, ← vxs_erase] at her
  refine LCalls.of Tryd.func57 rfl Tryd.ntmps57 Tryd.results57 rfl (fun Rf => ?_)
  refine LW.seq ?_
  refine LW.region ?_
  refine X.u (LU.assign (Is.nil 33)) rfl ?_
  refine LL.nil (after_code ?_)
  refine LW.seq ?_
  refine LW.region ?_
  refine X.u (LU.moveR Is.rfl') rfl ?_
  refine X.u (LU.moveR Is.rfl') rfl ?_
  refine X.u (LU.moveR Is.rfl') rfl ?_
  refine X.u (LU.moveR Is.rfl') rfl ?_
  refine X.u (LU.lenO Tryd.underlying26 Is.rfl') rfl ?_
  refine X.u (LU.sliceR3 Tryd.sizeOf35 Tryd.underlying26 Is.rfl' Is.rfl' Is.rfl' Is.rfl' (by omega) (by omega) (by omega) (by omega)) rfl ?_
  refine LL.nil (after_code ?_)
  refine LW.seq ?_
  refine LW.seq ?_
  refine LW.region ?_
  refine X.u (LU.moveR Is.rfl') rfl ?_
  refine X.u (LU.moveR Is.rfl') rfl ?_
  refine X.u (LU.weak (LU.eql Is.rfl' Is.rfl') (asB (c := false) rfl (by simp; omega))) rfl ?_
  refine LL.nil (after_code ?_)
  refine X.condF rfl ?_ ?_
  · rfl
  refine LW.skip (after_code ?_)
  refine LW.seq ?_
  refine LW.region ?_
  refine X.u (LU.moveR Is.rfl') rfl ?_
  refine X.u (LU.lenO Tryd.underlying26 Is.rfl') rfl ?_
  refine X.u (LU.assignR Is.rfl') rfl ?_
  refine LL.nil (after_code ?_)
  refine LW.seq ?_
  refine X.drawM 6 rfl (by kernel_rfl) rfl ?_
  refine QD.u (LU.moveR Is.rfl') rfl ?_
  refine QD.u (LU.moveR Is.rfl') rfl ?_
  refine QD.u (LU.weak (LU.sliceR (l := none) (h := some ((i : Nat) : Int)) Tryd.sizeOf35 Tryd.underlying26 Is.rfl' trivial ⟨_, Is.rfl'⟩ (by simp) (by simp) (by simp; omega) (by omega)) (Is.of (y := ownV (some b) off i c) (congrArg LV.raw ((slicedV b off _ _ _ _).trans (by simp))))) rfl ?_
  refine QD.u (LU.moveR Is.rfl') rfl ?_
  refine QD.u (LU.moveR Is.rfl') rfl ?_
  refine QD.u (LU.weak (LU.sliceR (l := some ((i + 1 : Nat) : Int)) (h := none) Tryd.sizeOf35 Tryd.underlying26 Is.rfl' ⟨_, Is.rfl'⟩ trivial (by simp; omega) (by simp; omega) (by simp; omega) (by omega)) (Is.of (y := .raw (.slice (some ⟨b, if c = i + 1 then off else off + (i + 1) * 33, none⟩) (n - (i + 1)) (c - (i + 1)))) (congrArg LV.raw ((slicedV b off _ _ _ _).trans (by simp))))) rfl ?_
  refine QD.nil ?_
  refine X.act (LO.appendIn (st := ⟨_, _, _⟩) (ys := vxs (es.drop (i + 1))) (b := b) (off := off) (n := i) (c := c) (off2 := if c = i + 1 then off else off + (i + 1) * 33) (n2 := n - (i + 1)) (c2 := c - (i + 1)) 0 rfl rfl Tryd.underlying26 Tryd.underlying26 (El.of (P := Tryd.prog) (z := z35) (size := 33) (bytes := 40) rfl rfl rfl) Is.rfl' Is.rfl' (vxs_size _) hsr3 hsr1 hsr2 (by omega) (by omega) hsr4 ?_)
  refine X.weak (t := 26) (v := ownV (some b) off (n - 1) c) (Is.of (congrArg (fun n => LV.raw (.slice (some ⟨b, off, none⟩) n c)) (show i + (n - (i + 1)) = n - 1 by omega))) ?_
  refine X.u (LU.assignR Is.rfl') rfl ?_
  refine LL.nil (after_code ?_)
  refine LW.seq ?_
  obtain ⟨Xr, hX⟩ : ∃ Xr, Xr = putAt xs (off + i * 33) (vxs (es.drop (i + 1))).flatten := ⟨_, rfl⟩
  have hXl : Xr.length = xs.length := by rw [hX]; exact putAt_length _ _ _ (by rw [hfl]; omega)
  rw [← hX] at her ⊢
  refine LW.region ?_
  refine X.u (LU.moveR Is.rfl') rfl ?_
  refine X.u (LU.moveR Is.rfl') rfl ?_
  refine X.u (LU.lenO Tryd.underlying26 Is.rfl') rfl ?_
  refine X.u (LU.moveR Is.rfl') rfl ?_
  refine X.u (LU.weak (LU.sliceR (l := some ((n - 1 : Nat) : Int)) (h := some ((n : Nat) : Int)) Tryd.sizeOf35 Tryd.underlying26 Is.rfl' ⟨_, Is.rfl'⟩ ⟨_, Is.rfl'⟩ (by simp) (by simp) (by simp; omega) (by omega)) (Is.of (y := .raw (.slice (some ⟨b, off + (n - 1) * 33, none⟩) 1 (c - (n - 1)))) (congrArg LV.raw ((slicedV b off _ _ _ _).trans (by rw [if_neg (by simp; omega)]; (simp; omega)))))) rfl ?_
  refine X.act (LO.clear1 (st := ⟨_, _, _⟩) 0 rfl Tryd.underlying26 Tryd.zeroValue35 (ones rfl) Is.rfl' (by show off + (n - 1) * 33 + 33 ≤ Xr.length; omega) ?_)
  refine LL.nil (after_code ?_)
  refine LW.seq ?_
  refine LW.region ?_
  refine X.u (LU.moveR Is.rfl') rfl ?_
  refine X.u (LU.assignR Is.rfl') rfl ?_
  refine LL.nil (after_code ?_)
  refine LW.ret (after_end ?_)
  refine X.ret (H' := [.cells b te (putAt Xr (off + (n - 1) * 33) (raws z35.cells.toList))]) (Res.one (by exact IsR rfl)) (by repeat (exact HSub.refl _)) ?_
  exact ⟨rfl, _, rfl, her⟩
end Go.Proofs.YtolpkeajokjbjaaDoor
