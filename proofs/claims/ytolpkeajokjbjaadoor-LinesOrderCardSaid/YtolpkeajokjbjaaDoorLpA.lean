/- Lines: copies that are owned; a step goes. -/
import Derived.Test.YtolpkeajokjbjaaDoorLoE
import Derived.Test.YtolpkeajokjbjaaDoorLnT
import Derived.Test.YtolpkeajokjbjaaDoorLgD
set_option linter.unusedVariables false
set_option linter.unusedSimpArgs false
namespace Go.Proofs.YtolpkeajokjbjaaDoor
open Go.RowKit Go.L Go.Lib
attribute [local irreducible] LL LW LO
theorem own_fresh {size : Nat} {es : List (List LV)} (b : Nat) {c : Nat} {rest : List Value} (hs : ∀ e ∈ es, e.length = size) (hc : es.length ≤ c) (hr : rest.length = (c - es.length) * size) : OwnS size es (some b) 0 es.length c (es.flatten ++ raws rest) := by
  have hf := flat_len hs
  have hm : es.length * size ≤ c * size := Nat.mul_le_mul_right _ hc
  refine ⟨rfl, hc, ?_, ?_, hs, fun h => by cases h⟩
  · have hl : (raws rest).length = rest.length := by simp [raws]
    rw [List.length_append, hf, hl, hr, Nat.zero_add, ← Nat.add_mul]
    rw [show es.length + (c - es.length) = c by omega]
    exact Nat.le_refl _
  · rw [List.drop_zero, ← hf, List.take_left' rfl]
abbrev z36 : Value := Value.agg (Array.replicate 32 (.int .u8 0))
set_option maxHeartbeats 1000000 in
set_option maxRecDepth 100000 in
theorem cloneO_calls (l : List Vx) (k : Cap) (hl : l.length < 1000000) (h0 : 0 < l.length) : LCalls Tryd.prog 36 [Vxs l k] [] (fun r H' => ∃ b c xs, r = ownV (some b) 0 l.length c ∧ H' = [.cells b 35 xs] ∧ OwnS 33 (vxs l) (some b) 0 l.length c xs) := by
  have hls := vxs_size l
  have hlen : (vxs l).length = l.length := List.length_map ..
  refine LCalls.of Tryd.func36 rfl Tryd.ntmps36 Tryd.results36 rfl (fun Rf => ?_)
  refine LW.seq ?_
  refine LW.region ?_
  refine X.u (LU.assign (Is.nil 33)) rfl ?_
  refine LL.nil (after_code ?_)
  refine LW.seq ?_
  refine LW.seq ?_
  refine LW.region ?_
  refine X.u (LU.moveS Is.rfl') rfl ?_
  refine X.act (LO.nilSl (st := ⟨_, _, _⟩) rfl Tryd.underlying26 Is.rfl' Is.rfl' (fun bb hbb => ?_))
  refine LL.nil (after_code ?_)
  refine X.cond rfl (fun h1 => ?_) (fun h1 => ?_)
  · try have h1 := of_decide_eq_true h1
    refine LW.seq ?_
    refine LW.region ?_
    refine X.u (LU.assign (Is.nil 33)) rfl ?_
    refine LL.nil (after_code ?_)
    refine LW.ret (ret_code (after_end ?_))
    refine X.ret (H' := []) (Res.one (by exact IsS rfl)) (by repeat (exact HSub.refl _)) ?_
    exfalso; have hq := congrArg List.length (hbb h1); rw [hlen] at hq; have hq2 : l.length = 0 := hq; omega
  · try have h1 := of_decide_eq_false h1
    refine LW.skip (after_code ?_)
    refine LW.seq ?_
    refine LW.region ?_
    refine X.act (X.litO rfl Tryd.underlying26 Tryd.sizeOf35 Tryd.zeroValue35 (ones rfl) rfl (by decide) (by decide) Elems.nil (by simp) rfl (fun b5 => ?_))
    refine X.u (LU.moveS Is.rfl') rfl ?_
    refine X.act (X.appendO (z := (.agg #[(.int .u8 0), (.int .u8 0), (.int .u8 0), (.int .u8 0), (.int .u8 0), (.int .u8 0), (.int .u8 0), (.int .u8 0), (.int .u8 0), (.int .u8 0), (.int .u8 0), (.int .u8 0), (.int .u8 0), (.int .u8 0), (.int .u8 0), (.int .u8 0), (.int .u8 0), (.int .u8 0), (.int .u8 0), (.int .u8 0), (.int .u8 0), (.int .u8 0), (.int .u8 0), (.int .u8 0), (.int .u8 0), (.int .u8 0), (.int .u8 0), (.int .u8 0), (.int .u8 0), (.int .u8 0), (.int .u8 0), (.int .u8 0), (.int .i64 0)])) 0 rfl rfl Tryd.underlying26 (El.of (P := Tryd.prog) (z := (.agg #[(.int .u8 0), (.int .u8 0), (.int .u8 0), (.int .u8 0), (.int .u8 0), (.int .u8 0), (.int .u8 0), (.int .u8 0), (.int .u8 0), (.int .u8 0), (.int .u8 0), (.int .u8 0), (.int .u8 0), (.int .u8 0), (.int .u8 0), (.int .u8 0), (.int .u8 0), (.int .u8 0), (.int .u8 0), (.int .u8 0), (.int .u8 0), (.int .u8 0), (.int .u8 0), (.int .u8 0), (.int .u8 0), (.int .u8 0), (.int .u8 0), (.int .u8 0), (.int .u8 0), (.int .u8 0), (.int .u8 0), (.int .u8 0), (.int .i64 0)])) (size := 33) (bytes := 40) rfl rfl rfl) (ones rfl) Is.rfl' Is.rfl' (by simp) (SrcL.slice Tryd.underlying26 (by decide) hls) (by simp only [Option.getD_some, Option.getD_none, byteEls_length, intEls_length, List.length_append, List.length_cons, List.length_nil, List.length_map, List.length_drop, List.length_take, Int.toNat_natCast]; omega) (by simp only [Option.getD_some, Option.getD_none, byteEls_length, intEls_length, List.length_append, List.length_cons, List.length_nil, List.length_map, List.length_drop, List.length_take, Int.toNat_natCast]; omega) (fun b7 c7 rest7 hc7 hr7 => ?_))
    refine X.u (LU.assignR Is.rfl') rfl ?_
    refine LL.nil (after_code ?_)
    refine LW.ret (after_end ?_)
    refine X.ret (H' := [.cells b7 35 ((vxs l).flatten ++ raws rest7)]) (Res.one (by exact IsR rfl)) (by repeat (exact HSub.refl _)) ?_
    have hof := own_fresh b7 hls hc7 hr7
    rw [hlen] at hof
    exact ⟨b7, c7, _, by rw [hlen]; rfl, rfl, hof⟩
set_option maxHeartbeats 1000000 in
set_option maxRecDepth 100000 in
theorem cloneOH_calls (l : List Hs) (k : Cap) (hl : l.length < 1000000) (h0 : 0 < l.length) : LCalls Tryd.prog 32 [.sl 32 (hss l) k] [] (fun r H' => ∃ b c xs, r = ownV (some b) 0 l.length c ∧ H' = [.cells b 31 xs] ∧ OwnS 32 (hss l) (some b) 0 l.length c xs) := by
  have hls := hss_size l
  have hlen : (hss l).length = l.length := List.length_map ..
  refine LCalls.of Tryd.func32 rfl Tryd.ntmps32 Tryd.results32 rfl (fun Rf => ?_)
  refine LW.seq ?_
  refine LW.region ?_
  refine X.u (LU.assign (Is.nil 32)) rfl ?_
  refine LL.nil (after_code ?_)
  refine LW.seq ?_
  refine LW.seq ?_
  refine LW.region ?_
  refine X.u (LU.moveS Is.rfl') rfl ?_
  refine X.act (LO.nilSl (st := ⟨_, _, _⟩) rfl Tryd.underlying71 Is.rfl' Is.rfl' (fun bb hbb => ?_))
  refine LL.nil (after_code ?_)
  refine X.cond rfl (fun h1 => ?_) (fun h1 => ?_)
  · try have h1 := of_decide_eq_true h1
    refine LW.seq ?_
    refine LW.region ?_
    refine X.u (LU.assign (Is.nil 32)) rfl ?_
    refine LL.nil (after_code ?_)
    refine LW.ret (ret_code (after_end ?_))
    refine X.ret (H' := []) (Res.one (by exact IsS rfl)) (by repeat (exact HSub.refl _)) ?_
    exfalso; have hq := congrArg List.length (hbb h1); rw [hlen] at hq; have hq2 : l.length = 0 := hq; omega
  · try have h1 := of_decide_eq_false h1
    refine LW.skip (after_code ?_)
    refine LW.seq ?_
    refine LW.region ?_
    refine X.act (X.litO rfl Tryd.underlying71 Tryd.sizeOf31 Tryd.zeroValue31 (ones rfl) rfl (by decide) (by decide) Elems.nil (by simp) rfl (fun b5 => ?_))
    refine X.u (LU.moveS Is.rfl') rfl ?_
    refine X.act (X.appendO (z := (.agg #[(.int .u8 0), (.int .u8 0), (.int .u8 0), (.int .u8 0), (.int .u8 0), (.int .u8 0), (.int .u8 0), (.int .u8 0), (.int .u8 0), (.int .u8 0), (.int .u8 0), (.int .u8 0), (.int .u8 0), (.int .u8 0), (.int .u8 0), (.int .u8 0), (.int .u8 0), (.int .u8 0), (.int .u8 0), (.int .u8 0), (.int .u8 0), (.int .u8 0), (.int .u8 0), (.int .u8 0), (.int .u8 0), (.int .u8 0), (.int .u8 0), (.int .u8 0), (.int .u8 0), (.int .u8 0), (.int .u8 0), (.int .u8 0)])) 0 rfl rfl Tryd.underlying71 (El.of (P := Tryd.prog) (z := (.agg #[(.int .u8 0), (.int .u8 0), (.int .u8 0), (.int .u8 0), (.int .u8 0), (.int .u8 0), (.int .u8 0), (.int .u8 0), (.int .u8 0), (.int .u8 0), (.int .u8 0), (.int .u8 0), (.int .u8 0), (.int .u8 0), (.int .u8 0), (.int .u8 0), (.int .u8 0), (.int .u8 0), (.int .u8 0), (.int .u8 0), (.int .u8 0), (.int .u8 0), (.int .u8 0), (.int .u8 0), (.int .u8 0), (.int .u8 0), (.int .u8 0), (.int .u8 0), (.int .u8 0), (.int .u8 0), (.int .u8 0), (.int .u8 0)])) (size := 32) (bytes := 32) rfl rfl rfl) (ones rfl) Is.rfl' Is.rfl' (by simp) (SrcL.slice Tryd.underlying71 (by decide) hls) (by simp only [Option.getD_some, Option.getD_none, byteEls_length, intEls_length, List.length_append, List.length_cons, List.length_nil, List.length_map, List.length_drop, List.length_take, Int.toNat_natCast]; omega) (by simp only [Option.getD_some, Option.getD_none, byteEls_length, intEls_length, List.length_append, List.length_cons, List.length_nil, List.length_map, List.length_drop, List.length_take, Int.toNat_natCast]; omega) (fun b7 c7 rest7 hc7 hr7 => ?_))
    refine X.u (LU.assignR Is.rfl') rfl ?_
    refine LL.nil (after_code ?_)
    refine LW.ret (after_end ?_)
    refine X.ret (H' := [.cells b7 31 ((hss l).flatten ++ raws rest7)]) (Res.one (by exact IsR rfl)) (by repeat (exact HSub.refl _)) ?_
    have hof := own_fresh b7 hls hc7 hr7
    rw [hlen] at hof
    exact ⟨b7, c7, _, by rw [hlen]; rfl, rfl, hof⟩
theorem hss_erase (es : List Hs) (i : Nat) : hss (es.eraseIdx i) = (hss es).eraseIdx i := by
  rw [List.eraseIdx_eq_take_drop_succ, List.eraseIdx_eq_take_drop_succ, ← hss_app]
  show List.map hsL (es.take i) ++ List.map hsL (es.drop (i + 1)) = _
  rw [List.map_take, List.map_drop]
set_option maxHeartbeats 2000000 in
set_option maxRecDepth 100000 in
theorem deleteH_calls (es : List Hs) (b off n c i : Nat) (te : TypeId) (xs : List LV) (ow : OwnS 32 (hss es) (some b) off n c xs) (hi : i < n) (hn : n < 1000000) : LCalls Tryd.prog 43 [ownV (some b) off n c, i64 (i : Nat), i64 ((i + 1 : Nat) : Int)] [.cells b te xs] (fun r H' => r = ownV (some b) off (n - 1) c ∧ ∃ xs', H' = [.cells b te xs'] ∧ OwnS 32 (hss (es.eraseIdx i)) (some b) off (n - 1) c xs') := by
  have hle := ow.le
  have hlen := ow.len
  have hs3 : n * 32 ≤ c * 32 := Nat.mul_le_mul_right _ hle
  obtain ⟨hsr1, hsr2⟩ := del_src ow hi
  rw [← List.map_drop] at hsr2
  have hcnt : es.length = n := by have := ow.cnt; rwa [List.length_map] at this
  have hsr3 : (hss (es.drop (i + 1))).length = n - (i + 1) := by rw [List.length_map, List.length_drop, hcnt]
  have hsr4 : off + i * 32 + (n - (i + 1)) * 32 ≤ xs.length := by omega
  have hfl : (hss (es.drop (i + 1))).flatten.length = (n - (i + 1)) * 32 := by rw [flat_len (hss_size _), hsr3]
  have her := ow.erase (zs := raws z36.cells.toList) hi rfl
  rw [← List.map_drop, ← hss_erase] at her
  refine LCalls.of Tryd.func43 rfl Tryd.ntmps43 Tryd.results43 rfl (fun Rf => ?_)
  refine LW.seq ?_
  refine LW.region ?_
  refine X.u (LU.assign (Is.nil 32)) rfl ?_
  refine LL.nil (after_code ?_)
  refine LW.seq ?_
  refine LW.region ?_
  refine X.u (LU.moveR Is.rfl') rfl ?_
  refine X.u (LU.moveR Is.rfl') rfl ?_
  refine X.u (LU.moveR Is.rfl') rfl ?_
  refine X.u (LU.moveR Is.rfl') rfl ?_
  refine X.u (LU.lenO Tryd.underlying71 Is.rfl') rfl ?_
  refine X.u (LU.sliceR3 Tryd.sizeOf31 Tryd.underlying71 Is.rfl' Is.rfl' Is.rfl' Is.rfl' (by omega) (by omega) (by omega) (by omega)) rfl ?_
  refine LL.nil (after_code ?_)
  refine LW.seq ?_
  refine LW.seq ?_
  refine LW.region ?_
  refine X.u (LU.moveR Is.rfl') rfl ?_
  refine X.u (LU.moveR Is.rfl') rfl ?_
  refine X.u (LU.weak (LU.eql Is.rfl' Is.rfl') (asB (c := false) rfl (by simp; omega))) rfl ?_
  refine LL.nil (after_code ?_)
  refine X.condF rfl ?_ ?_
  · rfl
  refine LW.skip (after_code ?_)
  refine LW.seq ?_
  refine LW.region ?_
  refine X.u (LU.moveR Is.rfl') rfl ?_
  refine X.u (LU.lenO Tryd.underlying71 Is.rfl') rfl ?_
  refine X.u (LU.assignR Is.rfl') rfl ?_
  refine LL.nil (after_code ?_)
  refine LW.seq ?_
  refine X.drawM 6 rfl (by kernel_rfl) rfl ?_
  refine QD.u (LU.moveR Is.rfl') rfl ?_
  refine QD.u (LU.moveR Is.rfl') rfl ?_
  refine QD.u (LU.weak (LU.sliceR (l := none) (h := some ((i : Nat) : Int)) Tryd.sizeOf31 Tryd.underlying71 Is.rfl' trivial ⟨_, Is.rfl'⟩ (by simp) (by simp) (by simp; omega) (by omega)) (Is.of (y := ownV (some b) off i c) (congrArg LV.raw ((slicedV b off _ _ _ _).trans (by simp))))) rfl ?_
  refine QD.u (LU.moveR Is.rfl') rfl ?_
  refine QD.u (LU.moveR Is.rfl') rfl ?_
  refine QD.u (LU.weak (LU.sliceR (l := some ((i + 1 : Nat) : Int)) (h := none) Tryd.sizeOf31 Tryd.underlying71 Is.rfl' ⟨_, Is.rfl'⟩ trivial (by simp; omega) (by simp; omega) (by simp; omega) (by omega)) (Is.of (y := .raw (.slice (some ⟨b, if c = i + 1 then off else off + (i + 1) * 32, none⟩) (n - (i + 1)) (c - (i + 1)))) (congrArg LV.raw ((slicedV b off _ _ _ _).trans (by simp))))) rfl ?_
  refine QD.nil ?_
  refine X.act (LO.appendIn (st := ⟨_, _, _⟩) (ys := hss (es.drop (i + 1))) (b := b) (off := off) (n := i) (c := c) (off2 := if c = i + 1 then off else off + (i + 1) * 32) (n2 := n - (i + 1)) (c2 := c - (i + 1)) 0 rfl rfl Tryd.underlying71 Tryd.underlying71 (El.of (P := Tryd.prog) (z := z36) (size := 32) (bytes := 32) rfl rfl rfl) Is.rfl' Is.rfl' (hss_size _) hsr3 hsr1 hsr2 (by omega) (by omega) hsr4 ?_)
  refine X.weak (t := 26) (v := ownV (some b) off (n - 1) c) (Is.of (congrArg (fun n => LV.raw (.slice (some ⟨b, off, none⟩) n c)) (show i + (n - (i + 1)) = n - 1 by omega))) ?_
  refine X.u (LU.assignR Is.rfl') rfl ?_
  refine LL.nil (after_code ?_)
  refine LW.seq ?_
  obtain ⟨Xr, hX⟩ : ∃ Xr, Xr = putAt xs (off + i * 32) (hss (es.drop (i + 1))).flatten := ⟨_, rfl⟩
  have hXl : Xr.length = xs.length := by rw [hX]; exact putAt_length _ _ _ (by rw [hfl]; omega)
  rw [← hX] at her ⊢
  refine LW.region ?_
  refine X.u (LU.moveR Is.rfl') rfl ?_
  refine X.u (LU.moveR Is.rfl') rfl ?_
  refine X.u (LU.lenO Tryd.underlying71 Is.rfl') rfl ?_
  refine X.u (LU.moveR Is.rfl') rfl ?_
  refine X.u (LU.weak (LU.sliceR (l := some ((n - 1 : Nat) : Int)) (h := some ((n : Nat) : Int)) Tryd.sizeOf31 Tryd.underlying71 Is.rfl' ⟨_, Is.rfl'⟩ ⟨_, Is.rfl'⟩ (by simp) (by simp) (by simp; omega) (by omega)) (Is.of (y := .raw (.slice (some ⟨b, off + (n - 1) * 32, none⟩) 1 (c - (n - 1)))) (congrArg LV.raw ((slicedV b off _ _ _ _).trans (by rw [if_neg (by simp; omega)]; (simp; omega)))))) rfl ?_
  refine X.act (LO.clear1 (st := ⟨_, _, _⟩) 0 rfl Tryd.underlying71 Tryd.zeroValue31 (ones rfl) Is.rfl' (by show off + (n - 1) * 32 + 32 ≤ Xr.length; omega) ?_)
  refine LL.nil (after_code ?_)
  refine LW.seq ?_
  refine LW.region ?_
  refine X.u (LU.moveR Is.rfl') rfl ?_
  refine X.u (LU.assignR Is.rfl') rfl ?_
  refine LL.nil (after_code ?_)
  refine LW.ret (after_end ?_)
  refine X.ret (H' := [.cells b te (putAt Xr (off + (n - 1) * 32) (raws z36.cells.toList))]) (Res.one (by exact IsR rfl)) (by repeat (exact HSub.refl _)) ?_
  exact ⟨rfl, _, rfl, her⟩
end Go.Proofs.YtolpkeajokjbjaaDoor
