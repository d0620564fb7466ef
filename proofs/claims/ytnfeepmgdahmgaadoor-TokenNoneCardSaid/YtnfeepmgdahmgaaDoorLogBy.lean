/- []byte(s) whose bytes are owned and stored to: an owned object, its bytes told. Plain theorems over any program. -/
import Derived.Test.YtnfeepmgdahmgaaDoorLgC
set_option linter.unusedVariables false
set_option linter.unusedSimpArgs false
namespace Go.L
open Go.RowKit
abbrev bcs (l : List UInt8) (k : Nat) : Array Value := ((l.map fun b => Value.int .u8 b.toNat) ++ List.replicate k (Value.int .u8 0)).toArray
abbrev bobj (b : Nat) (e : TypeId) (l : List UInt8) (k : Nat) : Atom := .obj b (.cells (bcs l k) e (l.length + k, l.length + k + 1))
abbrev bels (l : List UInt8) (k : Nat) : List LV := (l.map fun b => LV.raw (.int .u8 b.toNat)) ++ List.replicate k (LV.raw (.int .u8 0))
theorem bcs_size (l : List UInt8) (k : Nat) : (bcs l k).size = l.length + k := by simp [bcs]
theorem bcs_reps {ph : PH} (l : List UInt8) (k : Nat) : CReps ph (bcs l k) (bels l k) := by
  have key : ∀ (i : Nat) (v : Value), (bcs l k)[i]? = some v → (bels l k)[i]? = some (.raw v) ∧ v.oneCell' = true := fun i v hv => by
    simp only [bcs, bels, List.getElem?_toArray, List.getElem?_append, List.length_map] at hv ⊢
    split at hv
    · rename_i hi
      rw [if_pos hi]
      rw [List.getElem?_map] at hv ⊢
      cases hx : l[i]? with
      | none => rw [hx] at hv; cases hv
      | some x => rw [hx] at hv; obtain rfl := Option.some.inj hv; exact ⟨rfl, rfl⟩
    · rename_i hi
      rw [if_neg hi]
      rw [List.getElem?_replicate] at hv ⊢
      split at hv
      · rename_i h2
        rw [if_pos h2]
        obtain rfl := Option.some.inj hv
        exact ⟨rfl, rfl⟩
      · cases hv
  refine ⟨⟨by simp [bcs, bels], fun i v x hv hx => ?_⟩, fun i c hc => (key i c hc).2⟩
  rw [(key i v hv).1] at hx
  rw [← Option.some.inj hx]
  exact .raw _
theorem bels_get {l : List UInt8} {k i : Nat} (h : i < l.length) : (bels l k)[i]? = some (.raw (.int .u8 (l.getD i 0).toNat)) := by
  rw [List.getElem?_append_left (by rw [List.length_map]; exact h), List.getElem?_map, List.getElem?_eq_getElem h, List.getD_eq_getElem?_getD, List.getElem?_eq_getElem h]
  rfl
theorem bcs_set {l : List UInt8} {k i : Nat} (v : Nat) (hv : v < 256) (h : i < l.length) : (bcs l k).setIfInBounds i (.int .u8 v) = bcs (l.set i (UInt8.ofNat v)) k := by
  have hu : (UInt8.ofNat v).toNat = v := by rw [UInt8.toNat_ofNat']; exact Nat.mod_eq_of_lt hv
  rw [bcs, List.setIfInBounds_toArray, List.set_append_left _ _ (by rw [List.length_map]; exact h), bcs, List.map_set, hu]
section
variable {P : Program} {st : LS} {env : List (Nat × LV)} {H : List Atom} {K : LS → Prop} {ty : TypeId} {pos : String} {af : Array Edge} {g : Option (Nat × Bool)}
theorem LO.bytesO {x : Operand} {src dst e : TypeId} {l : List UInt8} {u : TypeDesc} {d : Tmp} (hds : Nat.blt d st.n.k = true) (hs : P.underlying src = some u) (hd : P.underlying dst = some (.slice e)) (he : P.underlying e = some (.int .u8)) (hx : Is (ev st.env x) (Str l))
    (h : ∀ b c k, l.length ≤ c → K ⟨st.n, (d, .raw (.slice (some ⟨b, 0, none⟩) l.length c)) :: st.env, bobj b e l k :: st.heap⟩) : LO P ⟨some d, .convert src dst x, ty, pos, af, g⟩ st K := .of_run hds fun w0 ph a w r => by
  have h1 := (hx _ _ (r.tmps.eval x)).rawE
  have hrun := Lib.run_convert_string_bytes (P := P) w src dst e ⟨l.toArray⟩ hs hd he
  have hb : Below w.heap.size w (Lib.bytesWorld w e ⟨l.toArray⟩) := ⟨rfl, rfl, rfl, by rw [Lib.bytesWorld_size]; omega, fun k hk => Lib.bytesWorld_at_old w e _ k hk⟩
  have hsz : (⟨l.toArray⟩ : ByteArray).size = l.length := by simp [ByteArray.size]
  have hge := grownCap_ge w (⟨l.toArray⟩ : ByteArray).size 0 e
  obtain ⟨c, hc⟩ : ∃ c, c = grownCap w (⟨l.toArray⟩ : ByteArray).size 0 e := ⟨_, rfl⟩
  rw [← hc] at hrun hge
  rw [hsz] at hrun hge
  have hcs : Lib.bytesCells w e ⟨l.toArray⟩ = bcs l (c - l.length) := by
    apply Array.toList_inj.1
    simp [Lib.bytesCells, ByteArray.size]
    rw [hc, hsz]
  have hnew := Lib.bytesWorld_at_new w e ⟨l.toArray⟩
  rw [hcs, bcs_size] at hnew
  have hi : Inv w0 ph (Lib.bytesWorld w e ⟨l.toArray⟩) (bobj w.heap.size e l (c - l.length) :: st.heap) :=
    Inv.upd (H1 := []) (H2 := [bobj w.heap.size e l (c - l.length)]) (R := st.heap) r.inv (PH.le.refl _) (fun F hF _ => ⟨Chg.below hb _, fun b _ => b = w.heap.size, ⟨fun b _ => b = w.heap.size, fun _ _ => False, ⟨fun _ _ => Iff.rfl, hnew⟩, fun _ _ h => h, fun b o => by simp, fun _ _ _ h => h⟩, fun b o hb' => .inr (by rw [hb']; exact Nat.le_refl _), fun a u ha => .inl ha⟩)
  exact ⟨_, .slice (some ⟨w.heap.size, 0, none⟩) l.length c, Lib.bytesWorld w e ⟨l.toArray⟩, ph, _, by simp [execOp, h1, hrun], PH.le.refl _, hi, .raw _, h _ _ _ (by omega)⟩
theorem LU.loadB {d : Option Tmp} {x : Operand} {t e : TypeId} {l : List UInt8} {kz b off : Nat} {v : LV} (k : Nat) (hk : H[k]? = some (bobj b e l kz)) (ht : Ty P t 1 false) (hx : Is (ev env x) (.raw (.pointer (some ⟨b, off, none⟩)))) (hv : Part 1 false (bels l kz) off v) : LU P env H ⟨d, .load t x, ty, pos, af, g⟩ v := .of_run fun ph a hl w0 w hinv => by
  have h1 := (hx _ _ (hl x (by simp [Op.operands]))).rawE
  obtain ⟨F, hF, hh⟩ := hinv.atom_at hk
  obtain ⟨z, hrun, hrep⟩ := creps_part (P := P) (bcs_reps (ph := ph) l kz) ht hv (w := w) (b := b) (fun i c hi => by rw [cell_of_row w b i (bcs l kz) e _ hh]; exact hi)
  exact ⟨z, by simp [execOp, h1, Instr.loadAt, Instr.sureAddr, hrun], hrep⟩
theorem LO.storeB {x y : Operand} {t e : TypeId} {l : List UInt8} {kz b off v : Nat} (k : Nat) (hk : st.heap[k]? = some (bobj b e l kz)) (hs : ∀ w, (sizeOf t).run P w = .ok 1 w) (hx : Is (ev st.env x) (.raw (.pointer (some ⟨b, off, none⟩)))) (hy : Is (ev st.env y) (.raw (.int .u8 v))) (hv : v < 256) (ho : off < l.length)
    (h : K ⟨st.n, st.env, bobj b e (l.set off (UInt8.ofNat v)) kz :: st.heap.eraseIdx k⟩) : LO P ⟨none, .store t x y, ty, pos, af, g⟩ st K := .of_skip fun w0 ph a w r => by
  have h1 := (hx _ _ (r.tmps.eval x)).rawE
  have h2 := (hy _ _ (r.tmps.eval y)).rawE
  have hinv := r.inv.front k
  unfold L.front at hinv
  rw [hk] at hinv
  obtain ⟨F, hF, hh⟩ := hinv.atom
  have hsz := bcs_size l kz
  have hthere : w.there b off (a.eval y).cells.size := fun j hj => by
    rw [h2] at hj
    obtain rfl : j = 0 := by have : (Value.int .u8 (v : Int)).cells.size = 1 := rfl; omega
    rw [cell_of_row w b (off + 0) (bcs l kz) e _ hh, Array.getElem?_eq_getElem (by omega)]
    refine ⟨rfl, ?_⟩
    simp [World.frozen?, hh]
    omega
  have hrun := run_storeVar_any (P := P) hs (a.eval y) w b off hthere (by rw [h2]; rfl) (by rw [h2]; intro i c hi; match i with
    | 0 => obtain rfl := Option.some.inj hi; rfl
    | i + 1 => cases hi)
  have hrow : (w.setCells b off (a.eval y).cells.toList).heap[b]? = some (.cells (bcs (l.set off (UInt8.ofNat v)) kz) e (l.length + kz, l.length + kz + 1)) := by
    rw [h2]
    show (w.setCell ⟨b, off, none⟩ (.int .u8 v)).heap[b]? = _
    rw [← bcs_set v hv ho]
    simp [World.setCell, Array.getElem?_modify, hh]
  refine ⟨w.setCells b off (a.eval y).cells.toList, ph, _, by simp [execOp, h1, Instr.storeAt, Instr.sureAddr, hrun], PH.le.refl _, hinv.turn (a' := bobj b e (l.set off (UInt8.ofNat v)) kz) (PH.le.refl _) (fun G hG hn => ⟨(chg_setCells _ w).mono (fun b' o' hb => (hG.1 b' o').2 hb), G, ⟨hG.1, by rw [hrow, List.length_set]⟩, fun b' o' hb => .inl hb, fun p u hp => .inl hp⟩), h⟩
theorem Inv.freezeB {w0 : Base} {ph : PH} {w : World} {b : Nat} {e : TypeId} {l : List UInt8} {k : Nat} (h : Inv w0 ph w (bobj b e l k :: H)) : ∃ ph', PH.le ph ph' ∧ Inv w0 ph' w H ∧ ∀ i, i < (bcs l k).size → ph' ⟨b, i, none⟩ = (bcs l k)[i]? := by
  obtain ⟨F, hF, hh⟩ := h.atom
  have hle : PH.le ph (PH.ext ph b 0 (bcs l k).size (bcs l k)) := PH.le_ext fun i _ hi => by
    obtain ⟨_, _, _, F', ⟨F1, F2, h1, h2, h3, h4⟩, hF'⟩ := h
    exact (hF' b i ((h3 b i).2 (.inl ((h1.1 b i).2 rfl)))).2 ⟨b, i, none⟩ rfl rfl
  refine ⟨PH.ext ph b 0 (bcs l k).size (bcs l k), hle, ?_, fun i hi => PH.ext_in ⟨Nat.zero_le _, hi⟩⟩
  have := Inv.upd (H1 := [bobj b e l k]) (H2 := []) (R := H) (w' := w) h hle (fun G ⟨F1, F2, h1, h2, h3, h4⟩ hn => ⟨Chg.refl _ _, fun _ _ => False, fun _ _ h => h, fun _ _ h => h.elim, fun a u ha => by
    rcases PH.ext_cases ha with ⟨e', h5, h6, h7⟩ | h5
    · refine .inr ⟨⟨?_, (bcs_reps (ph := ph) l k).2 _ _ h7⟩, fun h => h, .inl ((h3 _ _).2 (.inl ((h1.1 _ _).2 (by rw [e']))))⟩
      rw [e', cell_of_row w b a.off (bcs l k) e _ hh]
      exact h7
    · exact .inl h5⟩)
  exact this
/-- The bytes of a slice, from now on known. -/
theorem LW.freezeB {cd : Code} {Q : Exit → LS → Prop} {t b c kz : Nat} {e : TypeId} {l : List UInt8} (k : Nat) (hk : st.heap[k]? = some (bobj b e l kz)) (ht : get st.env t = .raw (.slice (some ⟨b, 0, none⟩) l.length c)) (hnc : l.length ≤ c)
    (h : LW P cd ⟨st.n, (t, .sl 1 (byteEls l) .unk) :: st.env, st.heap.eraseIdx k⟩ Q) : LW P cd st Q := fun w0 ph a w r Q' q => by
  have hinv := r.inv.front k
  unfold L.front at hinv
  rw [hk] at hinv
  obtain ⟨ph', hle, hi, hp⟩ := Inv.freezeB hinv
  refine h w0 ph' a w ⟨hi, r.defers, r.size, fun i => ?_⟩ Q' fun e ph2 st2 a2 w2 hle2 r2 q2 => q e ph2 st2 a2 w2 (hle.trans hle2) r2 q2
  by_cases hit : t = i
  · subst hit
    rw [get_same]
    have := r.tmps t
    rw [ht] at this
    rw [this.rawE]
    exact freeze_rep (bcs_reps l kz) hp (byteEls_size l) (byteEls_length l) (by simp [bels]) (by rw [byteEls_flat, List.drop_zero, Nat.mul_one, List.take_append_of_le_length (by rw [List.length_map]; exact Nat.le_refl _), List.take_of_length_le (by rw [List.length_map]; exact Nat.le_refl _)]) hnc
  · rw [get_other hit]
    exact (r.tmps i).mono hle
end
section
variable {P : Program} {n : NN} {env : List (Nat × LV)} {H : List Atom} {K : LS → Prop} {ty : TypeId} {pos : String} {af : Array Edge} {g : Option (Nat × Bool)}
theorem X.bytesO {x : Operand} {src dst e : TypeId} {l : List UInt8} {u : TypeDesc} {d : Tmp} (hds : Nat.blt d n.k = true) (hs : P.underlying src = some u) (hd : P.underlying dst = some (.slice e)) (he : P.underlying e = some (.int .u8)) (hx : Is (ev env x) (Str l))
    (h : ∀ b c k, l.length ≤ c → K ⟨n, (d, .raw (.slice (some ⟨b, 0, none⟩) l.length c)) :: env, bobj b e l k :: H⟩) : LO P ⟨some d, .convert src dst x, ty, pos, af, g⟩ ⟨n, env, H⟩ K := LO.bytesO (st := ⟨n, env, H⟩) hds hs hd he hx h
theorem X.storeB {x y : Operand} {t e : TypeId} {l : List UInt8} {kz b off v : Nat} (k : Nat) (hk : H[k]? = some (bobj b e l kz)) (hs : ∀ w, (sizeOf t).run P w = .ok 1 w) (hx : Is (ev env x) (.raw (.pointer (some ⟨b, off, none⟩)))) (hy : Is (ev env y) (.raw (.int .u8 v))) (hv : v < 256) (ho : off < l.length)
    (h : K ⟨n, env, bobj b e (l.set off (UInt8.ofNat v)) kz :: H.eraseIdx k⟩) : LO P ⟨none, .store t x y, ty, pos, af, g⟩ ⟨n, env, H⟩ K := LO.storeB (st := ⟨n, env, H⟩) k hk hs hx hy hv ho h
end
end Go.L
