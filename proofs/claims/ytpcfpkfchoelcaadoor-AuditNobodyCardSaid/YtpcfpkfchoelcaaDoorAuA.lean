/- Entries; an entry's digest. -/
import Derived.Test.YtpcfpkfchoelcaaDoorHsH
import Derived.Test.YtpcfpkfchoelcaaDoorOcP
import Derived.Test.YtpcfpkfchoelcaaDoorLogZ
import Derived.Test.YtpcfpkfchoelcaaDoorLogR
set_option linter.unusedVariables false
set_option linter.unusedSimpArgs false
namespace Go.Proofs.YtpcfpkfchoelcaaDoor
open Go.RowKit Go.L
attribute [local irreducible] LL LW LO
abbrev ptr (g : Nat) : Value := .pointer (some ⟨g, 0, none⟩)
abbrev u8s (l : List UInt8) : List LV := l.map fun b => LV.raw (.int .u8 b.toNat)
abbrev H32 (l : List UInt8) : LV := .agg (u8s l)
def shaB (b : List UInt8) : List UInt8 := (sha b).map UInt8.ofNat
theorem obs_lt (s : S8) (i : Nat) : ∀ x ∈ obs s i, x < 256 := fun x hx => by
  unfold obs at hx
  rcases List.mem_append.1 hx with h | h
  · obtain ⟨j, _, rfl⟩ := List.mem_map.1 h
    unfold ob
    exact Nat.mod_lt _ (by decide)
  · rw [(List.mem_replicate.1 h).2]; decide
theorem sha_lt (b : List UInt8) : ∀ x ∈ sha b, x < 256 := obs_lt _ _
theorem shaB_len (b : List UInt8) : (shaB b).length = 32 := by simp [shaB]
theorem D32_eq (b : List UInt8) : D32 (sha b) = H32 (shaB b) := by
  unfold D32 H32 u8s shaB
  rw [List.map_map]
  congr 1
  refine List.map_congr_left fun x hx => ?_
  have := sha_lt b x hx
  simp; omega
theorem hash2_calls (b : List UInt8) (k : Cap) (hb : b.length < 1099511627776) : LCalls Tryd.prog 28 [Bytes b k] [kw] (fun r H' => r = H32 (shaB b) ∧ H' = [kw]) := by rw [← D32_eq]; exact hash_calls b k hb
theorem rhash2_calls (b : List UInt8) (k : Cap) (hb : b.length < 1099511627776) : LCalls Tryd.prog 36 [Bytes b k] [] (fun r H' => r = H32 (shaB b) ∧ H' = []) := by rw [← D32_eq]; exact refhash_calls b k hb
structure Ent where
  seq : Int
  tick : Int
  who : List UInt8
  what : List UInt8
  prev : List UInt8
deriving DecidableEq
abbrev entL (e : Ent) : List LV := i64 e.seq :: i64 e.tick :: Str e.who :: Str e.what :: u8s e.prev
abbrev ents (l : List Ent) : List (List LV) := l.map entL
def EntOk (e : Ent) : Prop := (-9223372036854775808 ≤ e.seq ∧ e.seq < 9223372036854775808) ∧ (-9223372036854775808 ≤ e.tick ∧ e.tick < 9223372036854775808) ∧ e.who.length ≤ 1000000 ∧ e.what.length ≤ 1000000 ∧ e.prev.length = 32
def zero32 : List UInt8 := List.replicate 32 0
def zeroE : Ent := ⟨0, 0, [], [], zero32⟩
theorem zeroE_ok : EntOk zeroE := ⟨by decide, by decide, by decide, by decide, by decide⟩
def bytesE (e : Ent) : List UInt8 := numB e.seq.toNat ++ numB e.tick.toNat ++ txtB e.who ++ txtB e.what ++ e.prev
def digE (e : Ent) : List UInt8 := shaB (bytesE e)
theorem digE_len (e : Ent) : (digE e).length = 32 := shaB_len _
def headE (l : List Ent) : List UInt8 := match l.getLast? with
  | none => zero32
  | some e => digE e
theorem headE_len (l : List Ent) : (headE l).length = 32 := by
  unfold headE
  split
  · rfl
  · exact digE_len _
/-- Quiet forms. -/
theorem putQ_calls (l : List UInt8) (k : Cap) (n : Nat) (hl : l.length < 1099511627776) (hn : n < 18446744073709551616) : LCalls Tryd.prog 26 [Bytes l k, u64 n] [] (fun r H' => r = Bytes (l ++ numB n) .unk ∧ H' = []) :=
  (put_calls l k n hl hn).weak fun r H' ⟨b, o, c, h1, h2⟩ => ⟨_, [], by rw [h1]; exact Is.unk, by rw [h2]; exact HSub.drop (HSub.refl _), rfl, rfl⟩
theorem ptextQ_calls (l : List UInt8) (k : Cap) (s : List UInt8) (hl : l.length < 1099511627776) (hs : s.length < 1099511627776) : LCalls Tryd.prog 27 [Bytes l k, Str s] [] (fun r H' => r = Bytes (l ++ txtB s) .unk ∧ H' = []) :=
  (ptext_calls l k s hl hs).weak fun r H' ⟨b, o, c, h1, h2⟩ => ⟨_, [], by rw [h1]; exact Is.unk, by rw [h2]; exact HSub.drop (HSub.refl _), rfl, rfl⟩
theorem rputQ_calls (l : List UInt8) (k : Cap) (n : Nat) (hl : l.length < 1099511627776) (hn : n < 18446744073709551616) : LCalls Tryd.prog 33 [Bytes l k, u64 n] [] (fun r H' => r = Bytes (l ++ numB n) .unk ∧ H' = []) :=
  (rput_calls l k n hl hn).weak fun r H' ⟨b, o, c, h1, h2⟩ => ⟨_, [], by rw [h1]; exact Is.unk, by rw [h2]; exact HSub.drop (HSub.refl _), rfl, rfl⟩
theorem rptextQ_calls (l : List UInt8) (k : Cap) (s : List UInt8) (hl : l.length < 1099511627776) (hs : s.length < 1099511627776) : LCalls Tryd.prog 35 [Bytes l k, Str s] [] (fun r H' => r = Bytes (l ++ txtB s) .unk ∧ H' = []) :=
  (rptext_calls l k s hl hs).weak fun r H' ⟨b, o, c, h1, h2⟩ => ⟨_, [], by rw [h1]; exact Is.unk, by rw [h2]; exact HSub.drop (HSub.refl _), rfl, rfl⟩
theorem txtB_len {s : List UInt8} (h : s.length ≤ 1000000) : (txtB s).length ≤ 1000010 := by
  have := numB_10 (n := s.length) (by omega)
  unfold txtB
  simp; omega
theorem part_prev (e : Ent) (h : e.prev.length = 32) : LV.agg (((entL e).drop 4).take 32) = H32 e.prev := by
  show LV.agg ((u8s e.prev).take 32) = _
  rw [List.take_of_length_le (by simp; omega)]
set_option maxRecDepth 100000 in
theorem digest_calls (e : Ent) (he : EntOk e) : LCalls Tryd.prog 15 [.agg (entL e)] [kw] (fun r H' => r = H32 (digE e) ∧ H' = [kw]) := by
  obtain ⟨hs, ht, hw1, hw2, hp⟩ := he
  have hn1 := numB_10 (n := e.seq.toNat) (by omega)
  have hn2 := numB_10 (n := e.tick.toNat) (by omega)
  have ht1 := txtB_len hw1
  have ht2 := txtB_len hw2
  have hdl := digE_len e
  obtain ⟨D, hD⟩ : ∃ D, D = digE e := ⟨_, rfl⟩
  have hsum : ∀ k, LCalls Tryd.prog 28 [Bytes (bytesE e) k] [kw] (fun r H' => r = H32 D ∧ H' = [kw]) := fun k => by rw [hD]; exact hash2_calls _ k (by unfold bytesE; simp; omega)
  rw [← hD] at hdl ⊢
  clear hD
  refine LCalls.of Tryd.func15 rfl Tryd.ntmps15 Tryd.results15 rfl (fun Rf => ?_)
  refine LW.seq ?_
  refine LW.region ?_
  refine X.act (X.box rfl Is.rfl' (by exact Cells.agg) (fun b1 => ?_))
  refine X.act (X.alloc rfl Tryd.zeroValue26 (by exact Cells.rawagg (by decide)) (fun b2 => ?_))
  refine LL.nil (after_code ?_)
  refine LW.seq ?_
  refine X.drawM 11 rfl (by kernel_rfl) rfl ?_
  refine QD.u (LU.fieldO Tryd.underlying28 rfl Tryd.sizeOf3 (by decide) Is.rfl') rfl ?_
  refine QD.u (LU.loadO 1 rfl ⟨Tryd.sizeOf3, Tryd.isAgg3⟩ Is.rfl' (Part.one rfl)) rfl ?_
  refine QD.u (LU.max2 Is.rfl' Is.rfl') rfl ?_
  refine QD.u (LU.weak (LU.convN Tryd.underlying3 Tryd.underlying59 Is.rfl' (wrap_u64 (by omega) (by omega))) (Is.of (y := u64 e.seq.toNat) (congrArg (fun z => LV.raw (.int .u64 z)) (by omega)))) rfl ?_
  refine QD.u (LU.call (putQ_calls [] .full e.seq.toNat (by simp) (by omega)) Tryd.func26 rfl rfl (Opds.cons (Is.nil 1) (Opds.cons Is.rfl' Opds.nil))) rfl ?_
  refine QD.u (LU.fieldO Tryd.underlying28 rfl Tryd.sizeOf3 (by decide) Is.rfl') rfl ?_
  refine QD.u (LU.loadO 1 rfl ⟨Tryd.sizeOf3, Tryd.isAgg3⟩ Is.rfl' (Part.one rfl)) rfl ?_
  refine QD.u (LU.max2 Is.rfl' Is.rfl') rfl ?_
  refine QD.u (LU.weak (LU.convN Tryd.underlying3 Tryd.underlying59 Is.rfl' (wrap_u64 (by omega) (by omega))) (Is.of (y := u64 e.tick.toNat) (congrArg (fun z => LV.raw (.int .u64 z)) (by omega)))) rfl ?_
  refine QD.u (LU.call (putQ_calls (numB e.seq.toNat) .unk e.tick.toNat (by omega) (by omega)) Tryd.func26 rfl rfl (Opds.cons Is.rfl' (Opds.cons Is.rfl' Opds.nil))) rfl ?_
  refine QD.u (LU.assignS Is.rfl') rfl ?_
  refine QD.nil ?_
  refine LL.nil (after_code ?_)
  refine LW.seq ?_
  refine X.drawM 6 rfl (by kernel_rfl) rfl ?_
  refine QD.u (LU.moveS Is.rfl') rfl ?_
  refine QD.u (LU.fieldO Tryd.underlying28 rfl Tryd.sizeOf9 (by decide) Is.rfl') rfl ?_
  refine QD.u (LU.loadO 1 rfl ⟨Tryd.sizeOf9, Tryd.isAgg9⟩ Is.rfl' (Part.one rfl)) rfl ?_
  refine QD.u (LU.call (ptextQ_calls (numB e.seq.toNat ++ numB e.tick.toNat) .unk e.who (by simp; omega) (by omega)) Tryd.func27 rfl rfl (Opds.cons Is.rfl' (Opds.cons Is.rfl' Opds.nil))) rfl ?_
  refine QD.u (LU.fieldO Tryd.underlying28 rfl Tryd.sizeOf9 (by decide) Is.rfl') rfl ?_
  refine QD.u (LU.loadO 1 rfl ⟨Tryd.sizeOf9, Tryd.isAgg9⟩ Is.rfl' (Part.one rfl)) rfl ?_
  refine QD.nil ?_
  refine X.act (X.call (ptext_calls (numB e.seq.toNat ++ numB e.tick.toNat ++ txtB e.who) .unk e.what (by simp; omega) (by omega)) Tryd.func27 rfl rfl rfl (HSub.refl _) (Opds.cons Is.rfl' (Opds.cons Is.rfl' Opds.nil)) ?_)
  rintro r H' ⟨b20, o20, c20, rfl, rfl⟩
  refine X.u (LU.assignS Is.rfl') rfl ?_
  refine LL.nil (after_code ?_)
  refine LW.seq ?_
  refine LW.region ?_
  refine X.u (LU.moveS Is.rfl') rfl ?_
  refine X.u (LU.fieldO Tryd.underlying28 rfl Tryd.sizeOf26 (by decide) Is.rfl') rfl ?_
  refine X.u (LU.sliceOA Tryd.underlying26 Tryd.sizeOf5 Is.rfl') rfl ?_
  refine X.act (X.appendG (A0 := [.cells b1 28 (entL e)]) 0 rfl rfl Tryd.underlying57 (El.of (P := Tryd.prog) (z := .int .u8 0) (size := 1) (bytes := 1) rfl rfl rfl) Is.rfl' Is.rfl' (by simp) (SrcG.cells (ys := byteEls e.prev) (n := 32) Tryd.underlying57 (by decide) (byteEls_size e.prev) (by rw [byteEls_length, hp]) (by simp; omega) (by rw [byteEls_flat]; show _ = (u8s e.prev).take (32 * 1); rw [List.take_of_length_le (by simp; omega)]) (Nat.le_refl _)) (by simp only [byteEls_length, List.length_append]; omega) (by simp only [byteEls_length, List.length_append]; omega) (fun b24 o24 c24 => ?_))
  refine X.weak (t := 24) (v := Bytes (bytesE e) (.tok b24 o24 c24)) (Is.of (congrArg (fun z => LV.sl 1 z (.tok b24 o24 c24)) (byteEls_append _ _).symm)) ?_
  refine X.act (X.call (hsum _) Tryd.func28 rfl rfl rfl (by (refine HSub.pick 3 rfl ?_); exact HSub.refl _) (Opds.cons Is.rfl' Opds.nil) ?_)
  rintro r H' ⟨rfl, rfl⟩
  refine X.act (X.store 2 rfl Tryd.sizeOf26 Is.rfl' Is.rfl' (by exact Cells.agg) (by (simp; omega)) (by exact Nat.le_of_ble_eq_true rfl) ?_)
  refine LL.nil (after_code ?_)
  refine LW.ret (after_end ?_)
  rw [putAt_all (by simp [raws, hdl])]
  refine X.ret (H' := [kw]) (by exact Res.cell1 0 rfl rfl ⟨Tryd.sizeOf26, Tryd.isAgg26⟩ (Part.whole (by (simp; omega))) (by exact IsA rfl)) (by repeat (first | exact HSub.refl _ | refine HSub.pick 1 rfl ?_ | refine HSub.drop ?_)) ?_
  exact ⟨rfl, rfl⟩
set_option maxRecDepth 100000 in
theorem from0_calls (n : Int) (h1 : -9223372036854775808 ≤ n) (h2 : n < 9223372036854775808) : LCalls Tryd.prog 34 [i64 n] [] (fun r H' => r = u64 n.toNat ∧ H' = []) := by
  refine LCalls.of Tryd.func34 rfl Tryd.ntmps34 Tryd.results34 rfl (fun Rf => ?_)
  refine LW.seq ?_
  refine LW.region ?_
  refine X.u (LU.assignR Is.rfl') rfl ?_
  refine LL.nil (after_code ?_)
  refine LW.seq ?_
  refine LW.seq ?_
  refine LW.region ?_
  refine X.u (LU.moveR Is.rfl') rfl ?_
  refine X.u (LU.lss Is.rfl' Is.rfl') rfl ?_
  refine LL.nil (after_code ?_)
  refine X.cond rfl (fun h1 => ?_) (fun h1 => ?_)
  · try have h1 := of_decide_eq_true h1
    refine LW.seq ?_
    refine LW.region ?_
    refine X.u (LU.assignR Is.rfl') rfl ?_
    refine LL.nil (after_code ?_)
    refine LW.ret (ret_code (after_end ?_))
    refine X.ret (H' := []) (Res.one (by exact IsR rfl)) (by repeat (exact HSub.refl _)) ?_
    exact ⟨congrArg (fun z => LV.raw (.int .u64 z)) (show (0 : Int) = (n.toNat : Int) by omega), rfl⟩
  · try have h1 := of_decide_eq_false h1
    refine LW.skip (after_code ?_)
    refine LW.seq ?_
    refine LW.region ?_
    refine X.u (LU.moveR Is.rfl') rfl ?_
    refine X.u (LU.convN Tryd.underlying3 Tryd.underlying59 Is.rfl' (wrap_u64 (by omega) (by omega))) rfl ?_
    refine X.u (LU.assignR Is.rfl') rfl ?_
    refine LL.nil (after_code ?_)
    refine LW.ret (after_end ?_)
    refine X.ret (H' := []) (Res.one (by exact IsR rfl)) (by repeat (exact HSub.refl _)) ?_
    exact ⟨congrArg (fun z => LV.raw (.int .u64 z)) (show n = (n.toNat : Int) by omega), rfl⟩
set_option maxRecDepth 100000 in
theorem rdigest_calls (e : Ent) (he : EntOk e) : LCalls Tryd.prog 24 [.agg (entL e)] [] (fun r H' => r = H32 (digE e) ∧ H' = []) := by
  obtain ⟨hs, ht, hw1, hw2, hp⟩ := he
  have hn1 := numB_10 (n := e.seq.toNat) (by omega)
  have hn2 := numB_10 (n := e.tick.toNat) (by omega)
  have ht1 := txtB_len hw1
  have ht2 := txtB_len hw2
  have hdl := digE_len e
  obtain ⟨D, hD⟩ : ∃ D, D = digE e := ⟨_, rfl⟩
  have hsum : ∀ k, LCalls Tryd.prog 36 [Bytes (bytesE e) k] [] (fun r H' => r = H32 D ∧ H' = []) := fun k => by rw [hD]; exact rhash2_calls _ k (by unfold bytesE; simp; omega)
  rw [← hD] at hdl ⊢
  clear hD
  refine LCalls.of Tryd.func24 rfl Tryd.ntmps24 Tryd.results24 rfl (fun Rf => ?_)
  refine LW.seq ?_
  refine LW.region ?_
  refine X.act (X.box rfl Is.rfl' (by exact Cells.agg) (fun b1 => ?_))
  refine X.act (X.alloc rfl Tryd.zeroValue26 (by exact Cells.rawagg (by decide)) (fun b2 => ?_))
  refine LL.nil (after_code ?_)
  refine LW.seq ?_
  refine X.drawM 9 rfl (by kernel_rfl) rfl ?_
  refine QD.u (LU.fieldO Tryd.underlying28 rfl Tryd.sizeOf3 (by decide) Is.rfl') rfl ?_
  refine QD.u (LU.loadO 1 rfl ⟨Tryd.sizeOf3, Tryd.isAgg3⟩ Is.rfl' (Part.one rfl)) rfl ?_
  refine QD.u (LU.call (from0_calls e.seq (by omega) (by omega)) Tryd.func34 rfl rfl (Opds.cons Is.rfl' Opds.nil)) rfl ?_
  refine QD.u (LU.call (rputQ_calls [] .full e.seq.toNat (by simp) (by omega)) Tryd.func33 rfl rfl (Opds.cons (Is.nil 1) (Opds.cons Is.rfl' Opds.nil))) rfl ?_
  refine QD.u (LU.fieldO Tryd.underlying28 rfl Tryd.sizeOf3 (by decide) Is.rfl') rfl ?_
  refine QD.u (LU.loadO 1 rfl ⟨Tryd.sizeOf3, Tryd.isAgg3⟩ Is.rfl' (Part.one rfl)) rfl ?_
  refine QD.u (LU.call (from0_calls e.tick (by omega) (by omega)) Tryd.func34 rfl rfl (Opds.cons Is.rfl' Opds.nil)) rfl ?_
  refine QD.u (LU.call (rputQ_calls (numB e.seq.toNat) .unk e.tick.toNat (by omega) (by omega)) Tryd.func33 rfl rfl (Opds.cons Is.rfl' (Opds.cons Is.rfl' Opds.nil))) rfl ?_
  refine QD.u (LU.assignS Is.rfl') rfl ?_
  refine QD.nil ?_
  refine LL.nil (after_code ?_)
  refine LW.seq ?_
  refine X.drawM 6 rfl (by kernel_rfl) rfl ?_
  refine QD.u (LU.moveS Is.rfl') rfl ?_
  refine QD.u (LU.fieldO Tryd.underlying28 rfl Tryd.sizeOf9 (by decide) Is.rfl') rfl ?_
  refine QD.u (LU.loadO 1 rfl ⟨Tryd.sizeOf9, Tryd.isAgg9⟩ Is.rfl' (Part.one rfl)) rfl ?_
  refine QD.u (LU.call (rptextQ_calls (numB e.seq.toNat ++ numB e.tick.toNat) .unk e.who (by simp; omega) (by omega)) Tryd.func35 rfl rfl (Opds.cons Is.rfl' (Opds.cons Is.rfl' Opds.nil))) rfl ?_
  refine QD.u (LU.fieldO Tryd.underlying28 rfl Tryd.sizeOf9 (by decide) Is.rfl') rfl ?_
  refine QD.u (LU.loadO 1 rfl ⟨Tryd.sizeOf9, Tryd.isAgg9⟩ Is.rfl' (Part.one rfl)) rfl ?_
  refine QD.nil ?_
  refine X.act (X.call (rptext_calls (numB e.seq.toNat ++ numB e.tick.toNat ++ txtB e.who) .unk e.what (by simp; omega) (by omega)) Tryd.func35 rfl rfl rfl (HSub.refl _) (Opds.cons Is.rfl' (Opds.cons Is.rfl' Opds.nil)) ?_)
  rintro r H' ⟨b20, o20, c20, rfl, rfl⟩
  refine X.u (LU.assignS Is.rfl') rfl ?_
  refine LL.nil (after_code ?_)
  refine LW.seq ?_
  refine LW.region ?_
  refine X.u (LU.moveS Is.rfl') rfl ?_
  refine X.u (LU.fieldO Tryd.underlying28 rfl Tryd.sizeOf26 (by decide) Is.rfl') rfl ?_
  refine X.u (LU.sliceOA Tryd.underlying26 Tryd.sizeOf5 Is.rfl') rfl ?_
  refine X.act (X.appendG (A0 := [.cells b1 28 (entL e)]) 0 rfl rfl Tryd.underlying57 (El.of (P := Tryd.prog) (z := .int .u8 0) (size := 1) (bytes := 1) rfl rfl rfl) Is.rfl' Is.rfl' (by simp) (SrcG.cells (ys := byteEls e.prev) (n := 32) Tryd.underlying57 (by decide) (byteEls_size e.prev) (by rw [byteEls_length, hp]) (by simp; omega) (by rw [byteEls_flat]; show _ = (u8s e.prev).take (32 * 1); rw [List.take_of_length_le (by simp; omega)]) (Nat.le_refl _)) (by simp only [byteEls_length, List.length_append]; omega) (by simp only [byteEls_length, List.length_append]; omega) (fun b24 o24 c24 => ?_))
  refine X.weak (t := 22) (v := Bytes (bytesE e) (.tok b24 o24 c24)) (Is.of (congrArg (fun z => LV.sl 1 z (.tok b24 o24 c24)) (byteEls_append _ _).symm)) ?_
  refine X.u (LU.call (hsum _) Tryd.func36 rfl rfl (Opds.cons Is.rfl' Opds.nil)) rfl ?_
  refine X.act (X.store 1 rfl Tryd.sizeOf26 Is.rfl' Is.rfl' (by exact Cells.agg) (by (simp; omega)) (by exact Nat.le_of_ble_eq_true rfl) ?_)
  refine LL.nil (after_code ?_)
  refine LW.ret (after_end ?_)
  rw [putAt_all (by simp [raws, hdl])]
  refine X.ret (H' := []) (by exact Res.cell1 0 rfl rfl ⟨Tryd.sizeOf26, Tryd.isAgg26⟩ (Part.whole (by (simp; omega))) (by exact IsA rfl)) (by repeat (first | exact HSub.refl _ | refine HSub.drop ?_)) ?_
  exact ⟨rfl, rfl⟩
set_option maxRecDepth 100000 in
theorem none_calls : LCalls Tryd.prog 31 [] [] (fun r H' => r = H32 zero32 ∧ H' = []) := by
  refine LCalls.of Tryd.func31 rfl Tryd.ntmps31 Tryd.results31 rfl (fun Rf => ?_)
  refine LW.seq ?_
  refine LW.region ?_
  refine X.act (X.alloc rfl Tryd.zeroValue26 (by exact Cells.rawagg (by decide)) (fun b0 => ?_))
  refine LL.nil (after_code ?_)
  refine LW.seq ?_
  refine LW.region ?_
  refine X.u (LU.weak (LU.buildA Tryd.underlying26 Tryd.sizeOf5 Tryd.zeroValue26 (ones rfl) Parts.nil rfl) (Is.of (y := H32 zero32) (rfl))) rfl ?_
  refine X.act (X.store 0 rfl Tryd.sizeOf26 Is.rfl' Is.rfl' (by exact Cells.agg) (by rfl) (by exact Nat.le_of_ble_eq_true rfl) ?_)
  refine LL.nil (after_code ?_)
  refine LW.ret (after_end ?_)
  rw [putAt_all (by simp [raws, zero32])]
  refine X.ret (H' := []) (by exact Res.cell1 0 rfl rfl ⟨Tryd.sizeOf26, Tryd.isAgg26⟩ (Part.whole (by rfl)) (by exact IsA rfl)) (by repeat (first | exact HSub.refl _ | refine HSub.drop ?_)) ?_
  exact ⟨rfl, rfl⟩
end Go.Proofs.YtpcfpkfchoelcaaDoor
