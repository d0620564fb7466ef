/- Tokens: given out, asked, taken back. -/
import Derived.Test.YtnfeepmgdahmgaaDoorTkB
import Derived.Lib.IndexAny
set_option linter.unusedVariables false
set_option linter.unusedSimpArgs false
namespace Go.Proofs.YtnfeepmgdahmgaaDoor
open Go.RowKit Go.L
attribute [local irreducible] LL LW LO
def tpre (n : Nat) (user : List UInt8) (till : Nat) : List UInt8 := Lib.decDigits n ++ [46] ++ user ++ [46] ++ Lib.decDigits till
def tagB (sec s : List UInt8) : List UInt8 := (tag sec s).map UInt8.ofNat
def ttext (sec : List UInt8) (n : Nat) (user : List UInt8) (till : Nat) : List UInt8 := tpre n user till ++ [46] ++ hexB (tagB sec (tpre n user till))
theorem dec_len {n : Nat} (h : n < 9223372036854775808) : (Lib.decDigits n).length ≤ 20 := by rw [Lib.decDigits_length]; exact Lib.nDigits_le20 n (by omega)
theorem tpre_len {n : Nat} {user : List UInt8} {till : Nat} (h1 : n < 9223372036854775808) (h2 : till < 9223372036854775808) : (tpre n user till).length ≤ user.length + 42 := by
  have := dec_len h1
  have := dec_len h2
  unfold tpre
  simp only [List.length_append, List.length_cons, List.length_nil]
  omega
theorem tag_len32 (sec s : List UInt8) : (tag sec s).length = 32 := by unfold tag; exact sha_len _
theorem tagB_len (sec s : List UInt8) : (tagB sec s).length = 32 := by unfold tagB; rw [List.length_map, tag_len32]
theorem ttext_len {sec : List UInt8} {n : Nat} {user : List UInt8} {till : Nat} (h1 : n < 9223372036854775808) (h2 : till < 9223372036854775808) : (ttext sec n user till).length ≤ user.length + 107 := by
  have := tpre_len (user := user) h1 h2
  unfold ttext
  simp only [List.length_append, List.length_cons, List.length_nil, hexB_len, tagB_len]
  omega
set_option maxHeartbeats 1000000 in
set_option maxRecDepth 100000 in
theorem text_calls (g m : Nat) (sec user : List UInt8) (till : Nat) (l : Bk) (hs : sec.length ≤ 100000) (hu : user.length ≤ 100000) (ht : till < 9223372036854775808) (hl : l.length ≤ 1000000) : LCalls Tryd.prog 44 [pt g, Str user, i64 till] [bkC g m sec, bkM m l, kw, pw] (fun r H' => r = Str (ttext sec (l.length + 1) user till) ∧ H' = [bkC g m sec, bkM m l, kw, pw]) := by
  have hd1 := dec_len (show l.length + 1 < 9223372036854775808 by omega)
  have hd2 := dec_len ht
  have hpl := tpre_len (user := user) (show l.length + 1 < 9223372036854775808 by omega) ht
  have hib := singles_bytes (tag_len32 sec (tpre (l.length + 1) user till)) (tag_lt _ _)
  have hhl := hexB_len (tagB sec (tpre (l.length + 1) user till))
  rw [tagB_len] at hhl
  refine LCalls.of Tryd.func44 rfl Tryd.ntmps44 Tryd.results44 rfl (fun Rf => ?_)
  refine LW.seq ?_
  refine LW.region ?_
  refine X.u (LU.assignR Is.rfl') rfl ?_
  refine LL.nil (after_code ?_)
  refine LW.seq ?_
  refine LW.region ?_
  refine X.u (LU.moveR Is.rfl') rfl ?_
  refine X.u (LU.nilCheck Is.rfl') rfl ?_
  refine X.u (LU.fieldO Tryd.underlying57 rfl Tryd.sizeOf55 (by decide) Is.rfl') rfl ?_
  refine X.u (LU.loadO 0 rfl ⟨Tryd.sizeOf55, Tryd.isAgg55⟩ Is.rfl' (Part.one rfl)) rfl ?_
  refine X.u (LU.lenMap 1 rfl Tryd.underlying55 Is.rfl') rfl ?_
  refine X.u (LU.weak (LU.add Is.rfl' Is.rfl') (Is.of (y := i64 ((l.length + 1 : Nat) : Int)) (congrArg i64 (by simp only [List.length_map]; exact (wrap_i64 (by omega) (by omega)).trans (by omega))))) rfl ?_
  refine X.act (X.call (itoa_calls (l.length + 1) (by omega)) Tryd.func68 rfl rfl rfl (HSub.pick 3 rfl (HSub.refl _)) (Opds.cons Is.rfl' Opds.nil) ?_)
  rintro r H' ⟨rfl, rfl⟩
  refine X.u (LU.strcatN Is.rfl' Is.rfl' (by (simp; omega))) rfl ?_
  refine X.u (LU.moveR Is.rfl') rfl ?_
  refine X.u (LU.strcatN Is.rfl' Is.rfl' (by (simp; omega))) rfl ?_
  refine X.u (LU.strcatN Is.rfl' Is.rfl' (by (simp; omega))) rfl ?_
  refine X.u (LU.moveR Is.rfl') rfl ?_
  refine X.act (X.call (itoa_calls till ht) Tryd.func68 rfl rfl rfl (HSub.pick 0 rfl (HSub.refl _)) (Opds.cons Is.rfl' Opds.nil) ?_)
  rintro r H' ⟨rfl, rfl⟩
  refine X.u (LU.weak (LU.strcatN Is.rfl' Is.rfl' (by (simp; omega))) (Is.of (y := Str (tpre (l.length + 1) user till)) (rfl))) rfl ?_
  refine X.u (LU.assignR Is.rfl') rfl ?_
  refine LL.nil (after_code ?_)
  refine LW.seq ?_
  refine LW.region ?_
  refine X.u (LU.moveR Is.rfl') rfl ?_
  refine X.u (LU.nilCheck Is.rfl') rfl ?_
  refine X.u (LU.fieldO Tryd.underlying57 rfl Tryd.sizeOf22 (by decide) Is.rfl') rfl ?_
  refine X.u (LU.loadO 1 rfl ⟨Tryd.sizeOf22, Tryd.isAgg22⟩ Is.rfl' (Part.one rfl)) rfl ?_
  refine X.u (LU.moveR Is.rfl') rfl ?_
  refine X.u (LU.tobytes Tryd.underlying9 Tryd.underlying22 Tryd.underlying5 Is.rfl') rfl ?_
  refine X.act (X.call (tag_calls sec (tpre (l.length + 1) user till) .unk .unk (by omega) (by omega)) Tryd.func69 rfl rfl rfl (HSub.pick 3 rfl (HSub.refl _)) (Opds.cons Is.rfl' (Opds.cons Is.rfl' Opds.nil)) ?_)
  rintro r H' ⟨rfl, rfl⟩
  refine X.act (X.alloc rfl Tryd.zeroValue95 (by exact Cells.rawagg (by decide)) (fun b8 => ?_))
  refine X.act (X.store 0 rfl Tryd.sizeOf95 Is.rfl' Is.rfl' (by exact Cells.agg) (by (simp; done)) (by exact Nat.le_of_ble_eq_true rfl) ?_)
  refine LL.nil (after_code ?_)
  refine LW.seq ?_
  rw [putAt_all (by simp [raws, tag_len32])]
  refine LW.know 0 rfl ?_
  refine LW.region ?_
  refine X.u (LU.moveR Is.rfl') rfl ?_
  refine X.u (LU.strcatN Is.rfl' Is.rfl' (by (simp; omega))) rfl ?_
  refine X.u (LU.weak (LU.sliceKA 0 rfl Tryd.underlying95 Tryd.sizeOf5 Is.rfl' (by (simp; done))) (Is.of (y := Bytes (tagB sec (tpre (l.length + 1) user till)) .full) (congrArg (fun z => LV.sl 1 z .full) hib))) rfl ?_
  refine X.u (LU.call (hex_calls (tagB sec (tpre (l.length + 1) user till)) .full (by rw [tagB_len]; omega)) Tryd.func70 rfl rfl (Opds.cons Is.rfl' Opds.nil)) rfl ?_
  refine X.u (LU.weak (LU.strcatN Is.rfl' Is.rfl' (by (simp; omega))) (Is.of (y := Str (ttext sec (l.length + 1) user till)) (rfl))) rfl ?_
  refine X.u (LU.assignR Is.rfl') rfl ?_
  refine LL.nil (after_code ?_)
  refine LW.ret (after_end ?_)
  refine X.ret (H' := [bkC g m sec, bkM m l, kw, pw]) (Res.one (by exact IsR rfl)) (by repeat (first | exact HSub.refl _ | refine HSub.pick 1 rfl ?_ | refine HSub.pick 3 rfl ?_ | refine HSub.drop ?_)) ?_
  exact ⟨rfl, rfl⟩
theorem contains1_calls (s : List UInt8) : LCalls Tryd.prog 43 [Str s, Str [46]] [] (fun r H' => r = bl (s.contains 46) ∧ H' = []) :=
  LCalls.quiet (vs := [.string ⟨s.toArray⟩, .string ⟨[46].toArray⟩]) (v := .bool (s.contains 46)) fun w => by
    have := Tryd.strings_Contains_one ⟨s.toArray⟩ 46 w
    rw [Lib.contains_iff_indexByte]
    simpa using this
def issE (n : Nat) (user : List UInt8) (now till : Int) : Nat := if user = [] ∨ user.contains 46 = true ∨ now < 0 ∨ 1099511627776 < till then 2 else if till ≤ now then 162 else if 256 ≤ n then 3 else 0
def issT (sec : List UInt8) (n : Nat) (user : List UInt8) (now till : Int) : List UInt8 := if issE n user now till = 0 then ttext sec (n + 1) user till.toNat else []
def issL (sec : List UInt8) (l : Bk) (user : List UInt8) (now till : Int) : Bk := if issE l.length user now till = 0 then l ++ [(ttext sec (l.length + 1) user till.toNat, ⟨user, till, 0⟩)] else l
theorem iss0 {n : Nat} {user : List UInt8} {now till : Int} (h : issE n user now till = 0) : user ≠ [] ∧ user.contains 46 = false ∧ 0 ≤ now ∧ till ≤ 1099511627776 ∧ now < till ∧ n < 256 := by
  unfold issE at h
  split at h
  · cases h
  · rename_i h1
    split at h
    · cases h
    · rename_i h2
      split at h
      · cases h
      · rename_i h3
        refine ⟨fun c => h1 (.inl c), ?_, ?_, ?_, by omega, by omega⟩
        · cases hc : user.contains 46 with
          | false => rfl
          | true => exact (h1 (.inr (.inl hc))).elim
        · exact Int.not_lt.1 fun c => h1 (.inr (.inr (.inl c)))
        · exact Int.not_lt.1 fun c => h1 (.inr (.inr (.inr c)))
theorem enM_app (l : Bk) (p : List UInt8 × En) : enM (l ++ [p]) = enM l ++ [(p.1, .agg (enL p.2))] := by simp
set_option maxHeartbeats 1000000 in
set_option maxRecDepth 100000 in
theorem issue_calls (g m : Nat) (sec user : List UInt8) (now till : Int) (l : Bk) (hs : sec.length ≤ 100000) (hu : user.length ≤ 100000) (hl : l.length ≤ 1000000) (hf : issE l.length user now till = 0 → idxB l (ttext sec (l.length + 1) user till.toNat) = none) : LCalls Tryd.prog 16 [pt g, Str user, i64 now, i64 till] [bkC g m sec, bkM m l, kw, pw] (fun r H' => r = .tup [Str (issT sec l.length user now till), i64 (issE l.length user now till)] ∧ H' = [bkC g m sec, bkM m (issL sec l user now till), kw, pw]) := by
  have hE : issE l.length user now till = if user = [] ∨ user.contains 46 = true ∨ now < 0 ∨ 1099511627776 < till then 2 else if till ≤ now then 162 else if 256 ≤ l.length then 3 else 0 := rfl
  have hbad : issE l.length user now till ≠ 0 → issT sec l.length user now till = [] ∧ issL sec l user now till = l := fun h => ⟨by unfold issT; rw [if_neg h], by unfold issL; rw [if_neg h]⟩
  refine LCalls.of Tryd.func16 rfl Tryd.ntmps16 Tryd.results16 rfl (fun Rf => ?_)
  refine LW.seq ?_
  refine LW.region ?_
  refine X.u (LU.assignR Is.rfl') rfl ?_
  refine X.u (LU.assignR Is.rfl') rfl ?_
  refine LL.nil (after_code ?_)
  refine LW.seq ?_
  refine LW.block ?_
  refine LW.seq ?_
  refine LW.region ?_
  refine X.u (LU.moveR Is.rfl') rfl ?_
  refine X.u (LU.call1 0 rfl (none16_calls g m sec) Tryd.func42 rfl rfl (Opds.cons Is.rfl' Opds.nil)) rfl ?_
  refine X.u (LU.assignR Is.rfl') rfl ?_
  refine LL.nil (after_code ?_)
  refine X.condF rfl ?_ ?_
  · rfl
  refine LW.seq ?_
  refine LW.region ?_
  refine X.u (LU.moveR Is.rfl') rfl ?_
  refine X.u (LU.streqN Is.rfl' Is.rfl') rfl ?_
  refine X.u (LU.moveR Is.rfl') rfl ?_
  refine X.gF rfl rfl (fun hg => LU.moveR (by exact Is.rfl')) rfl ?_
  refine X.gF rfl rfl (fun hg => LU.call (contains1_calls user) Tryd.func43 rfl rfl (Opds.cons (by exact Is.whenN hg) (Opds.cons (by exact Is.rfl') Opds.nil))) rfl ?_
  refine X.u (LU.pickOr Is.rfl' Is.rfl' (fun hq => (by exact Is.whenN hq))) rfl ?_
  refine X.u (LU.moveR Is.rfl') rfl ?_
  refine X.gF rfl rfl (fun hg => LU.moveR (by exact Is.rfl')) rfl ?_
  refine X.gF rfl rfl (fun hg => LU.lss (by exact Is.whenN hg) (by exact Is.rfl')) rfl ?_
  refine X.u (LU.pickOr Is.rfl' Is.rfl' (fun hq => (by exact Is.whenN hq))) rfl ?_
  refine X.u (LU.moveR Is.rfl') rfl ?_
  refine X.gF rfl rfl (fun hg => LU.moveR (by exact Is.rfl')) rfl ?_
  refine X.gF rfl rfl (fun hg => LU.gtr (by exact Is.whenN hg) (by exact Is.rfl')) rfl ?_
  refine X.u (LU.pickOr Is.rfl' Is.rfl' (fun hq => (by exact Is.whenN hq))) rfl ?_
  refine X.u (LU.assignR Is.rfl') rfl ?_
  refine LL.nil (after_code ?_)
  refine X.cond rfl (fun h3 => ?_) (fun h3 => ?_)
  · have hc : user = [] ∨ user.contains 46 = true ∨ now < 0 ∨ 1099511627776 < till := by simpa [or_assoc, and_assoc] using h3
    have hz : issE l.length user now till = 2 := by rw [hE, if_pos hc]
    obtain ⟨hb1, hb2⟩ := hbad (by omega)
    refine LW.seq ?_
    refine LW.region ?_
    refine X.u (LU.assignR Is.rfl') rfl ?_
    refine X.u (LU.assignR Is.rfl') rfl ?_
    refine LL.nil (after_code ?_)
    refine LW.ret (ret_blk (ret_code (after_end ?_)))
    refine X.ret (H' := [bkC g m sec, bkM m l, kw, pw]) (Res.two (by exact IsR rfl) (by exact IsR rfl)) (by repeat (exact HSub.refl _)) ?_
    exact ⟨by rw [hz, hb1]; rfl, by rw [hb2]⟩
  · have hc : ¬ (user = [] ∨ user.contains 46 = true ∨ now < 0 ∨ 1099511627776 < till) := by simpa [or_assoc, and_assoc] using h3
    rw [if_neg hc] at hE
    refine LW.seq ?_
    refine LW.region ?_
    refine X.u (LU.moveR Is.rfl') rfl ?_
    refine X.u (LU.moveR Is.rfl') rfl ?_
    refine X.u (LU.leq Is.rfl' Is.rfl') rfl ?_
    refine X.u (LU.assignR Is.rfl') rfl ?_
    refine LL.nil (after_code ?_)
    refine X.cond rfl (fun h5 => ?_) (fun h5 => ?_)
    · have hz : issE l.length user now till = 162 := by rw [hE, if_pos (of_decide_eq_true h5)]
      obtain ⟨hb1, hb2⟩ := hbad (by omega)
      refine LW.seq ?_
      refine LW.region ?_
      refine X.u (LU.assignR Is.rfl') rfl ?_
      refine X.u (LU.assignR Is.rfl') rfl ?_
      refine LL.nil (after_code ?_)
      refine LW.ret (ret_blk (ret_code (after_end ?_)))
      refine X.ret (H' := [bkC g m sec, bkM m l, kw, pw]) (Res.two (by exact IsR rfl) (by exact IsR rfl)) (by repeat (exact HSub.refl _)) ?_
      exact ⟨by rw [hz, hb1]; rfl, by rw [hb2]⟩
    · have h5 := of_decide_eq_false h5
      rw [if_neg h5] at hE
      refine LW.seq ?_
      refine LW.region ?_
      refine X.u (LU.moveR Is.rfl') rfl ?_
      refine X.u (LU.nilCheck Is.rfl') rfl ?_
      refine X.u (LU.fieldO Tryd.underlying57 rfl Tryd.sizeOf55 (by decide) Is.rfl') rfl ?_
      refine X.u (LU.loadO 0 rfl ⟨Tryd.sizeOf55, Tryd.isAgg55⟩ Is.rfl' (Part.one rfl)) rfl ?_
      refine X.u (LU.lenMap 1 rfl Tryd.underlying55 Is.rfl') rfl ?_
      refine X.u (LU.geq Is.rfl' Is.rfl') rfl ?_
      refine X.u (LU.assignR Is.rfl') rfl ?_
      refine LL.nil (after_code ?_)
      refine X.cond rfl (fun h7 => ?_) (fun h7 => ?_)
      · have hz : issE l.length user now till = 3 := by rw [hE, if_pos (by have := of_decide_eq_true h7; simp at this; omega)]
        obtain ⟨hb1, hb2⟩ := hbad (by omega)
        refine LW.seq ?_
        refine LW.region ?_
        refine X.u (LU.assignR Is.rfl') rfl ?_
        refine X.u (LU.assignR Is.rfl') rfl ?_
        refine LL.nil (after_code ?_)
        refine LW.ret (ret_blk (ret_code (after_end ?_)))
        refine X.ret (H' := [bkC g m sec, bkM m l, kw, pw]) (Res.two (by exact IsR rfl) (by exact IsR rfl)) (by repeat (exact HSub.refl _)) ?_
        exact ⟨by rw [hz, hb1]; rfl, by rw [hb2]⟩
      · have hz : issE l.length user now till = 0 := by rw [hE, if_neg (by have := of_decide_eq_false h7; simp at this; omega)]
        obtain ⟨k1, k2, k3, k4, k5, k6⟩ := iss0 hz
        obtain ⟨tn, rfl⟩ := Int.eq_ofNat_of_zero_le (show 0 ≤ till by omega)
        have hT : issT sec l.length user now tn = ttext sec (l.length + 1) user tn := by unfold issT; rw [if_pos hz, Int.toNat_natCast]
        have hL : issL sec l user now tn = l ++ [(ttext sec (l.length + 1) user tn, ⟨user, tn, 0⟩)] := by unfold issL; rw [if_pos hz, Int.toNat_natCast]
        have hnew := hf hz
        rw [Int.toNat_natCast] at hnew
        refine LW.skip (after_blk (after_code ?_))
        refine LW.seq ?_
        refine LW.region ?_
        refine X.u (LU.moveR Is.rfl') rfl ?_
        refine X.u (LU.moveR Is.rfl') rfl ?_
        refine X.u (LU.moveR Is.rfl') rfl ?_
        refine X.act (X.call (text_calls g m sec user tn l hs hu (by omega) hl) Tryd.func44 rfl rfl rfl (by (refine HSub.pick 0 rfl ?_); (refine HSub.pick 0 rfl ?_); (refine HSub.pick 0 rfl ?_); (refine HSub.pick 0 rfl ?_); exact HSub.refl _) (Opds.cons Is.rfl' (Opds.cons Is.rfl' (Opds.cons Is.rfl' Opds.nil))) ?_)
        rintro r H' ⟨rfl, rfl⟩
        refine X.u (LU.assignR Is.rfl') rfl ?_
        refine LL.nil (after_code ?_)
        refine LW.seq ?_
        refine LW.region ?_
        refine X.u (LU.moveR Is.rfl') rfl ?_
        refine X.u (LU.nilCheck Is.rfl') rfl ?_
        refine X.u (LU.fieldO Tryd.underlying57 rfl Tryd.sizeOf55 (by decide) Is.rfl') rfl ?_
        refine X.u (LU.loadO 0 rfl ⟨Tryd.sizeOf55, Tryd.isAgg55⟩ Is.rfl' (Part.one rfl)) rfl ?_
        refine X.u (LU.moveR Is.rfl') rfl ?_
        refine X.u (LU.moveR Is.rfl') rfl ?_
        refine X.u (LU.moveR Is.rfl') rfl ?_
        refine X.u (LU.weak (LU.build (places := #[(0, 1), (1, 1), (2, 1)]) Tryd.underlying88 Tryd.zeroValue88 (ones rfl) (by intro w; simp [Tryd.sizeOf3, Tryd.sizeOf9]) (Parts.cons Is.rfl' (by exact Cells.raw rfl) (Parts.cons Is.rfl' (by exact Cells.raw rfl) Parts.nil)) rfl) (Is.of (y := .agg (enL ⟨user, tn, 0⟩)) (rfl))) rfl ?_
        refine X.act (LO.mapUpdate (st := ⟨_, _, _⟩) 1 (KeyOk.string Tryd.underlying9) rfl Tryd.underlying55 Is.rfl' Is.rfl' Is.rfl' ?_)
        refine LL.nil (after_code ?_)
        refine LW.seq ?_
        refine X.wghost (H' := bkM m (l ++ [(ttext sec (l.length + 1) user tn, ⟨user, tn, 0⟩)]) :: bkC g m sec :: kw :: pw :: Rf) (by show L.HSub (.map m (mp skey (setM (enM l) (ttext sec (l.length + 1) user tn) (.agg (enL ⟨user, tn, 0⟩)))) :: _) (.map m (mp skey (enM (l ++ [(ttext sec (l.length + 1) user tn, ⟨user, tn, 0⟩)]))) :: _); rw [enM_app]; unfold setM; rw [show idxM (enM l) (ttext sec (l.length + 1) user tn) = none from hnew]; exact HSub.refl _) ?_
        refine LW.region ?_
        refine X.u (LU.moveR Is.rfl') rfl ?_
        refine X.u (LU.assignR Is.rfl') rfl ?_
        refine X.u (LU.assignR Is.rfl') rfl ?_
        refine LL.nil (after_code ?_)
        refine LW.ret (after_end ?_)
        refine X.ret (H' := [bkC g m sec, bkM m (l ++ [(ttext sec (l.length + 1) user tn, ⟨user, tn, 0⟩)]), kw, pw]) (Res.two (by exact IsR rfl) (by exact IsR rfl)) (by repeat (first | exact HSub.refl _ | refine HSub.pick 1 rfl ?_)) ?_
        exact ⟨by rw [hz, hT]; rfl, by rw [hL]⟩
def barE (x : En) (now : Int) : Nat := if 0 < x.gone then 161 else if x.till ≤ now then 162 else 0
def barR (x : En) : Nat := if 0 < x.gone then 161 else 0
set_option maxRecDepth 100000 in
theorem bars0_calls (x : En) (now : Int) (hg : 0 ≤ x.gone) : LCalls Tryd.prog 46 [.agg (enL x), i64 now, i64 0] [] (fun r H' => r = i64 (barE x now) ∧ H' = []) := by
  refine LCalls.of Tryd.func46 rfl Tryd.ntmps46 Tryd.results46 rfl (fun Rf => ?_)
  refine LW.seq ?_
  refine LW.region ?_
  refine X.act (X.box rfl Is.rfl' (by exact Cells.agg) (fun b3 => ?_))
  refine X.u (LU.assignR Is.rfl') rfl ?_
  refine LL.nil (after_code ?_)
  refine LW.seq ?_
  refine LW.seq ?_
  refine LW.region ?_
  refine X.u (LU.moveR Is.rfl') rfl ?_
  refine LL.nil (after_code ?_)
  refine LW.block ?_
  refine LW.seq ?_
  refine LW.block ?_
  refine LW.seq ?_
  refine LW.block ?_
  refine LW.seq ?_
  refine LW.seq ?_
  refine LW.region ?_
  refine X.u (LU.eql Is.rfl' Is.rfl') rfl ?_
  refine X.u (LU.assignR Is.rfl') rfl ?_
  refine LL.nil (after_code ?_)
  refine X.condT rfl ?_ ?_
  · rfl
  refine LW.exit (exit_code (exit_blk (after_code ?_)))
  refine LW.seq ?_
  refine LW.region ?_
  refine X.u (LU.fieldO Tryd.underlying88 rfl Tryd.sizeOf3 (by decide) Is.rfl') rfl ?_
  refine X.u (LU.loadO 0 rfl ⟨Tryd.sizeOf3, Tryd.isAgg3⟩ Is.rfl' (Part.one rfl)) rfl ?_
  refine X.u (LU.eql Is.rfl' Is.rfl') rfl ?_
  refine X.u (LU.moveR Is.rfl') rfl ?_
  refine X.gT rfl rfl (fun hg => LU.moveR (by exact Is.rfl')) rfl ?_
  refine X.gT rfl rfl (fun hg => LU.fieldO Tryd.underlying88 rfl Tryd.sizeOf3 (by decide) (by exact Is.rfl')) rfl ?_
  refine X.gT rfl rfl (fun hg => LU.loadO 0 rfl ⟨Tryd.sizeOf3, Tryd.isAgg3⟩ (by exact Is.whenE hg) (Part.one rfl)) rfl ?_
  refine X.gT rfl rfl (fun hg => LU.geq (by exact Is.whenE hg) (by exact Is.whenE hg)) rfl ?_
  refine X.u (LU.pickAnd Is.rfl' (fun hq => (by exact Is.whenE hq)) Is.rfl') rfl ?_
  refine LL.nil (after_code ?_)
  refine X.cond rfl (fun h3 => ?_) (fun h3 => ?_)
  · try have h3 := of_decide_eq_true h3
    refine LW.seq ?_
    refine LW.region ?_
    refine X.u (LU.assignR Is.rfl') rfl ?_
    refine LL.nil (after_code ?_)
    refine LW.ret (ret_blk (ret_code (ret_blk (ret_code (after_end ?_)))))
    refine X.ret (H' := []) (Res.one (by exact IsR rfl)) (by repeat (first | exact HSub.refl _ | refine HSub.drop ?_)) ?_
    have h3 : x.gone = 0 ∧ x.till ≤ now := by simpa using h3
    exact ⟨by unfold barE; rw [if_neg (by omega), if_pos h3.2]; rfl, rfl⟩
  · try have h3 := of_decide_eq_false h3
    refine LW.skip (after_blk (after_code ?_))
    refine LW.seq ?_
    refine LW.seq ?_
    refine LW.region ?_
    refine X.u (LU.fieldO Tryd.underlying88 rfl Tryd.sizeOf3 (by decide) Is.rfl') rfl ?_
    refine X.u (LU.loadO 0 rfl ⟨Tryd.sizeOf3, Tryd.isAgg3⟩ Is.rfl' (Part.one rfl)) rfl ?_
    refine X.u (LU.gtr Is.rfl' Is.rfl') rfl ?_
    refine LL.nil (after_code ?_)
    refine X.cond rfl (fun h5 => ?_) (fun h5 => ?_)
    · try have h5 := of_decide_eq_true h5
      refine LW.seq ?_
      refine LW.region ?_
      refine X.u (LU.assignR Is.rfl') rfl ?_
      refine LL.nil (after_code ?_)
      refine LW.ret (ret_code (ret_blk (ret_code (after_end ?_))))
      refine X.ret (H' := []) (Res.one (by exact IsR rfl)) (by repeat (first | exact HSub.refl _ | refine HSub.drop ?_)) ?_
      exact ⟨by unfold barE; rw [if_pos h5]; rfl, rfl⟩
    · try have h5 := of_decide_eq_false h5
      refine LW.skip (after_code ?_)
      refine LW.exit (exit_blk (after_code ?_))
      refine LW.seq ?_
      refine LW.region ?_
      refine X.u (LU.assignR Is.rfl') rfl ?_
      refine LL.nil (after_code ?_)
      refine LW.ret (after_end ?_)
      refine X.ret (H' := []) (Res.one (by exact IsR rfl)) (by repeat (first | exact HSub.refl _ | refine HSub.drop ?_)) ?_
      have h3 : x.gone = 0 → ¬ x.till ≤ now := by intro c; simpa [c] using h3
      exact ⟨by unfold barE; rw [if_neg h5, if_neg (h3 (by omega))]; rfl, rfl⟩
set_option maxRecDepth 100000 in
theorem bars1_calls (x : En) : LCalls Tryd.prog 46 [.agg (enL x), i64 0, i64 1] [] (fun r H' => r = i64 (barR x) ∧ H' = []) := by
  refine LCalls.of Tryd.func46 rfl Tryd.ntmps46 Tryd.results46 rfl (fun Rf => ?_)
  refine LW.seq ?_
  refine LW.region ?_
  refine X.act (X.box rfl Is.rfl' (by exact Cells.agg) (fun b3 => ?_))
  refine X.u (LU.assignR Is.rfl') rfl ?_
  refine LL.nil (after_code ?_)
  refine LW.seq ?_
  refine LW.seq ?_
  refine LW.region ?_
  refine X.u (LU.moveR Is.rfl') rfl ?_
  refine LL.nil (after_code ?_)
  refine LW.block ?_
  refine LW.seq ?_
  refine LW.block ?_
  refine LW.seq ?_
  refine LW.block ?_
  refine LW.seq ?_
  refine LW.seq ?_
  refine LW.region ?_
  refine X.u (LU.eql Is.rfl' Is.rfl') rfl ?_
  refine X.u (LU.assignR Is.rfl') rfl ?_
  refine LL.nil (after_code ?_)
  refine X.condF rfl ?_ ?_
  · rfl
  refine LW.skip (after_code ?_)
  refine LW.exit (exit_blk' rfl (exit_code (exit_blk (after_code ?_))))
  refine LW.seq ?_
  refine LW.seq ?_
  refine LW.region ?_
  refine X.u (LU.fieldO Tryd.underlying88 rfl Tryd.sizeOf3 (by decide) Is.rfl') rfl ?_
  refine X.u (LU.loadO 0 rfl ⟨Tryd.sizeOf3, Tryd.isAgg3⟩ Is.rfl' (Part.one rfl)) rfl ?_
  refine X.u (LU.gtr Is.rfl' Is.rfl') rfl ?_
  refine LL.nil (after_code ?_)
  refine X.cond rfl (fun h5 => ?_) (fun h5 => ?_)
  · try have h5 := of_decide_eq_true h5
    refine LW.seq ?_
    refine LW.region ?_
    refine X.u (LU.assignR Is.rfl') rfl ?_
    refine LL.nil (after_code ?_)
    refine LW.ret (ret_code (ret_blk (ret_code (after_end ?_))))
    refine X.ret (H' := []) (Res.one (by exact IsR rfl)) (by repeat (first | exact HSub.refl _ | refine HSub.drop ?_)) ?_
    exact ⟨by unfold barR; rw [if_pos h5]; rfl, rfl⟩
  · try have h5 := of_decide_eq_false h5
    refine LW.skip (after_code ?_)
    refine LW.exit (exit_blk (after_code ?_))
    refine LW.seq ?_
    refine LW.region ?_
    refine X.u (LU.assignR Is.rfl') rfl ?_
    refine LL.nil (after_code ?_)
    refine LW.ret (after_end ?_)
    refine X.ret (H' := []) (Res.one (by exact IsR rfl)) (by repeat (first | exact HSub.refl _ | refine HSub.drop ?_)) ?_
    exact ⟨by unfold barR; rw [if_neg h5]; rfl, rfl⟩
def chkE (l : Bk) (t : List UInt8) (now : Int) : Nat := if fP l t = 0 then barE (fE l t) now else 160
def chkU (l : Bk) (t : List UInt8) (now : Int) : List UInt8 := if chkE l t now = 0 then (fE l t).user else []
theorem fP_cases (l : Bk) (t : List UInt8) : fP l t = 0 ∨ fP l t = 160 := by unfold fP; split <;> simp
def Gone0 (l : Bk) : Prop := ∀ (i : Nat) (p : List UInt8 × En), l[i]? = some p → 0 ≤ p.2.gone
theorem fE_gone {l : Bk} (h : Gone0 l) (t : List UInt8) : 0 ≤ (fE l t).gone := by
  unfold fE
  cases hx : idxB l t with
  | none => exact Int.le_refl 0
  | some i =>
    obtain ⟨e, he⟩ := idxB_some hx
    show 0 ≤ (l.getD i ([], zE)).2.gone
    rw [List.getD_eq_getElem?_getD, he]
    exact h i _ he
set_option maxHeartbeats 1000000 in
set_option maxRecDepth 100000 in
theorem check16_calls (g m : Nat) (sec tok : List UInt8) (l : Bk) (now : Int) (hu : KeysU l) (ht : tok.length < 140737488355328) (hl : ∀ p ∈ l, p.1.length < 140737488355328) (hg : Gone0 l) : LCalls Tryd.prog 19 [pt g, Str tok, i64 now] [bkC g m sec, bkM m l] (fun r H' => r = .tup [Str (chkU l tok now), i64 (chkE l tok now)] ∧ H' = [bkC g m sec, bkM m l]) := by
  have hU : chkE l tok now = 0 → chkU l tok now = (fE l tok).user := fun h => by unfold chkU; rw [if_pos h]
  have hU2 : chkE l tok now ≠ 0 → chkU l tok now = [] := fun h => by unfold chkU; rw [if_neg h]
  refine LCalls.of Tryd.func19 rfl Tryd.ntmps19 Tryd.results19 rfl (fun Rf => ?_)
  refine LW.seq ?_
  refine LW.region ?_
  refine X.u (LU.assignR Is.rfl') rfl ?_
  refine X.u (LU.assignR Is.rfl') rfl ?_
  refine LL.nil (after_code ?_)
  refine LW.seq ?_
  refine LW.region ?_
  refine X.u (LU.assignR Is.rfl') rfl ?_
  refine LL.nil (after_code ?_)
  refine LW.seq ?_
  refine LW.region ?_
  refine X.u (LU.moveR Is.rfl') rfl ?_
  refine X.u (LU.moveR Is.rfl') rfl ?_
  refine X.u (LU.moveR Is.rfl') rfl ?_
  refine X.act (X.callF (FnCalls.named Tryd.func45 rfl rfl (find_calls g m sec tok l hu ht hl)) Is.rfl' rfl (by (refine HSub.pick 0 rfl ?_); (refine HSub.pick 0 rfl ?_); exact HSub.refl _) (Opds.cons Is.rfl' (Opds.cons Is.rfl' Opds.nil)) ?_)
  rintro r H' ⟨rfl, rfl⟩
  refine X.u (LU.moveT Is.rfl') rfl ?_
  refine X.u (LU.extract Is.rfl' rfl) rfl ?_
  refine X.u (LU.extract Is.rfl' rfl) rfl ?_
  refine X.act (X.alloc rfl Tryd.zeroValue88 (by exact Cells.rawagg (by decide)) (fun b9 => ?_))
  refine X.act (X.store 0 rfl Tryd.sizeOf88 Is.rfl' Is.rfl' (by exact Cells.agg) (by (simp; done)) (by exact Nat.le_of_ble_eq_true rfl) ?_)
  refine X.u (LU.assignR Is.rfl') rfl ?_
  refine LL.nil (after_code ?_)
  refine X.meetK (α := Int) (fun e => [(10, i64 e)]) [6, 7, 9] (fun e => .cells b9 88 (enL (fE l tok)) :: bkC g m sec :: bkM m l :: Rf) (fun e => e = chkE l tok now) ?_ ?_
  · refine LW.seq ?_
    refine X.wcells (ys := enL (fE l tok)) rfl ?_
    refine LW.region ?_
    refine X.u (LU.moveR Is.rfl') rfl ?_
    refine X.u (LU.eql Is.rfl' Is.rfl') rfl ?_
    refine LL.nil (after_code ?_)
    refine X.cond rfl (fun h3 => ?_) (fun h3 => ?_)
    · try have h3 := of_decide_eq_true h3
      refine LW.region ?_
      refine X.u (LU.loadO 0 rfl ⟨Tryd.sizeOf88, Tryd.isAgg88⟩ Is.rfl' (Part.whole (by (simp; done)))) rfl ?_
      refine X.u (LU.moveR Is.rfl') rfl ?_
      refine X.u (LU.call (bars0_calls (fE l tok) now (fE_gone hg tok)) Tryd.func46 rfl rfl (Opds.cons Is.rfl' (Opds.cons Is.rfl' (Opds.cons Is.rfl' Opds.nil)))) rfl ?_
      refine X.u (LU.assignR Is.rfl') rfl ?_
      refine LL.nil (after_rnd ?_)
      refine X.meets (barE (fE l tok) now) rfl (EnvLe.cons (by rfl) (EnvLe.nil)) (Keeps.cons (by exact Eq.trans (b := .raw _) rfl rfl) (Keeps.cons (by exact Eq.trans (b := .raw _) rfl rfl) (Keeps.cons (by exact Eq.trans (b := .raw _) rfl rfl) (Keeps.nil)))) (by repeat (exact HSub.refl _)) ?_
      unfold chkE; rw [if_pos (by omega)]
    · try have h3 := of_decide_eq_false h3
      refine LW.skip (after_rnd ?_)
      refine X.meets ((fP l tok : Nat)) rfl (EnvLe.cons (by rfl) (EnvLe.nil)) (Keeps.cons (by exact Eq.trans (b := .raw _) rfl rfl) (Keeps.cons (by exact Eq.trans (b := .raw _) rfl rfl) (Keeps.cons (by exact Eq.trans (b := .raw _) rfl rfl) (Keeps.nil)))) (by repeat (exact HSub.refl _)) ?_
      have := fP_cases l tok; unfold chkE; rw [if_neg (by omega)]; omega
  · rintro e hI
    subst hI
    refine LW.seq ?_
    refine LW.seq ?_
    refine LW.region ?_
    refine X.u (LU.moveR Is.rfl') rfl ?_
    refine X.u (LU.neq Is.rfl' Is.rfl') rfl ?_
    refine LL.nil (after_code ?_)
    refine X.cond rfl (fun h5 => ?_) (fun h5 => ?_)
    · have h5 : chkE l tok now ≠ 0 := by simpa using h5
      refine LW.seq ?_
      refine LW.region ?_
      refine X.u (LU.moveR Is.rfl') rfl ?_
      refine X.u (LU.assignR Is.rfl') rfl ?_
      refine X.u (LU.assignR Is.rfl') rfl ?_
      refine LL.nil (after_code ?_)
      refine LW.ret (ret_code (after_end ?_))
      refine X.ret (H' := [bkC g m sec, bkM m l]) (Res.two (by exact IsR rfl) (by exact IsR rfl)) (by repeat (first | exact HSub.refl _ | refine HSub.pick 1 rfl ?_ | refine HSub.drop ?_)) ?_
      exact ⟨by rw [hU2 h5], rfl⟩
    · have h5 : chkE l tok now = 0 := by simpa using h5
      refine LW.skip (after_code ?_)
      refine LW.seq ?_
      refine LW.region ?_
      refine X.u (LU.fieldO Tryd.underlying88 rfl Tryd.sizeOf9 (by decide) Is.rfl') rfl ?_
      refine X.u (LU.loadO 0 rfl ⟨Tryd.sizeOf9, Tryd.isAgg9⟩ Is.rfl' (Part.one rfl)) rfl ?_
      refine X.u (LU.assignR Is.rfl') rfl ?_
      refine X.u (LU.assignR Is.rfl') rfl ?_
      refine LL.nil (after_code ?_)
      refine LW.ret (after_end ?_)
      refine X.ret (H' := [bkC g m sec, bkM m l]) (Res.two (by exact IsR rfl) (by exact IsR rfl)) (by repeat (first | exact HSub.refl _ | refine HSub.pick 1 rfl ?_ | refine HSub.drop ?_)) ?_
      exact ⟨by rw [hU h5, h5]; rfl, rfl⟩
def revE (l : Bk) (t : List UInt8) : Nat := if fP l t = 0 then barR (fE l t) else 160
def revL (l : Bk) (t : List UInt8) : Bk := if revE l t = 0 then (match idxB l t with
  | some i => l.set i (t, { fE l t with gone := (fE l t).gone + 1 })
  | none => l) else l
theorem rev0 {l : Bk} {t : List UInt8} (h : revE l t = 0) : ∃ i e, l[i]? = some (t, e) ∧ idxB l t = some i ∧ fE l t = e ∧ e.gone ≤ 0 := by
  unfold revE at h
  split at h
  · rename_i h1
    unfold fP at h1
    split at h1
    · rename_i h2
      obtain ⟨i, hi⟩ := Option.isSome_iff_exists.1 h2
      obtain ⟨e, he⟩ := idxB_some hi
      have hfe : fE l t = e := by unfold fE; rw [hi]; show (l.getD i ([], zE)).2 = e; rw [List.getD_eq_getElem?_getD, he]; rfl
      refine ⟨i, e, he, hi, hfe, ?_⟩
      unfold barR at h
      rw [hfe] at h
      split at h
      · cases h
      · omega
    · cases h1
  · cases h
set_option maxHeartbeats 1000000 in
set_option maxRecDepth 100000 in
theorem revoke_calls (g m : Nat) (sec tok : List UInt8) (l : Bk) (hu : KeysU l) (ht : tok.length < 140737488355328) (hl : ∀ p ∈ l, p.1.length < 140737488355328) (hg : Gone0 l) : LCalls Tryd.prog 20 [pt g, Str tok] [bkC g m sec, bkM m l] (fun r H' => r = i64 (revE l tok) ∧ H' = [bkC g m sec, bkM m (revL l tok)]) := by
  have hU2 : revE l tok ≠ 0 → revL l tok = l := fun h => by unfold revL; rw [if_neg h]
  refine LCalls.of Tryd.func20 rfl Tryd.ntmps20 Tryd.results20 rfl (fun Rf => ?_)
  refine LW.seq ?_
  refine LW.region ?_
  refine X.u (LU.assignR Is.rfl') rfl ?_
  refine LL.nil (after_code ?_)
  refine LW.seq ?_
  refine LW.region ?_
  refine X.u (LU.moveR Is.rfl') rfl ?_
  refine X.u (LU.moveR Is.rfl') rfl ?_
  refine X.act (X.call (find_calls g m sec tok l hu ht hl) Tryd.func45 rfl rfl rfl (by (refine HSub.pick 0 rfl ?_); (refine HSub.pick 0 rfl ?_); exact HSub.refl _) (Opds.cons Is.rfl' (Opds.cons Is.rfl' Opds.nil)) ?_)
  rintro r H' ⟨rfl, rfl⟩
  refine X.u (LU.moveT Is.rfl') rfl ?_
  refine X.u (LU.extract Is.rfl' rfl) rfl ?_
  refine X.u (LU.extract Is.rfl' rfl) rfl ?_
  refine X.act (X.alloc rfl Tryd.zeroValue88 (by exact Cells.rawagg (by decide)) (fun b5 => ?_))
  refine X.act (X.store 0 rfl Tryd.sizeOf88 Is.rfl' Is.rfl' (by exact Cells.agg) (by (simp; done)) (by exact Nat.le_of_ble_eq_true rfl) ?_)
  refine X.u (LU.assignR Is.rfl') rfl ?_
  refine LL.nil (after_code ?_)
  refine X.meetK (α := Int) (fun e => [(6, i64 e)]) [0, 1, 4, 5] (fun e => .cells b5 88 (enL (fE l tok)) :: bkC g m sec :: bkM m l :: Rf) (fun e => e = revE l tok) ?_ ?_
  · refine LW.seq ?_
    refine X.wcells (ys := enL (fE l tok)) rfl ?_
    refine LW.region ?_
    refine X.u (LU.moveR Is.rfl') rfl ?_
    refine X.u (LU.eql Is.rfl' Is.rfl') rfl ?_
    refine LL.nil (after_code ?_)
    refine X.cond rfl (fun h2 => ?_) (fun h2 => ?_)
    · try have h2 := of_decide_eq_true h2
      refine LW.region ?_
      refine X.u (LU.loadO 0 rfl ⟨Tryd.sizeOf88, Tryd.isAgg88⟩ Is.rfl' (Part.whole (by (simp; done)))) rfl ?_
      refine X.u (LU.call (bars1_calls (fE l tok)) Tryd.func46 rfl rfl (Opds.cons Is.rfl' (Opds.cons Is.rfl' (Opds.cons Is.rfl' Opds.nil)))) rfl ?_
      refine X.u (LU.assignR Is.rfl') rfl ?_
      refine LL.nil (after_rnd ?_)
      refine X.meets (barR (fE l tok)) rfl (EnvLe.cons (by rfl) (EnvLe.nil)) (Keeps.cons (by exact Eq.trans (b := .raw _) rfl rfl) (Keeps.cons (by exact Eq.trans (b := .raw _) rfl rfl) (Keeps.cons (by exact Eq.trans (b := .raw _) rfl rfl) (Keeps.cons (by exact Eq.trans (b := .raw _) rfl rfl) (Keeps.nil))))) (by repeat (exact HSub.refl _)) ?_
      unfold revE; rw [if_pos (by omega)]
    · try have h2 := of_decide_eq_false h2
      refine LW.skip (after_rnd ?_)
      refine X.meets ((fP l tok : Nat)) rfl (EnvLe.cons (by rfl) (EnvLe.nil)) (Keeps.cons (by exact Eq.trans (b := .raw _) rfl rfl) (Keeps.cons (by exact Eq.trans (b := .raw _) rfl rfl) (Keeps.cons (by exact Eq.trans (b := .raw _) rfl rfl) (Keeps.cons (by exact Eq.trans (b := .raw _) rfl rfl) (Keeps.nil))))) (by repeat (exact HSub.refl _)) ?_
      have := fP_cases l tok; unfold revE; rw [if_neg (by omega)]; omega
  · rintro e hI
    subst hI
    refine LW.seq ?_
    refine LW.seq ?_
    refine LW.region ?_
    refine X.u (LU.moveR Is.rfl') rfl ?_
    refine X.u (LU.neq Is.rfl' Is.rfl') rfl ?_
    refine LL.nil (after_code ?_)
    refine X.cond rfl (fun h4 => ?_) (fun h4 => ?_)
    · have h4 : revE l tok ≠ 0 := by simpa using h4
      refine LW.seq ?_
      refine LW.region ?_
      refine X.u (LU.moveR Is.rfl') rfl ?_
      refine X.u (LU.assignR Is.rfl') rfl ?_
      refine LL.nil (after_code ?_)
      refine LW.ret (ret_code (after_end ?_))
      refine X.ret (H' := [bkC g m sec, bkM m l]) (Res.one (by exact IsR rfl)) (by repeat (first | exact HSub.refl _ | refine HSub.pick 1 rfl ?_ | refine HSub.drop ?_)) ?_
      exact ⟨rfl, by rw [hU2 h4]⟩
    · have h4 : revE l tok = 0 := by simpa using h4
      obtain ⟨i, e, he, hi, hfe, hge⟩ := rev0 h4
      have hge0 : 0 ≤ e.gone := hg i _ he
      have hL : revL l tok = l.set i (tok, { e with gone := e.gone + 1 }) := by unfold revL; rw [if_pos h4, hi, hfe]
      rw [hfe]
      refine LW.skip (after_code ?_)
      refine LW.seq ?_
      refine LW.region ?_
      refine X.u (LU.fieldO Tryd.underlying88 rfl Tryd.sizeOf3 (by decide) Is.rfl') rfl ?_
      refine X.u (LU.loadO 0 rfl ⟨Tryd.sizeOf3, Tryd.isAgg3⟩ Is.rfl' (Part.one rfl)) rfl ?_
      refine X.u (LU.addN Is.rfl' Is.rfl' (wrap_i64 (by omega) (by omega))) rfl ?_
      refine X.u (LU.fieldO Tryd.underlying88 rfl Tryd.sizeOf3 (by decide) Is.rfl') rfl ?_
      refine X.act (X.store 0 rfl Tryd.sizeOf3 Is.rfl' Is.rfl' (by exact Cells.raw rfl) (by (simp; done)) (by (simp; done)) ?_)
      refine LL.nil (after_code ?_)
      refine LW.seq ?_
      refine X.wcells (ys := enL { e with gone := e.gone + 1 }) rfl ?_
      refine X.drawM 6 rfl (by kernel_rfl) rfl ?_
      refine QD.u (LU.moveR Is.rfl') rfl ?_
      refine QD.u (LU.nilCheck Is.rfl') rfl ?_
      refine QD.u (LU.fieldO Tryd.underlying57 rfl Tryd.sizeOf55 (by decide) Is.rfl') rfl ?_
      refine QD.u (LU.loadO 1 rfl ⟨Tryd.sizeOf55, Tryd.isAgg55⟩ Is.rfl' (Part.one rfl)) rfl ?_
      refine QD.u (LU.moveR Is.rfl') rfl ?_
      refine QD.u (LU.loadO 0 rfl ⟨Tryd.sizeOf88, Tryd.isAgg88⟩ Is.rfl' (Part.whole (by (simp; done)))) rfl ?_
      refine QD.nil ?_
      refine X.act (LO.mapUpdate (st := ⟨_, _, _⟩) 2 (KeyOk.string Tryd.underlying9) rfl Tryd.underlying55 Is.rfl' Is.rfl' Is.rfl' ?_)
      refine LL.nil (after_code ?_)
      refine LW.seq ?_
      refine X.wghost (H' := bkM m (l.set i (tok, { e with gone := e.gone + 1 })) :: bkC g m sec :: Rf) (HSub.trans (B := .map m (mp skey (setM (enM l) tok (.agg (enL { e with gone := e.gone + 1 })))) :: bkC g m sec :: Rf) (by repeat (first | exact HSub.refl _ | refine HSub.pick 0 rfl ?_ | refine HSub.pick 1 rfl ?_ | refine HSub.drop ?_)) (by show L.HSub _ (.map m (mp skey (enM (l.set i (tok, { e with gone := e.gone + 1 })))) :: _); unfold setM; rw [show idxM (enM l) tok = some i from hi]; rw [show enM (l.set i (tok, { e with gone := e.gone + 1 })) = (enM l).set i (tok, .agg (enL { e with gone := e.gone + 1 })) from List.map_set ..]; exact HSub.refl _)) ?_
      refine LW.region ?_
      refine X.u (LU.assignR Is.rfl') rfl ?_
      refine LL.nil (after_code ?_)
      refine LW.ret (after_end ?_)
      refine X.ret (H' := [bkC g m sec, bkM m (l.set i (tok, { e with gone := e.gone + 1 }))]) (Res.one (by exact IsR rfl)) (by repeat (first | exact HSub.refl _ | refine HSub.pick 1 rfl ?_)) ?_
      exact ⟨by rw [h4]; rfl, by rw [hL]⟩
end Go.Proofs.YtnfeepmgdahmgaaDoor
