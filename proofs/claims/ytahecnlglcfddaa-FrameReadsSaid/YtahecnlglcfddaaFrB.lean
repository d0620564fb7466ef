/- Frames: the document's reading; a frame made; all frames that bytes begin with. -/
import Derived.Test.YtahecnlglcfddaaFrA
set_option linter.unusedVariables false
set_option linter.unusedSimpArgs false
namespace Go.Proofs.Ytahecnlglcfddaa
open Go.RowKit Go.L
attribute [local irreducible] LL LW LO LP LA
set_option maxRecDepth 100000 in
theorem runfr_calls (l : List UInt8) (c : Cap) (hl : l.length < 1099511627776) : LCalls Try.prog 29 [Bytes l c] [] (fun r H' => r = .tup [Bytes (unfr l).1 .unk, i64 (unfr l).2.1, i64 (unfr l).2.2] ∧ H' = []) := by
  have hn := num4_lt l
  have hd4 : (l.drop 4).length = l.length - 4 := by simp
  have c13 : 8 ≤ l.length → LCalls Try.prog 42 [Bytes (l.drop 4) .unk] [] (fun r H' => r = u32 (num4 (l.drop 4)) ∧ H' = []) := fun h => rnumber4_calls (l.drop 4) .unk (by omega) (by omega)
  have c16 : LCalls Try.prog 21 [Bytes (l.take 4) .unk] [] (fun r H' => r = u32 (crc (l.take 4)) ∧ H' = []) := rsum_calls (l.take 4) .unk (by simp; omega)
  have c20 : 8 ≤ l.length → LCalls Try.prog 42 [Bytes l c] [] (fun r H' => r = u32 (num4 l) ∧ H' = []) := fun h => rnumber4_calls l c hl (by omega)
  have c34 : num4 l + 12 ≤ l.length → LCalls Try.prog 42 [Bytes (l.drop (8 + num4 l)) .unk] [] (fun r H' => r = u32 (num4 (l.drop (8 + num4 l))) ∧ H' = []) := fun h => rnumber4_calls (l.drop (8 + num4 l)) .unk (by simp; omega) (by simp; omega)
  have c39 : LCalls Try.prog 21 [Bytes ((l.drop 8).take (num4 l)) .unk] [] (fun r H' => r = u32 (crc ((l.drop 8).take (num4 l))) ∧ H' = []) := rsum_calls ((l.drop 8).take (num4 l)) .unk (by simp; omega)
  have hU : unfr l = if l.length < 8 then ([], 0, 10) else if num4 (l.drop 4) ≠ crc (l.take 4) then ([], 0, 40) else if 65536 < num4 l then ([], 0, 3) else if l.length < num4 l + 12 then ([], 0, 10) else if num4 (l.drop (8 + num4 l)) ≠ crc ((l.drop 8).take (num4 l)) then ([], 0, 40) else ((l.drop 8).take (num4 l), num4 l + 12, 0) := rfl
  obtain ⟨u, hu⟩ : ∃ u, u = unfr l := ⟨_, rfl⟩
  rw [← hu] at hU ⊢
  clear hu
  obtain ⟨a, ha⟩ : ∃ a, a = num4 (l.drop 4) := ⟨_, rfl⟩
  obtain ⟨s, hs⟩ : ∃ s, s = crc (l.take 4) := ⟨_, rfl⟩
  obtain ⟨n, hnn⟩ : ∃ n, n = num4 l := ⟨_, rfl⟩
  rw [← hnn] at hn c20 c34 c39 hU
  obtain ⟨a2, ha2⟩ : ∃ a2, a2 = num4 (l.drop (8 + n)) := ⟨_, rfl⟩
  obtain ⟨s2, hs2⟩ : ∃ s2, s2 = crc ((l.drop 8).take n) := ⟨_, rfl⟩
  rw [← ha] at c13 hU
  rw [← hs] at c16 hU
  rw [← ha2] at c34 hU
  rw [← hs2] at c39 hU
  clear ha hs ha2 hs2 hnn
  refine LCalls.of Try.func29 rfl Try.ntmps29 Try.results29 rfl (fun Rf => ?_)
  refine LW.seq ?_
  refine LW.region ?_
  refine X.u (LU.assign (Is.nil 1)) rfl ?_
  refine X.u (LU.assignR Is.rfl') rfl ?_
  refine X.u (LU.assignR Is.rfl') rfl ?_
  refine LL.nil (after_code ?_)
  refine LW.seq ?_
  refine LW.seq ?_
  refine LW.region ?_
  refine X.u (LU.moveS Is.rfl') rfl ?_
  refine X.u (LU.lenN Try.underlying22 Is.rfl' (by (simp only [Option.getD_some, Option.getD_none, byteEls_length, intEls_length, List.length_append, List.length_cons, List.length_nil, List.length_map, List.length_drop, List.length_take, Int.toNat_natCast]; rfl))) rfl ?_
  refine X.u (LU.lss Is.rfl' Is.rfl') rfl ?_
  refine LL.nil (after_code ?_)
  refine X.cond rfl (fun h1 => ?_) (fun h1 => ?_)
  · try have h1 := of_decide_eq_true h1
    refine LW.seq ?_
    refine LW.region ?_
    refine X.u (LU.assign (Is.nil 1)) rfl ?_
    refine X.u (LU.assignR Is.rfl') rfl ?_
    refine X.u (LU.assignR Is.rfl') rfl ?_
    refine LL.nil (after_code ?_)
    refine LW.ret (ret_code (after_end ?_))
    refine X.ret (H' := []) (Res.three (by exact IsS rfl) (by exact IsR rfl) (by exact IsR rfl)) (by exact HSub.refl _) ?_
    exact ⟨by rw [hU, if_pos (by omega)]; rfl, rfl⟩
  · try have h1 := of_decide_eq_false h1
    refine LW.skip (after_code ?_)
    refine LW.seq ?_
    refine LW.seq ?_
    refine X.drawM 7 rfl (by kernel_rfl) rfl ?_
    refine QD.u (LU.moveS Is.rfl') rfl ?_
    refine QD.u (LU.sliceB (i := some 4) (j := none) Try.sizeOf5 Try.underlying22 Is.rfl' ⟨_, Is.rfl'⟩ trivial (by simp) (by simp; omega) (by simp) (m := l.drop 4) (by simp only [Option.getD_some, Option.getD_none]; exact List.take_of_length_le (by simp))) rfl ?_
    refine QD.u (LU.call (c13 (by omega)) Try.func42 rfl rfl (Opds.cons Is.rfl' Opds.nil)) rfl ?_
    refine QD.u (LU.moveS Is.rfl') rfl ?_
    refine QD.u (LU.sliceB (i := none) (j := some 4) Try.sizeOf5 Try.underlying22 Is.rfl' trivial ⟨_, Is.rfl'⟩ (by simp) (by simp) (by simp; omega) (m := l.take 4) (by simp)) rfl ?_
    refine QD.u (LU.call (c16) Try.func21 rfl rfl (Opds.cons Is.rfl' Opds.nil)) rfl ?_
    refine QD.u (LU.neq Is.rfl' Is.rfl') rfl ?_
    refine QD.nil ?_
    refine LL.nil (after_code ?_)
    refine X.cond rfl (fun h3 => ?_) (fun h3 => ?_)
    · have g3 : a ≠ s := by simp at h3; omega
      refine LW.seq ?_
      refine LW.region ?_
      refine X.u (LU.assign (Is.nil 1)) rfl ?_
      refine X.u (LU.assignR Is.rfl') rfl ?_
      refine X.u (LU.assignR Is.rfl') rfl ?_
      refine LL.nil (after_code ?_)
      refine LW.ret (ret_code (after_end ?_))
      refine X.ret (H' := []) (Res.three (by exact IsS rfl) (by exact IsR rfl) (by exact IsR rfl)) (by exact HSub.refl _) ?_
      exact ⟨by rw [hU, if_neg (by omega), if_pos g3]; rfl, rfl⟩
    · have g3 : ¬ (a ≠ s) := by simp at h3; omega
      refine LW.skip (after_code ?_)
      refine LW.seq ?_
      refine LW.region ?_
      refine X.u (LU.moveS Is.rfl') rfl ?_
      refine X.u (LU.call (c20 (by omega)) Try.func42 rfl rfl (Opds.cons Is.rfl' Opds.nil)) rfl ?_
      refine X.u (LU.assignR Is.rfl') rfl ?_
      refine LL.nil (after_code ?_)
      refine LW.seq ?_
      refine LW.seq ?_
      refine LW.region ?_
      refine X.u (LU.moveR Is.rfl') rfl ?_
      refine X.u (LU.gtr Is.rfl' Is.rfl') rfl ?_
      refine LL.nil (after_code ?_)
      refine X.cond rfl (fun h6 => ?_) (fun h6 => ?_)
      · try have h6 := of_decide_eq_true h6
        refine LW.seq ?_
        refine LW.region ?_
        refine X.u (LU.assign (Is.nil 1)) rfl ?_
        refine X.u (LU.assignR Is.rfl') rfl ?_
        refine X.u (LU.assignR Is.rfl') rfl ?_
        refine LL.nil (after_code ?_)
        refine LW.ret (ret_code (after_end ?_))
        refine X.ret (H' := []) (Res.three (by exact IsS rfl) (by exact IsR rfl) (by exact IsR rfl)) (by exact HSub.refl _) ?_
        exact ⟨by rw [hU, if_neg (by omega), if_neg g3, if_pos (by omega)]; rfl, rfl⟩
      · try have h6 := of_decide_eq_false h6
        refine LW.skip (after_code ?_)
        refine LW.seq ?_
        refine LW.seq ?_
        refine LW.region ?_
        refine X.u (LU.moveS Is.rfl') rfl ?_
        refine X.u (LU.lenN Try.underlying22 Is.rfl' (by (simp only [Option.getD_some, Option.getD_none, byteEls_length, intEls_length, List.length_append, List.length_cons, List.length_nil, List.length_map, List.length_drop, List.length_take, Int.toNat_natCast]; rfl))) rfl ?_
        refine X.u (LU.moveR Is.rfl') rfl ?_
        refine X.u (LU.convN Try.underlying29 Try.underlying3 Is.rfl' (wrap_i64 (by omega) (by omega))) rfl ?_
        refine X.u (LU.addN Is.rfl' Is.rfl' (wrap_i64 (by omega) (by omega))) rfl ?_
        refine X.u (LU.lss Is.rfl' Is.rfl') rfl ?_
        refine LL.nil (after_code ?_)
        refine X.cond rfl (fun h8 => ?_) (fun h8 => ?_)
        · try have h8 := of_decide_eq_true h8
          refine LW.seq ?_
          refine LW.region ?_
          refine X.u (LU.assign (Is.nil 1)) rfl ?_
          refine X.u (LU.assignR Is.rfl') rfl ?_
          refine X.u (LU.assignR Is.rfl') rfl ?_
          refine LL.nil (after_code ?_)
          refine LW.ret (ret_code (after_end ?_))
          refine X.ret (H' := []) (Res.three (by exact IsS rfl) (by exact IsR rfl) (by exact IsR rfl)) (by exact HSub.refl _) ?_
          exact ⟨by rw [hU, if_neg (by omega), if_neg g3, if_neg (by omega), if_pos (by omega)]; rfl, rfl⟩
        · try have h8 := of_decide_eq_false h8
          refine LW.skip (after_code ?_)
          refine LW.seq ?_
          refine LW.region ?_
          refine X.u (LU.moveS Is.rfl') rfl ?_
          refine X.u (LU.moveR Is.rfl') rfl ?_
          refine X.u (LU.convN Try.underlying29 Try.underlying3 Is.rfl' (wrap_i64 (by omega) (by omega))) rfl ?_
          refine X.u (LU.weak (LU.addN Is.rfl' Is.rfl' (wrap_i64 (by omega) (by omega))) (Is.of (y := i64 ((8 + n : Nat) : Int)) (rfl))) rfl ?_
          refine X.u (LU.sliceB (i := some 8) (j := some ((8 + n : Nat) : Int)) Try.sizeOf5 Try.underlying22 Is.rfl' ⟨_, Is.rfl'⟩ ⟨_, Is.rfl'⟩ (by simp) (by simp only [Option.getD_some]; omega) (by simp only [Option.getD_some]; omega) (m := (l.drop 8).take n) (by simp only [Option.getD_some, Int.toNat_natCast]; congr 1; omega)) rfl ?_
          refine X.u (LU.assignS Is.rfl') rfl ?_
          refine LL.nil (after_code ?_)
          refine LW.seq ?_
          refine LW.seq ?_
          refine LW.region ?_
          refine X.u (LU.moveS Is.rfl') rfl ?_
          refine X.u (LU.moveR Is.rfl') rfl ?_
          refine X.u (LU.convN Try.underlying29 Try.underlying3 Is.rfl' (wrap_i64 (by omega) (by omega))) rfl ?_
          refine X.u (LU.weak (LU.addN Is.rfl' Is.rfl' (wrap_i64 (by omega) (by omega))) (Is.of (y := i64 ((8 + n : Nat) : Int)) (rfl))) rfl ?_
          refine X.u (LU.sliceB (i := some ((8 + n : Nat) : Int)) (j := none) Try.sizeOf5 Try.underlying22 Is.rfl' ⟨_, Is.rfl'⟩ trivial (by simp only [Option.getD_some]; omega) (by simp only [Option.getD_some, Option.getD_none]; omega) (by simp) (m := l.drop (8 + n)) (by simp only [Option.getD_some, Option.getD_none, Int.toNat_natCast]; rw [List.take_of_length_le (by simp)])) rfl ?_
          refine X.u (LU.call (c34 (by omega)) Try.func42 rfl rfl (Opds.cons Is.rfl' Opds.nil)) rfl ?_
          refine X.u (LU.moveS Is.rfl') rfl ?_
          refine X.u (LU.call (c39) Try.func21 rfl rfl (Opds.cons Is.rfl' Opds.nil)) rfl ?_
          refine X.u (LU.neq Is.rfl' Is.rfl') rfl ?_
          refine LL.nil (after_code ?_)
          refine X.cond rfl (fun h11 => ?_) (fun h11 => ?_)
          · have g10 : a2 ≠ s2 := by simp at h11; omega
            refine LW.seq ?_
            refine LW.region ?_
            refine X.u (LU.assign (Is.nil 1)) rfl ?_
            refine X.u (LU.assignR Is.rfl') rfl ?_
            refine X.u (LU.assignR Is.rfl') rfl ?_
            refine LL.nil (after_code ?_)
            refine LW.ret (ret_code (after_end ?_))
            refine X.ret (H' := []) (Res.three (by exact IsS rfl) (by exact IsR rfl) (by exact IsR rfl)) (by exact HSub.refl _) ?_
            exact ⟨by rw [hU, if_neg (by omega), if_neg g3, if_neg (by omega), if_neg (by omega), if_pos g10]; rfl, rfl⟩
          · have g10 : ¬ (a2 ≠ s2) := by simp at h11; omega
            refine LW.skip (after_code ?_)
            refine LW.seq ?_
            refine LW.region ?_
            refine X.u (LU.lits Try.underlying22 Try.sizeOf5 Try.zeroValue5 (ones rfl) rfl (by decide) (by decide) Elems.nil (by intro e he; cases he) rfl) rfl ?_
            refine X.u (LU.moveS Is.rfl') rfl ?_
            refine X.u (LU.weak (LU.append Try.underlying22 (El.of (P := Try.prog) (z := (.int .u8 0)) (size := 1) (bytes := 1) rfl rfl rfl) Is.rfl' Is.rfl' (SrcL.slice Try.underlying22 (by decide) (by exact byteEls_size _)) (by simp only [Option.getD_some, Option.getD_none, byteEls_length, intEls_length, List.length_append, List.length_cons, List.length_nil, List.length_map, List.length_drop, List.length_take, Int.toNat_natCast]; omega) (by simp only [Option.getD_some, Option.getD_none, byteEls_length, intEls_length, List.length_append, List.length_cons, List.length_nil, List.length_map, List.length_drop, List.length_take, Int.toNat_natCast]; omega)) (Is.of (y := Bytes ((l.drop 8).take n) .unk) (rfl))) rfl ?_
            refine X.u (LU.moveR Is.rfl') rfl ?_
            refine X.u (LU.convN Try.underlying29 Try.underlying3 Is.rfl' (wrap_i64 (by omega) (by omega))) rfl ?_
            refine X.u (LU.weak (LU.addN Is.rfl' Is.rfl' (wrap_i64 (by omega) (by omega))) (Is.of (y := i64 ((n + 12 : Nat) : Int)) (rfl))) rfl ?_
            refine X.u (LU.assignS Is.rfl') rfl ?_
            refine X.u (LU.assignR Is.rfl') rfl ?_
            refine X.u (LU.assignR Is.rfl') rfl ?_
            refine LL.nil (after_code ?_)
            refine LW.ret (after_end ?_)
            refine X.ret (H' := []) (Res.three (by exact IsS rfl) (by exact IsR rfl) (by exact IsR rfl)) (by exact HSub.refl _) ?_
            exact ⟨by rw [hU, if_neg (by omega), if_neg g3, if_neg (by omega), if_neg (by omega), if_neg g10]; rfl, rfl⟩
/-! ### a frame made -/
def be4 (n : Nat) : List UInt8 := [UInt8.ofNat (n / 16777216), UInt8.ofNat (n / 65536), UInt8.ofNat (n / 256), UInt8.ofNat n]
theorem be4_len (n : Nat) : (be4 n).length = 4 := rfl
theorem num4_be4 {n : Nat} (h : n < 4294967296) (r : List UInt8) : num4 (be4 n ++ r) = n := by
  unfold num4 be4
  simp
  omega
theorem be4_els (n : Nat) (h : n < 4294967296) : [[u8 (shr32 n 24 % 256)], [u8 (shr32 n 16 % 256)], [u8 (shr32 n 8 % 256)], [u8 (n % 256)]] = byteEls (be4 n) := by
  unfold be4 byteEls shr32
  simp
def frm (x : List UInt8) : List UInt8 := be4 x.length ++ be4 (crc (be4 x.length)) ++ x ++ be4 (crc x)
theorem frm_len (x : List UInt8) : (frm x).length = x.length + 12 := by simp [frm, be4_len]; omega
set_option maxRecDepth 100000 in
theorem four_calls (l : List UInt8) (n b o c : Nat) (hl : l.length < 1099511627776) (hn : n < 4294967296) : LCalls Try.prog 36 [Bytes l (.tok b o c), u32 n] [.tail b o c] (fun r H' => ∃ b' o' c', r = Bytes (l ++ be4 n) (.tok b' o' c') ∧ H' = [.tail b' o' c']) := by
  have he := be4_els n hn
  have hb4 := be4_len n
  refine LCalls.of Try.func36 rfl Try.ntmps36 Try.results36 rfl (fun Rf => ?_)
  refine LW.seq ?_
  refine LW.region ?_
  refine X.u (LU.assign (Is.nil 1)) rfl ?_
  refine LL.nil (after_code ?_)
  refine LW.seq ?_
  refine LW.region ?_
  refine X.u (LU.moveS Is.rfl') rfl ?_
  refine X.u (LU.moveR Is.rfl') rfl ?_
  refine X.u (LU.shr32 Is.rfl' Is.rfl' (by omega)) rfl ?_
  refine X.u (LU.to8 Try.underlying29 Try.underlying5 Is.rfl') rfl ?_
  refine X.u (LU.moveR Is.rfl') rfl ?_
  refine X.u (LU.shr32 Is.rfl' Is.rfl' (by omega)) rfl ?_
  refine X.u (LU.to8 Try.underlying29 Try.underlying5 Is.rfl') rfl ?_
  refine X.u (LU.moveR Is.rfl') rfl ?_
  refine X.u (LU.shr32 Is.rfl' Is.rfl' (by omega)) rfl ?_
  refine X.u (LU.to8 Try.underlying29 Try.underlying5 Is.rfl') rfl ?_
  refine X.u (LU.moveR Is.rfl') rfl ?_
  refine X.u (LU.to8 Try.underlying29 Try.underlying5 Is.rfl') rfl ?_
  refine X.u (LU.weak (LU.lits Try.underlying22 Try.sizeOf5 Try.zeroValue5 (ones rfl) rfl (by decide) (by decide) (Elems.cons Is.rfl' (by exact Cells.raw rfl) (Elems.cons Is.rfl' (by exact Cells.raw rfl) (Elems.cons Is.rfl' (by exact Cells.raw rfl) (Elems.cons Is.rfl' (by exact Cells.raw rfl) Elems.nil)))) (by simp) rfl) (asS (fs := byteEls (be4 n)) rfl (by rw [← he]; rfl))) rfl ?_
  refine X.act (X.append 0 rfl rfl Try.underlying22 (El.of (P := Try.prog) (z := (.int .u8 0)) (size := 1) (bytes := 1) rfl rfl rfl) Is.rfl' Is.rfl' (SrcL.slice Try.underlying22 (by decide) (by exact byteEls_size _)) (by simp only [Option.getD_some, Option.getD_none, byteEls_length, intEls_length, List.length_append, List.length_cons, List.length_nil, List.length_map, List.length_drop, List.length_take, Int.toNat_natCast]; omega) (by simp only [Option.getD_some, Option.getD_none, byteEls_length, intEls_length, List.length_append, List.length_cons, List.length_nil, List.length_map, List.length_drop, List.length_take, Int.toNat_natCast]; omega) (fun b18 o18 c18 => X.weak (t := 18) (Is.of (y := Bytes (l ++ be4 n) (.tok b18 o18 c18)) (congrArg (fun z => LV.sl 1 z (.tok b18 o18 c18)) (byteEls_append l (be4 n)).symm)) ?_))
  refine X.u (LU.assignS Is.rfl') rfl ?_
  refine LL.nil (after_code ?_)
  refine LW.ret (after_end ?_)
  refine X.ret (H' := [.tail b18 o18 c18]) (Res.one Is.rfl') (by exact HSub.refl _) ?_
  exact ⟨b18, o18, c18, rfl, rfl⟩
set_option maxRecDepth 100000 in
theorem frame_calls (x : List UInt8) (k : Cap) (hx : x.length < 1099511627776) : LCalls Try.prog 22 [Bytes x k] [] (fun r H' => r = .tup [Bytes (if 65536 < x.length then [] else frm x) .unk, i64 (if 65536 < x.length then 3 else 0)] ∧ H' = []) := by
  obtain ⟨s1, hs1⟩ : ∃ s1, s1 = crc (be4 x.length) := ⟨_, rfl⟩
  obtain ⟨s2, hs2⟩ : ∃ s2, s2 = crc x := ⟨_, rfl⟩
  have hl1 : s1 < 4294967296 := hs1 ▸ crc_lt _
  have hl2 : s2 < 4294967296 := hs2 ▸ crc_lt _
  have hf : frm x = be4 x.length ++ be4 s1 ++ x ++ be4 s2 := by rw [hs1, hs2]; rfl
  have c1 : ∀ k, LCalls Try.prog 20 [Bytes (be4 x.length) k] [] (fun r H' => r = u32 s1 ∧ H' = []) := fun k => by rw [hs1]; exact fsum_calls _ k (by rw [be4_len]; omega)
  have c2 : LCalls Try.prog 20 [Bytes x k] [] (fun r H' => r = u32 s2 ∧ H' = []) := by rw [hs2]; exact fsum_calls _ k hx
  clear hs1 hs2
  have hb1 := be4_len x.length
  have hb2 := be4_len s1
  refine LCalls.of Try.func22 rfl Try.ntmps22 Try.results22 rfl (fun Rf => ?_)
  refine LW.seq ?_
  refine LW.region ?_
  refine X.u (LU.assign (Is.nil 1)) rfl ?_
  refine X.u (LU.assignR Is.rfl') rfl ?_
  refine LL.nil (after_code ?_)
  refine LW.seq ?_
  refine LW.seq ?_
  refine LW.region ?_
  refine X.u (LU.moveS Is.rfl') rfl ?_
  refine X.u (LU.lenN Try.underlying22 Is.rfl' (by (simp only [Option.getD_some, Option.getD_none, byteEls_length, intEls_length, List.length_append, List.length_cons, List.length_nil, List.length_map, List.length_drop, List.length_take, Int.toNat_natCast]; rfl))) rfl ?_
  refine X.u (LU.gtr Is.rfl' Is.rfl') rfl ?_
  refine LL.nil (after_code ?_)
  refine X.cond rfl (fun h1 => ?_) (fun h1 => ?_)
  · try have h1 := of_decide_eq_true h1
    refine LW.seq ?_
    refine LW.region ?_
    refine X.u (LU.assign (Is.nil 1)) rfl ?_
    refine X.u (LU.assignR Is.rfl') rfl ?_
    refine LL.nil (after_code ?_)
    refine LW.ret (ret_code (after_end ?_))
    refine X.ret (H' := []) (Res.two (by exact IsS rfl) (by exact IsR rfl)) (by exact HSub.refl _) ?_
    exact ⟨by rw [if_pos (by omega), if_pos (by omega)]; rfl, rfl⟩
  · try have h1 := of_decide_eq_false h1
    refine LW.skip (after_code ?_)
    refine LW.seq ?_
    refine LW.region ?_
    refine X.u (LU.moveS Is.rfl') rfl ?_
    refine X.u (LU.lenN Try.underlying22 Is.rfl' (by (simp only [Option.getD_some, Option.getD_none, byteEls_length, intEls_length, List.length_append, List.length_cons, List.length_nil, List.length_map, List.length_drop, List.length_take, Int.toNat_natCast]; rfl))) rfl ?_
    refine X.u (LU.weak (LU.addN Is.rfl' Is.rfl' (wrap_i64 (by omega) (by omega))) (Is.of (y := i64 ((x.length + 12 : Nat) : Int)) (rfl))) rfl ?_
    refine X.act (X.make0 rfl Try.underlying22 (El.of (P := Try.prog) (z := (.int .u8 0)) (size := 1) (bytes := 1) rfl rfl rfl) Is.rfl' Is.rfl' (by omega) (by omega) (fun b11 o11 c11 => ?_))
    refine X.u (LU.moveS Is.rfl') rfl ?_
    refine X.u (LU.lenN Try.underlying22 Is.rfl' (by (simp only [Option.getD_some, Option.getD_none, byteEls_length, intEls_length, List.length_append, List.length_cons, List.length_nil, List.length_map, List.length_drop, List.length_take, Int.toNat_natCast]; rfl))) rfl ?_
    refine X.u (LU.convN Try.underlying3 Try.underlying29 Is.rfl' (wrap_u32 (by omega) (by omega))) rfl ?_
    refine X.act (X.call (four_calls [] x.length b11 o11 c11 (by simp) (by omega)) Try.func36 rfl rfl rfl (by (refine HSub.pick 0 rfl ?_); exact HSub.refl _) (Opds.cons Is.rfl' (Opds.cons Is.rfl' Opds.nil)) ?_)
    rintro r H' ⟨b1, o1, d1, rfl, rfl⟩
    refine X.u (LU.assignS Is.rfl') rfl ?_
    refine LL.nil (after_code ?_)
    refine LW.seq ?_
    refine LW.region ?_
    refine X.u (LU.moveS Is.rfl') rfl ?_
    refine X.u (LU.moveS Is.rfl') rfl ?_
    refine X.u (LU.call (c1 _) Try.func20 rfl rfl (Opds.cons Is.rfl' Opds.nil)) rfl ?_
    refine X.act (X.call (four_calls (be4 x.length) s1 b1 o1 d1 (by rw [be4_len]; omega) hl1) Try.func36 rfl rfl rfl (by (refine HSub.pick 0 rfl ?_); exact HSub.refl _) (Opds.cons Is.rfl' (Opds.cons Is.rfl' Opds.nil)) ?_)
    rintro r H' ⟨b2, o2, d2, rfl, rfl⟩
    refine X.u (LU.assignS Is.rfl') rfl ?_
    refine LL.nil (after_code ?_)
    refine LW.seq ?_
    refine LW.region ?_
    refine X.u (LU.moveS Is.rfl') rfl ?_
    refine X.u (LU.moveS Is.rfl') rfl ?_
    refine X.act (X.append 0 rfl rfl Try.underlying22 (El.of (P := Try.prog) (z := (.int .u8 0)) (size := 1) (bytes := 1) rfl rfl rfl) Is.rfl' Is.rfl' (SrcL.slice Try.underlying22 (by decide) (by exact byteEls_size _)) (by simp only [Option.getD_some, Option.getD_none, byteEls_length, intEls_length, List.length_append, List.length_cons, List.length_nil, List.length_map, List.length_drop, List.length_take, Int.toNat_natCast]; omega) (by simp only [Option.getD_some, Option.getD_none, byteEls_length, intEls_length, List.length_append, List.length_cons, List.length_nil, List.length_map, List.length_drop, List.length_take, Int.toNat_natCast]; omega) (fun b22 o22 c22 => X.weak (t := 22) (Is.of (y := Bytes (be4 x.length ++ be4 s1 ++ x) (.tok b22 o22 c22)) (congrArg (fun z => LV.sl 1 z (.tok b22 o22 c22)) (byteEls_append _ x).symm)) ?_))
    refine X.u (LU.moveS Is.rfl') rfl ?_
    refine X.u (LU.call (c2) Try.func20 rfl rfl (Opds.cons Is.rfl' Opds.nil)) rfl ?_
    refine X.act (X.call (four_calls (be4 x.length ++ be4 s1 ++ x) s2 b22 o22 c22 (by simp [be4_len]; omega) hl2) Try.func36 rfl rfl rfl (by (refine HSub.pick 0 rfl ?_); exact HSub.refl _) (Opds.cons Is.rfl' (Opds.cons Is.rfl' Opds.nil)) ?_)
    rintro r H' ⟨b3, o3, d3, rfl, rfl⟩
    refine X.u (LU.assignS Is.rfl') rfl ?_
    refine X.u (LU.assignR Is.rfl') rfl ?_
    refine LL.nil (after_code ?_)
    refine LW.ret (after_end ?_)
    refine X.ret (H' := []) (Res.two (by exact IsS rfl) (by exact IsR rfl)) (by repeat (first | exact HSub.refl _ | refine HSub.pick 0 rfl ?_ | refine HSub.pick 1 rfl ?_ | refine HSub.pick 2 rfl ?_ | refine HSub.pick 3 rfl ?_ | refine HSub.pick 4 rfl ?_ | refine HSub.drop ?_)) ?_
    exact ⟨by rw [if_neg (by omega), if_neg (by omega), hf]; try rfl, rfl⟩
/-! ### all frames that bytes begin with -/
theorem unfr_pos {l : List UInt8} (h : (unfr l).2.2 = 0) : 12 ≤ (unfr l).2.1 ∧ (unfr l).2.1 ≤ l.length := by
  have := unfr_ok l h
  omega
/-- The frames, each with its place. -/
def frs (at_ : Nat) (l : List UInt8) : List (Nat × List UInt8) :=
  if h : (unfr l).2.2 = 0 then (at_, (unfr l).1) :: frs (at_ + (unfr l).2.1) (l.drop (unfr l).2.1) else []
termination_by l.length
decreasing_by
  have := unfr_pos h
  simp
  omega
theorem frs_ok {at_ : Nat} {l : List UInt8} (h : (unfr l).2.2 = 0) : frs at_ l = (at_, (unfr l).1) :: frs (at_ + (unfr l).2.1) (l.drop (unfr l).2.1) := by rw [frs, dif_pos h]
theorem frs_bad {at_ : Nat} {l : List UInt8} (h : (unfr l).2.2 ≠ 0) : frs at_ l = [] := by rw [frs, dif_neg h]
abbrev datas (l : List (Nat × List UInt8)) : List (List UInt8) := l.map (·.2)
abbrev bEls (k : List UInt8 → Cap) (l : List (List UInt8)) : List (List LV) := l.map fun x => [Bytes x (k x)]
end Go.Proofs.Ytahecnlglcfddaa
