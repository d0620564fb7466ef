/- Of any bytes the frame that they begin with is told, or the first thing that is wrong with it. -/
import Derived.Test.YtahecnlglcfddaaFrC
set_option linter.unusedVariables false
set_option linter.unusedSimpArgs false
namespace Go.Proofs.Ytahecnlglcfddaa
open Go.RowKit Go.L
attribute [local irreducible] LL LW LO LP LA
abbrev bRow (l : List (List UInt8)) : List (List LV) := l.map fun x => [Bytes x .unk]
theorem bRow_snoc (l : List (List UInt8)) (x : List UInt8) (k : Cap) : LV.sl 1 (bRow l ++ [[Bytes x .unk]]) k = LV.sl 1 (bRow (l ++ [x])) k := by simp
theorem bRow_at {l : List (List UInt8)} {i : Nat} {x : List UInt8} (h : l[i]? = some x) : (bRow l)[(i : Int).toNat]? = some [Bytes x .unk] := by
  rw [Int.toNat_natCast, List.getElem?_map, h]; rfl
set_option maxRecDepth 100000 in
theorem rall_calls (l : List UInt8) (c : Cap) (hl : l.length < 1099511627776) : LCalls Try.prog 30 [Bytes l c] [] (fun r H' => r = .sl 1 (bRow (datas (frs 0 l))) .unk ∧ H' = []) := by
  refine LCalls.of Try.func30 rfl Try.ntmps30 Try.results30 rfl (fun Rf => ?_)
  refine LW.seq ?_
  refine LW.region ?_
  refine X.u (LU.assign (Is.nil 1)) rfl ?_
  refine LL.nil (after_code ?_)
  refine LW.seq ?_
  refine LW.region ?_
  refine X.u (LU.assign (Is.nil 1)) rfl ?_
  refine LL.nil (after_code ?_)
  refine LW.block ?_
  refine X.wghost (HSub.tail0 0 0 0 (Nat.le_refl _) _) ?_
  refine X.wweak (t := 3) (v := .sl 1 (bRow []) (.tok 0 0 0)) (Is.full_tok 0 0) ?_
  refine X.wweak (t := 0) (v := Bytes (l.drop 0) .unk) Is.unk ?_
  refine X.loopK (α := Nat × List (List UInt8) × Nat × Nat × Nat) (fun ⟨a, acc, tb, to, tc⟩ => [(0, Bytes (l.drop a) .unk), (3, .sl 1 (bRow acc) (.tok tb to tc))]) [] (fun ⟨a, acc, tb, to, tc⟩ => .tail tb to tc :: Rf) (fun ⟨a, acc, tb, to, tc⟩ => acc ++ datas (frs a (l.drop a)) = datas (frs 0 l) ∧ a ≤ l.length ∧ acc.length ≤ a) (fun ⟨a, acc, tb, to, tc⟩ => l.length - a) ((0, [], 0, 0, 0)) (EnvLe.cons (by rfl) (EnvLe.cons (by rfl) (EnvLe.nil))) (by repeat (exact HSub.refl _)) ?_ ?_
  · exact ⟨rfl, Nat.zero_le _, Nat.zero_le _⟩
  · rintro ⟨a, acc, tb, to, tc⟩ hI
    obtain ⟨hd, ha, hal⟩ := hI
    have hdl : (l.drop a).length = l.length - a := by simp
    obtain ⟨u, hu⟩ : ∃ u, u = unfr (l.drop a) := ⟨_, rfl⟩
    have hcall := runfr_calls (l.drop a) .unk (by omega)
    rw [← hu] at hcall
    refine LW.block ?_
    refine LW.seq ?_
    refine LW.region ?_
    refine X.u (LU.moveS Is.rfl') rfl ?_
    refine X.u (LU.call (hcall) Try.func29 rfl rfl (Opds.cons Is.rfl' Opds.nil)) rfl ?_
    refine X.u (LU.moveT Is.rfl') rfl ?_
    refine X.u (LU.extract Is.rfl' rfl) rfl ?_
    refine X.u (LU.extract Is.rfl' rfl) rfl ?_
    refine X.u (LU.extract Is.rfl' rfl) rfl ?_
    refine X.u (LU.assignS Is.rfl') rfl ?_
    refine X.u (LU.assignR Is.rfl') rfl ?_
    refine X.u (LU.assignR Is.rfl') rfl ?_
    refine LL.nil (after_code ?_)
    refine LW.seq ?_
    refine LW.seq ?_
    refine LW.region ?_
    refine X.u (LU.moveR Is.rfl') rfl ?_
    refine X.u (LU.neq Is.rfl' Is.rfl') rfl ?_
    refine LL.nil (after_code ?_)
    refine X.cond rfl (fun h3 => ?_) (fun h3 => ?_)
    · have he : u.2.2 ≠ 0 := by simp at h3; exact h3
      refine LW.seq ?_
      refine LW.region ?_
      refine X.u (LU.moveS Is.rfl') rfl ?_
      refine X.u (LU.assignS Is.rfl') rfl ?_
      refine LL.nil (after_code ?_)
      refine LW.ret (ret_code (ret_blk (ret_rnd (ret_blk (after_end ?_)))))
      refine X.ret (H' := []) (Res.one (by exact IsS rfl)) (by repeat (first | exact HSub.refl _ | refine HSub.drop ?_)) ?_
      exact ⟨by rw [frs_bad (at_ := a) (l := l.drop a) (by rw [← hu]; exact he)] at hd; rw [← hd]; simp, rfl⟩
    · have he : u.2.2 = 0 := by simp at h3; exact h3
      have hok := unfr_pos (show (unfr (l.drop a)).2.2 = 0 by rw [← hu]; exact he)
      rw [← hu] at hok
      refine LW.skip (after_code ?_)
      refine LW.seq ?_
      refine LW.region ?_
      refine X.u (LU.moveS Is.rfl') rfl ?_
      refine X.u (LU.moveS Is.rfl') rfl ?_
      refine X.u (LU.lits Try.underlying52 Try.sizeOf22 Try.zeroValue22 (ones rfl) rfl (by decide) (by decide) (Elems.cons Is.rfl' (by exact Cells.sl) Elems.nil) (by simp) rfl) rfl ?_
      refine X.act (X.append 0 rfl rfl Try.underlying52 (El.of (P := Try.prog) (z := (.slice none 0 0)) (size := 1) (bytes := 24) rfl rfl rfl) Is.rfl' Is.rfl' (SrcL.slice Try.underlying52 (by decide) (by (intro e he; simp [chunks] at he; simp [he]; done))) (by simp only [Option.getD_some, Option.getD_none, byteEls_length, intEls_length, List.length_append, List.length_cons, List.length_nil, List.length_map, List.length_drop, List.length_take, Int.toNat_natCast]; omega) (by simp only [Option.getD_some, Option.getD_none, byteEls_length, intEls_length, List.length_append, List.length_cons, List.length_nil, List.length_map, List.length_drop, List.length_take, Int.toNat_natCast]; omega) (fun b19 o19 c19 => X.weak (t := 19) (Is.of (y := .sl 1 (bRow (acc ++ [u.1])) (.tok b19 o19 c19)) (bRow_snoc acc u.1 _)) ?_))
      refine X.u (LU.assignS Is.rfl') rfl ?_
      refine LL.nil (after_code ?_)
      refine LW.region ?_
      refine X.u (LU.moveS Is.rfl') rfl ?_
      refine X.u (LU.moveR Is.rfl') rfl ?_
      refine X.u (LU.sliceB (i := some ((u.2.1 : Nat) : Int)) (j := none) Try.sizeOf5 Try.underlying22 Is.rfl' ⟨_, Is.rfl'⟩ trivial (by simp only [Option.getD_some]; omega) (by simp only [Option.getD_some, Option.getD_none]; omega) (by simp) (m := l.drop (a + u.2.1)) (by simp only [Option.getD_some, Option.getD_none, Int.toNat_natCast]; rw [List.drop_drop, List.take_of_length_le (by simp; omega)])) rfl ?_
      refine X.u (LU.assignS Is.rfl') rfl ?_
      refine LL.nil (after_blk (after_rnd ?_))
      refine X.next ((a + u.2.1, acc ++ [u.1], b19, o19, c19)) rfl (EnvLe.cons (by rfl) (EnvLe.cons (by rfl) (EnvLe.nil))) (Keeps.nil) (by repeat (exact HSub.refl _)) ?_ ?_
      · exact ⟨by rw [frs_ok (at_ := a) (l := l.drop a) (by rw [← hu]; exact he), ← hu] at hd; rw [← hd]; simp [List.drop_drop], by omega, by simp; omega⟩
      · (simp; omega)
theorem crc_123 : crc [49, 50, 51, 52, 53, 54, 55, 56, 57] = 3421780262 := by decide +kernel
theorem frm_nil : ((frm []).getD 4 0).toNat = 33 := by decide +kernel
set_option maxRecDepth 100000 in
theorem lives4_calls : LCalls Try.prog 19 [] [] (fun r H' => r = bl true ∧ H' = []) := by
  obtain ⟨f, hf⟩ : ∃ f, f = frm [] := ⟨_, rfl⟩
  have hfl : f.length = 12 := by rw [hf, frm_len]; rfl
  have hf4 := frm_nil
  have hcf : LCalls Try.prog 22 [Bytes [] .full] [] (fun r H' => r = .tup [Bytes f .unk, i64 0] ∧ H' = []) := by rw [hf]; exact frame_calls [] .full (by simp)
  obtain ⟨s, hs⟩ : ∃ s, s = crc [49, 50, 51, 52, 53, 54, 55, 56, 57] := ⟨_, rfl⟩
  have hs1 := crc_123
  have hcs : LCalls Try.prog 20 [Bytes [49, 50, 51, 52, 53, 54, 55, 56, 57] .unk] [] (fun r H' => r = u32 s ∧ H' = []) := by rw [hs]; exact fsum_calls _ .unk (by decide)
  rw [← hf] at hf4
  rw [← hs] at hs1
  clear hf hs
  refine LCalls.of Try.func19 rfl Try.ntmps19 Try.results19 rfl (fun Rf => ?_)
  refine LW.seq ?_
  refine LW.region ?_
  refine X.u (LU.assignR Is.rfl') rfl ?_
  refine LL.nil (after_code ?_)
  refine LW.seq ?_
  refine LW.region ?_
  refine X.u (LU.call (hcf) Try.func22 rfl rfl (Opds.cons (Is.nil 1) Opds.nil)) rfl ?_
  refine X.u (LU.moveT Is.rfl') rfl ?_
  refine X.u (LU.extract Is.rfl' rfl) rfl ?_
  refine X.u (LU.extract Is.rfl' rfl) rfl ?_
  refine X.u (LU.assignS Is.rfl') rfl ?_
  refine X.u (LU.assignR Is.rfl') rfl ?_
  refine LL.nil (after_code ?_)
  refine LW.seq ?_
  refine LW.region ?_
  refine X.act (X.litO rfl Try.underlying22 Try.sizeOf5 Try.zeroValue5 (ones rfl) rfl (by decide) (by decide) (Elems.cons Is.rfl' (by exact Cells.raw rfl) (Elems.cons Is.rfl' (by exact Cells.raw rfl) (Elems.cons Is.rfl' (by exact Cells.raw rfl) (Elems.cons Is.rfl' (by exact Cells.raw rfl) (Elems.cons Is.rfl' (by exact Cells.raw rfl) (Elems.cons Is.rfl' (by exact Cells.raw rfl) (Elems.cons Is.rfl' (by exact Cells.raw rfl) (Elems.cons Is.rfl' (by exact Cells.raw rfl) (Elems.cons Is.rfl' (by exact Cells.raw rfl) Elems.nil))))))))) (by simp) rfl (fun b7 => ?_))
  refine X.act (X.mark (size := 1) 0 rfl rfl Try.underlying22 Try.underlying5 Is.rfl' (by simp) rfl (Nat.le_refl _) ?_)
  refine X.u (LU.call (hcs) Try.func20 rfl rfl (Opds.cons Is.rfl' Opds.nil)) rfl ?_
  refine X.u (LU.weak (LU.eql Is.rfl' Is.rfl') (asB (c := true) rfl (by rw [hs1]; rfl))) rfl ?_
  refine X.u (LU.moveR Is.rfl') rfl ?_
  refine X.doT rfl rfl (LU.moveR (by exact Is.rfl')) rfl ?_
  refine X.doT rfl rfl (LU.eql (by exact Is.rfl') (by exact Is.rfl')) rfl ?_
  refine X.u (LU.pickT Is.rfl' (by exact Is.rfl')) rfl ?_
  refine X.u (LU.moveR Is.rfl') rfl ?_
  refine X.doT rfl rfl (LU.moveS (by exact Is.rfl')) rfl ?_
  refine X.doT rfl rfl (LU.lenN Try.underlying22 (by exact Is.rfl') (by (simp only [Option.getD_some, Option.getD_none, byteEls_length, intEls_length, List.length_append, List.length_cons, List.length_nil, List.length_map, List.length_drop, List.length_take, Int.toNat_natCast]; rfl))) rfl ?_
  refine X.doT rfl rfl (LU.weak (LU.eql (by exact Is.rfl') (by exact Is.rfl')) (asB (c := true) rfl (by rw [hfl]; rfl))) rfl ?_
  refine X.u (LU.pickT Is.rfl' (by exact Is.rfl')) rfl ?_
  refine X.u (LU.moveR Is.rfl') rfl ?_
  refine X.doT rfl rfl (LU.moveS (by exact Is.rfl')) rfl ?_
  refine X.doT rfl rfl (LU.at Try.underlying22 ⟨Try.sizeOf5, Try.isAgg5⟩ (by exact Is.rfl') (by exact Is.rfl') (by omega) (byteEls_D 4 (by omega) (by omega)) (by simp)) rfl ?_
  refine X.doT rfl rfl (LU.load ⟨Try.sizeOf5, Try.isAgg5⟩ (by exact Is.rfl') (by (simp; done)) (Part.one rfl)) rfl ?_
  refine X.doT rfl rfl (LU.weak (LU.eql (by exact Is.rfl') (by exact Is.rfl')) (asB (c := true) rfl (by rw [hf4]; rfl))) rfl ?_
  refine X.u (LU.pickT Is.rfl' (by exact Is.rfl')) rfl ?_
  refine X.u (LU.moveR Is.rfl') rfl ?_
  refine X.u (LU.pickT Is.rfl' (by exact Is.rfl')) rfl ?_
  refine X.u (LU.moveR Is.rfl') rfl ?_
  refine X.u (LU.pickT Is.rfl' (by exact Is.rfl')) rfl ?_
  refine X.u (LU.assignR Is.rfl') rfl ?_
  refine LL.nil (after_code ?_)
  refine LW.ret (after_end ?_)
  refine X.ret (H' := []) (Res.one (by exact IsR rfl)) (by repeat (exact HSub.refl _)) ?_
  exact ⟨rfl, rfl⟩
theorem frs_first {l : List UInt8} {y : Nat × List UInt8} (h : (frs 0 l)[0]? = some y) : y.1 = 0 := by
  by_cases he : (unfr l).2.2 = 0
  · rw [frs_ok he] at h
    simp only [List.getElem?_cons_zero, Option.some_inj] at h
    rw [← h]
  · rw [frs_bad he] at h; simp at h
theorem frs_next : ∀ (k a : Nat) (l : List UInt8) (y z : Nat × List UInt8), (frs a l)[k]? = some y → (frs a l)[k + 1]? = some z → z.1 = y.1 + (y.2.length + 12)
  | k, a, l, y, z, h1, h2 => by
    by_cases he : (unfr l).2.2 = 0
    · have hok := unfr_ok l he
      rw [frs_ok he] at h1 h2
      rw [List.getElem?_cons_succ] at h2
      cases k with
      | zero =>
        simp only [List.getElem?_cons_zero, Option.some_inj] at h1
        subst h1
        by_cases he2 : (unfr (l.drop (unfr l).2.1)).2.2 = 0
        · rw [frs_ok he2] at h2
          simp only [List.getElem?_cons_zero, Option.some_inj] at h2
          subst h2
          simp; omega
        · rw [frs_bad he2] at h2; simp at h2
      | succ k =>
        rw [List.getElem?_cons_succ] at h1
        exact frs_next k _ _ y z h1 h2
    · rw [frs_bad he] at h1; simp at h1
set_option maxHeartbeats 2000000 in
set_option maxRecDepth 100000 in
theorem fr_calls (b : List UInt8) (hb0 : b.length < 140737488355328) : LCalls Try.prog 9 [Bytes b .unk] [] (fun r _ => r = .raw (.bool true)) := by
  obtain ⟨u, hu⟩ : ∃ u, u = unfr b := ⟨_, rfl⟩
  refine LCalls.of Try.func9 rfl Try.ntmps9 Try.results9 rfl (fun Rf => ?_)
  refine LW.seq ?_
  refine LW.region ?_
  refine X.act (X.alloc rfl Try.zeroValue4 (by exact Cells.raw rfl) (fun b2 => ?_))
  refine LL.nil (after_code ?_)
  refine LW.seq ?_
  refine LW.seq ?_
  refine LW.region ?_
  refine X.u (LU.moveS Is.rfl') rfl ?_
  refine X.u (LU.lenN Try.underlying22 Is.rfl' (by (simp only [Option.getD_some, Option.getD_none, byteEls_length, intEls_length, List.length_append, List.length_cons, List.length_nil, List.length_map, List.length_drop, List.length_take, Int.toNat_natCast]; rfl))) rfl ?_
  refine X.u (LU.gtr Is.rfl' Is.rfl') rfl ?_
  refine LL.nil (after_code ?_)
  refine X.cond rfl (fun h1 => ?_) (fun h1 => ?_)
  · try have h1 := of_decide_eq_true h1
    refine LW.seq ?_
    refine LW.region ?_
    refine X.u (LU.call (lives4_calls) Try.func19 rfl rfl Opds.nil) rfl ?_
    refine X.act (X.store 0 rfl Try.sizeOf4 Is.rfl' Is.rfl' (by exact Cells.raw rfl) (by (simp; done)) (by (simp; done)) ?_)
    refine LL.nil (after_code ?_)
    refine LW.ret (ret_code (after_end ?_))
    refine X.eghost (H' := .cells b2 4 [bl true] :: Rf) (HSub.refl _) ?_
    refine X.ret (H' := []) (by exact Res.cell1 0 rfl rfl ⟨Try.sizeOf4, Try.isAgg4⟩ (Part.one rfl) (by exact IsR rfl)) (by repeat (first | exact HSub.refl _ | refine HSub.drop ?_)) ?_
    exact rfl
  · try have h1 := of_decide_eq_false h1
    have hb : b.length < 1099511627776 := by omega
    have hcall := unfr_calls b .unk hb
    have rcall := runfr_calls b .unk hb
    rw [← hu] at hcall rcall
    obtain ⟨fs, hfs⟩ : ∃ fs, fs = frs 0 b := ⟨_, rfl⟩
    have hall := rall_calls b .unk hb
    have hfirst : ∀ y, fs[0]? = some y → y.1 = 0 := fun y hy => frs_first (hfs ▸ hy)
    have hnext : ∀ k y z, fs[k]? = some y → fs[k + 1]? = some z → z.1 = y.1 + (y.2.length + 12) := fun k y z g1 g2 => frs_next k 0 b y z (hfs ▸ g1) (hfs ▸ g2)
    have hget : ∀ (k : Nat) (y : Nat × List UInt8), fs[k]? = some y → y.1 + y.2.length + 12 ≤ b.length := fun k y h => by have := (frs_get b.length 0 b k y (Nat.le_refl _) (hfs ▸ h)).2.1; omega
    have hiter : ∀ g, LIterW Try.prog 43 #[ptr g] fs Jfr [.cells g 22 [Bytes b .unk]] [.cells g 22 [Bytes b .unk]] := fun g => hfs ▸ all_iter b hb g
    have hfl : ∀ k, k ≤ fs.length → k ≤ b.length := fun k hk => frs_len b k (by rw [← hfs]; exact hk)
    rw [← hfs] at hall
    refine LW.skip (after_code ?_)
    refine LW.seq ?_
    refine LW.region ?_
    refine X.u (LU.lits Try.underlying22 Try.sizeOf5 Try.zeroValue5 (ones rfl) rfl (by decide) (by decide) Elems.nil (by intro e he; cases he) rfl) rfl ?_
    refine X.u (LU.moveS Is.rfl') rfl ?_
    refine X.u (LU.weak (LU.append Try.underlying22 (El.of (P := Try.prog) (z := (.int .u8 0)) (size := 1) (bytes := 1) rfl rfl rfl) Is.rfl' Is.rfl' (SrcL.slice Try.underlying22 (by decide) (by exact byteEls_size _)) (by simp only [Option.getD_some, Option.getD_none, byteEls_length, intEls_length, List.length_append, List.length_cons, List.length_nil, List.length_map, List.length_drop, List.length_take, Int.toNat_natCast]; omega) (by simp only [Option.getD_some, Option.getD_none, byteEls_length, intEls_length, List.length_append, List.length_cons, List.length_nil, List.length_map, List.length_drop, List.length_take, Int.toNat_natCast]; omega)) (Is.of (y := Bytes b .unk) (rfl))) rfl ?_
    refine X.u (LU.assignS Is.rfl') rfl ?_
    refine LL.nil (after_code ?_)
    refine LW.seq ?_
    refine LW.region ?_
    refine X.u (LU.moveS Is.rfl') rfl ?_
    refine X.u (LU.call (hcall) Try.func24 rfl rfl (Opds.cons Is.rfl' Opds.nil)) rfl ?_
    refine X.u (LU.moveT Is.rfl') rfl ?_
    refine X.u (LU.extract Is.rfl' rfl) rfl ?_
    refine X.u (LU.extract Is.rfl' rfl) rfl ?_
    refine X.u (LU.extract Is.rfl' rfl) rfl ?_
    refine X.u (LU.assignS Is.rfl') rfl ?_
    refine X.u (LU.assignR Is.rfl') rfl ?_
    refine X.u (LU.assignR Is.rfl') rfl ?_
    refine LL.nil (after_code ?_)
    refine LW.seq ?_
    refine LW.region ?_
    refine X.u (LU.moveS Is.rfl') rfl ?_
    refine X.u (LU.call (rcall) Try.func29 rfl rfl (Opds.cons Is.rfl' Opds.nil)) rfl ?_
    refine X.u (LU.moveT Is.rfl') rfl ?_
    refine X.u (LU.extract Is.rfl' rfl) rfl ?_
    refine X.u (LU.extract Is.rfl' rfl) rfl ?_
    refine X.u (LU.extract Is.rfl' rfl) rfl ?_
    refine X.u (LU.assignS Is.rfl') rfl ?_
    refine X.u (LU.assignR Is.rfl') rfl ?_
    refine X.u (LU.assignR Is.rfl') rfl ?_
    refine LL.nil (after_code ?_)
    refine LW.seq ?_
    refine LW.seq ?_
    refine LW.region ?_
    refine X.u (LU.moveS Is.rfl') rfl ?_
    refine X.u (LU.tostr Try.underlying22 Try.underlying5 Try.underlying9 Is.rfl') rfl ?_
    refine X.u (LU.moveS Is.rfl') rfl ?_
    refine X.u (LU.tostr Try.underlying22 Try.underlying5 Try.underlying9 Is.rfl') rfl ?_
    refine X.u (LU.weak (LU.strneN Is.rfl' Is.rfl') (asB (c := false) rfl (by simp))) rfl ?_
    refine X.u (LU.moveR Is.rfl') rfl ?_
    refine X.doF rfl rfl (LU.moveR (by exact Is.rfl')) rfl ?_
    refine X.doF rfl rfl (LU.moveR (by exact Is.rfl')) rfl ?_
    refine X.doF rfl rfl (LU.weak (LU.neq (by exact Is.rfl') (by exact Is.rfl')) (asB (c := false) rfl (by simp))) rfl ?_
    refine X.u (LU.pickF Is.rfl' (by exact Is.rfl')) rfl ?_
    refine X.u (LU.moveR Is.rfl') rfl ?_
    refine X.doF rfl rfl (LU.moveR (by exact Is.rfl')) rfl ?_
    refine X.doF rfl rfl (LU.moveR (by exact Is.rfl')) rfl ?_
    refine X.doF rfl rfl (LU.weak (LU.neq (by exact Is.rfl') (by exact Is.rfl')) (asB (c := false) rfl (by simp))) rfl ?_
    refine X.u (LU.pickF Is.rfl' (by exact Is.rfl')) rfl ?_
    refine LL.nil (after_code ?_)
    refine X.condF rfl ?_ ?_
    · rfl
    refine LW.skip (after_code ?_)
    refine LW.seq ?_
    refine LW.region ?_
    refine X.u (LU.moveS Is.rfl') rfl ?_
    refine X.u (LU.call (hall) Try.func30 rfl rfl (Opds.cons Is.rfl' Opds.nil)) rfl ?_
    refine X.act (X.alloc rfl Try.zeroValue52 (by exact Cells.raw rfl) (fun b10 => ?_))
    refine X.act (X.store 0 rfl Try.sizeOf52 Is.rfl' Is.rfl' (by exact Cells.sl) (by (simp; done)) (by (simp; done)) ?_)
    refine LL.nil (after_code ?_)
    refine LW.seq ?_
    refine X.wcells (ys := [.sl 1 (bRow (datas fs)) .unk]) (putAt_all (by simp [raws])) ?_
    refine LW.region ?_
    refine X.u (LU.moveS Is.rfl') rfl ?_
    refine X.act (X.call (all_calls b .unk hb) Try.func31 rfl rfl rfl (HSub.refl _) (Opds.cons Is.rfl' Opds.nil) ?_)
    rintro r H' ⟨gg, rfl, rfl⟩
    refine X.u (LU.assignR Is.rfl') rfl ?_
    refine LL.nil (after_code ?_)
    refine LW.seq ?_
    refine LW.seq ?_
    refine LW.region ?_
    refine X.u (LU.moveR Is.rfl') rfl ?_
    refine X.u (LU.nilFEqS Try.underlying55 Is.rfl' Is.rfl') rfl ?_
    refine LL.nil (after_code ?_)
    refine X.condF rfl ?_ ?_
    · rfl
    refine LW.skip (after_code ?_)
    refine LW.seq ?_
    refine LW.region ?_
    refine X.act (X.alloc rfl Try.zeroValue3 (by exact Cells.raw rfl) (fun b12 => ?_))
    refine X.act (X.alloc rfl Try.zeroValue3 (by exact Cells.raw rfl) (fun b13 => ?_))
    refine X.act (X.store 1 rfl Try.sizeOf3 Is.rfl' Is.rfl' (by exact Cells.raw rfl) (by (simp; done)) (by (simp; done)) ?_)
    refine X.act (X.store 1 rfl Try.sizeOf3 Is.rfl' Is.rfl' (by exact Cells.raw rfl) (by (simp; done)) (by (simp; done)) ?_)
    refine LL.nil (after_code ?_)
    refine LW.seq ?_
    refine LW.seq ?_
    refine LW.region ?_
    refine X.u (LU.moveR Is.rfl') rfl ?_
    refine LL.nil (after_code ?_)
    refine LW.block ?_
    refine X.rangeW (items := fs) (J := Jfr) Is.rfl' Try.func43 rfl rfl (hiter gg) rfl (by intro y _ x Hx hJ; obtain ⟨_, _, _, _, rfl, _⟩ := hJ; rfl) (α := Nat × Nat) (β := Unit) (fun ⟨i, a⟩ => .cells b12 3 [i64 (i : Nat)] :: .cells b13 3 [i64 (a : Nat)] :: .cells b10 52 [.sl 1 (bRow (datas fs)) .unk] :: [.cells b2 4 [bl false]]) (fun u => []) (fun k ⟨i, a⟩ => i = k ∧ k ≤ fs.length ∧ ∀ y, fs[k]? = some y → y.1 = a) (fun c u => False) ((0, 0)) ?_ (by (refine HSub.pick 2 rfl ?_); (refine HSub.pick 1 rfl ?_); (refine HSub.pick 0 rfl ?_); (refine HSub.pick 0 rfl ?_); (refine HSub.pick 0 rfl ?_); exact HSub.refl _) ?_ ?_ ?_
    · exact ⟨rfl, Nat.zero_le _, hfirst⟩
    · rintro k ⟨i, a⟩ y x Hx hx hJ hI R1
      obtain ⟨hik, hkl, hya⟩ := hI
      obtain ⟨bb, cc, rest, hcc, rfl, rfl⟩ := hJ
      subst hik
      have hya' := hya y hx
      have hyl := hget i y hx
      have hil := (List.getElem?_eq_some_iff.1 hx).1
      have hib := hfl i (by omega)
      have hdx : (datas fs)[i]? = some y.2 := by rw [List.getElem?_map, hx]; rfl
      have hdl : (datas fs).length = fs.length := by simp
      refine LW.seq ?_
      refine LW.region ?_
      refine X.u (LU.assignR Is.rfl') rfl ?_
      refine LL.nil (after_code ?_)
      refine LW.region ?_
      refine X.u (LU.assignR Is.rfl') rfl ?_
      refine LL.nil (after_end ?_)
      refine ⟨rfl, [.cells bb 5 (u8s y.2 ++ raws rest), .cells b12 3 [i64 (i : Nat)], .cells b13 3 [i64 (a : Nat)], .cells b10 52 [.sl 1 (bRow (datas fs)) .unk], .cells b2 4 [bl false]], _, rfl, fun R2 => ?_⟩
      refine LW.block ?_
      refine LW.seq ?_
      refine LW.seq ?_
      refine X.drawM 19 rfl (by kernel_rfl) rfl ?_
      refine QD.u (LU.loadO 1 rfl ⟨Try.sizeOf3, Try.isAgg3⟩ Is.rfl' (Part.one rfl)) rfl ?_
      refine QD.u (LU.loadO 3 rfl ⟨Try.sizeOf52, Try.isAgg52⟩ Is.rfl' (Part.one rfl)) rfl ?_
      refine QD.u (LU.lenN Try.underlying52 Is.rfl' (by (simp only [Option.getD_some, Option.getD_none, byteEls_length, intEls_length, List.length_append, List.length_cons, List.length_nil, List.length_map, List.length_drop, List.length_take, Int.toNat_natCast]; rfl))) rfl ?_
      refine QD.u (LU.weak (LU.geq Is.rfl' Is.rfl') (asB (c := false) rfl (by simp; omega))) rfl ?_
      refine QD.u (LU.moveR Is.rfl') rfl ?_
      refine QD.doF rfl rfl (LU.moveR (by exact Is.rfl')) rfl ?_
      refine QD.doF rfl rfl (LU.loadO 2 rfl ⟨Try.sizeOf3, Try.isAgg3⟩ (by exact Is.rfl') (Part.one rfl)) rfl ?_
      refine QD.doF rfl rfl (LU.weak (LU.neq (by exact Is.rfl') (by exact Is.rfl')) (asB (c := false) rfl (by rw [hya']; simp))) rfl ?_
      refine QD.u (LU.pickF Is.rfl' (by exact Is.rfl')) rfl ?_
      refine QD.u (LU.moveR Is.rfl') rfl ?_
      refine QD.doF rfl rfl (LU.moveR (by exact Is.rfl')) rfl ?_
      refine QD.doF rfl rfl (LU.tostrL Try.underlying22 Try.underlying5 Try.underlying9 (IsL.bytes (l := y.2) 0 rfl Is.rfl' rfl hcc)) rfl ?_
      refine QD.doF rfl rfl (LU.loadO 3 rfl ⟨Try.sizeOf52, Try.isAgg52⟩ (by exact Is.rfl') (Part.one rfl)) rfl ?_
      refine QD.doF rfl rfl (LU.loadO 1 rfl ⟨Try.sizeOf3, Try.isAgg3⟩ (by exact Is.rfl') (Part.one rfl)) rfl ?_
      refine QD.doF rfl rfl (LU.at Try.underlying52 ⟨Try.sizeOf22, Try.isAgg22⟩ (by exact Is.rfl') (by exact Is.rfl') (by omega) (bRow_at hdx) (by simp)) rfl ?_
      refine QD.doF rfl rfl (LU.load ⟨Try.sizeOf22, Try.isAgg22⟩ (by exact Is.rfl') (by (simp; done)) (Part.one rfl)) rfl ?_
      refine QD.doF rfl rfl (LU.tostr Try.underlying22 Try.underlying5 Try.underlying9 (by exact Is.rfl')) rfl ?_
      refine QD.doF rfl rfl (LU.weak (LU.strneN (by exact Is.rfl') (by exact Is.rfl')) (asB (c := false) rfl (by simp))) rfl ?_
      refine QD.u (LU.pickF Is.rfl' (by exact Is.rfl')) rfl ?_
      refine QD.nil ?_
      refine LL.nil (after_code ?_)
      refine X.condF rfl ?_ ?_
      · rfl
      refine LW.skip (after_code ?_)
      refine LW.seq ?_
      refine LW.region ?_
      refine X.u (LU.loadO 2 rfl ⟨Try.sizeOf3, Try.isAgg3⟩ Is.rfl' (Part.one rfl)) rfl ?_
      refine X.u (LU.moveR Is.rfl') rfl ?_
      refine X.u (LU.lenO Try.underlying22 Is.rfl') rfl ?_
      refine X.u (LU.weak (LU.addN Is.rfl' Is.rfl' (wrap_i64 (by omega) (by omega))) (Is.of (y := i64 ((y.2.length + 12 : Nat) : Int)) (rfl))) rfl ?_
      refine X.u (LU.weak (LU.addN Is.rfl' Is.rfl' (wrap_i64 (by omega) (by omega))) (Is.of (y := i64 ((a + (y.2.length + 12) : Nat) : Int)) (rfl))) rfl ?_
      refine X.act (X.store 2 rfl Try.sizeOf3 Is.rfl' Is.rfl' (by exact Cells.raw rfl) (by (simp; done)) (by (simp; done)) ?_)
      refine LL.nil (after_code ?_)
      refine LW.seq ?_
      refine LW.region ?_
      refine X.u (LU.loadO 2 rfl ⟨Try.sizeOf3, Try.isAgg3⟩ Is.rfl' (Part.one rfl)) rfl ?_
      refine X.u (LU.weak (LU.addN Is.rfl' Is.rfl' (wrap_i64 (by omega) (by omega))) (Is.of (y := i64 ((i + 1 : Nat) : Int)) (rfl))) rfl ?_
      refine X.act (X.store 2 rfl Try.sizeOf3 Is.rfl' Is.rfl' (by exact Cells.raw rfl) (by (simp; done)) (by (simp; done)) ?_)
      refine LL.nil (after_code ?_)
      refine LW.seq ?_
      refine LW.region ?_
      refine X.u (LU.moveR Is.rfl') rfl ?_
      refine X.u (LU.lenO Try.underlying22 Is.rfl') rfl ?_
      refine X.u (LU.moveR Is.rfl') rfl ?_
      refine LL.nil (after_code ?_)
      refine LW.block ?_
      refine X.loopK (α := Nat × List UInt8) (fun ⟨j, m⟩ => [(88, i64 j)]) [2, 15, 87] (fun ⟨j, m⟩ => .cells bb 5 (u8s m ++ raws rest) :: .cells b12 3 [i64 ((i + 1 : Nat) : Int)] :: .cells b13 3 [i64 ((a + (y.2.length + 12) : Nat) : Int)] :: .cells b10 52 [.sl 1 (bRow (datas fs)) .unk] :: ([.cells b2 4 [bl false]] ++ R2)) (fun ⟨j, m⟩ => j ≤ y.2.length ∧ m.length = y.2.length) (fun ⟨j, m⟩ => y.2.length - j) ((0, y.2)) (EnvLe.cons (by rfl) (EnvLe.nil)) (by repeat (first | exact HSub.refl _ | refine HSub.pick 2 rfl ?_)) ?_ ?_
      · exact ⟨Nat.zero_le _, rfl⟩
      · rintro ⟨j, m⟩ hI
        obtain ⟨hj, hm⟩ := hI
        refine LW.seq ?_
        refine LW.region ?_
        refine X.u (LU.lss Is.rfl' Is.rfl') rfl ?_
        refine LL.nil (after_code ?_)
        refine LW.seq ?_
        refine X.cond rfl (fun h21 => ?_) (fun h21 => ?_)
        · try have h21 := of_decide_eq_true h21
          refine LW.skip (after_code ?_)
          refine LW.seq ?_
          refine LW.block ?_
          refine LW.seq ?_
          refine LW.region ?_
          refine X.u (LU.moveR Is.rfl') rfl ?_
          refine X.u (LU.assignR Is.rfl') rfl ?_
          refine LL.nil (after_code ?_)
          refine LW.region ?_
          refine X.u (LU.moveR Is.rfl') rfl ?_
          refine X.u (LU.moveR Is.rfl') rfl ?_
          refine X.u (LU.atO Try.underlying22 Try.sizeOf5 Is.rfl' Is.rfl' (by omega) (by omega)) rfl ?_
          refine X.u (LU.loadO 0 rfl ⟨Try.sizeOf5, Try.isAgg5⟩ Is.rfl' (Part.one (u8s_at (by omega)))) rfl ?_
          refine X.u (LU.xor8 Is.rfl' Is.rfl') rfl ?_
          refine X.u (LU.atO Try.underlying22 Try.sizeOf5 Is.rfl' Is.rfl' (by omega) (by omega)) rfl ?_
          refine X.act (X.store 0 rfl Try.sizeOf5 Is.rfl' Is.rfl' (by exact Cells.raw rfl) (by (simp; done)) (by (simp; omega)) ?_)
          refine LL.nil (after_blk (after_code ?_))
          refine X.wcells (u8s_put (xor8_lt _ _) (by omega)) ?_
          refine LW.region ?_
          refine X.u (LU.addN Is.rfl' Is.rfl' (wrap_i64 (by omega) (by omega))) rfl ?_
          refine X.u (LU.moveR Is.rfl') rfl ?_
          refine LL.nil (after_rnd ?_)
          refine X.next ((j + 1, m.set j (UInt8.ofNat (xor8 (m.getD j 0).toNat 85)))) rfl (EnvLe.cons (by rfl) (EnvLe.nil)) (Keeps.cons (by exact Eq.trans (b := .raw _) rfl rfl) (Keeps.cons (by exact Eq.trans (b := .raw _) rfl rfl) (Keeps.cons (by exact Eq.trans (b := .raw _) rfl rfl) (Keeps.nil)))) (by repeat (exact HSub.refl _)) ?_ ?_
          · exact ⟨by omega, by simpa using hm⟩
          · (simp; omega)
        · try have h21 := of_decide_eq_false h21
          refine LW.exit (exit_code (exit_rnd (exit_blk (after_blk (after_end ?_)))))
          refine ⟨(i + 1, a + (y.2.length + 12)), ?_, (by repeat (first | exact HSub.refl _ | refine HSub.pick 1 rfl ?_ | refine HSub.drop ?_))⟩
          exact ⟨rfl, by omega, fun z hz => by rw [hnext i y z hx hz, hya']⟩
    · rintro D ⟨i, a⟩ hI
      obtain ⟨hik, hkl, hya⟩ := hI
      refine after_blk (after_code ?_)
      refine LW.seq ?_
      refine LW.region ?_
      refine X.u (LU.loadO 1 rfl ⟨Try.sizeOf3, Try.isAgg3⟩ Is.rfl' (Part.one rfl)) rfl ?_
      refine X.u (LU.loadO 3 rfl ⟨Try.sizeOf52, Try.isAgg52⟩ Is.rfl' (Part.one rfl)) rfl ?_
      refine X.u (LU.lenN Try.underlying52 Is.rfl' (by (simp only [Option.getD_some, Option.getD_none, byteEls_length, intEls_length, List.length_append, List.length_cons, List.length_nil, List.length_map, List.length_drop, List.length_take, Int.toNat_natCast]; rfl))) rfl ?_
      refine X.u (LU.weak (LU.eql Is.rfl' Is.rfl') (asB (c := true) rfl (by rw [hik]; simp))) rfl ?_
      refine X.u (LU.moveR Is.rfl') rfl ?_
      refine X.doT rfl rfl (LU.moveS (by exact Is.rfl')) rfl ?_
      refine X.doT rfl rfl (LU.tostr Try.underlying22 Try.underlying5 Try.underlying9 (by exact Is.rfl')) rfl ?_
      refine X.doT rfl rfl (LU.moveS (by exact Is.rfl')) rfl ?_
      refine X.doT rfl rfl (LU.tostr Try.underlying22 Try.underlying5 Try.underlying9 (by exact Is.rfl')) rfl ?_
      refine X.doT rfl rfl (LU.weak (LU.streqN (by exact Is.rfl') (by exact Is.rfl')) (asB (c := true) rfl (by simp))) rfl ?_
      refine X.u (LU.pickT Is.rfl' (by exact Is.rfl')) rfl ?_
      refine X.u (LU.moveR Is.rfl') rfl ?_
      refine X.doT rfl rfl (LU.call (lives4_calls) Try.func19 rfl rfl Opds.nil) rfl ?_
      refine X.u (LU.pickT Is.rfl' (by exact Is.rfl')) rfl ?_
      refine X.act (X.store 4 rfl Try.sizeOf4 Is.rfl' Is.rfl' (by exact Cells.raw rfl) (by (simp; done)) (by (simp; done)) ?_)
      refine LL.nil (after_code ?_)
      refine LW.ret (after_end ?_)
      refine X.retM (H' := [.cells b2 4 [bl true]]) 5 rfl (by exact Res.cell1 0 rfl rfl ⟨Try.sizeOf4, Try.isAgg4⟩ (Part.one rfl) (by exact IsR rfl)) (by repeat (first | exact HSub.refl _ | refine HSub.pick 0 rfl ?_ | refine HSub.drop ?_)) ?_
      exact rfl
    · rintro D c u h; exact h.elim
theorem FrameReads_row (x0 : List (List LV)) (h0 : ∀ c ∈ x0, QInt .u8 c) (h1 : x0.length * 1 ≤ reachBytes) : LCalls Try.prog 9 [.sl 1 x0 .unk] [] (fun r _ => r = .raw (.bool true)) := by
  obtain ⟨b, rfl⟩ := decode_bytes h0
  rw [byteEls_length] at h1
  have hr : reachBytes < 140737488355328 := by decide
  exact fr_calls b (by omega)
end Go.Proofs.Ytahecnlglcfddaa
