/- Of frames one behind the other, cut off anywhere, just those that are whole are told. -/
import Derived.Test.YtahecnlglcfddaaFrD
set_option linter.unusedVariables false
set_option linter.unusedSimpArgs false
namespace Go.Proofs.Ytahecnlglcfddaa
open Go.RowKit Go.L
attribute [local irreducible] LL LW LO LP LA
def cat (l : List (List UInt8)) : List UInt8 := (l.map frm).flatten
theorem cat_cons (x : List UInt8) (l : List (List UInt8)) : cat (x :: l) = frm x ++ cat l := rfl
theorem cat_snoc (l : List (List UInt8)) (x : List UInt8) : cat (l ++ [x]) = cat l ++ frm x := by simp [cat]
theorem unfr_frm (x r : List UInt8) (hx : x.length ≤ 65536) : unfr (frm x ++ r) = (x, x.length + 12, 0) := by
  obtain ⟨n, hn⟩ : ∃ n, n = x.length := ⟨_, rfl⟩
  obtain ⟨s1, hs1⟩ : ∃ s1, s1 = crc (be4 n) := ⟨_, rfl⟩
  obtain ⟨s2, hs2⟩ : ∃ s2, s2 = crc x := ⟨_, rfl⟩
  have hl1 : s1 < 4294967296 := hs1 ▸ crc_lt _
  have hl2 : s2 < 4294967296 := hs2 ▸ crc_lt _
  have hf : frm x ++ r = be4 n ++ (be4 s1 ++ (x ++ (be4 s2 ++ r))) := by rw [hs1, hs2, hn]; simp [frm]
  rw [hf]
  have e1 : num4 (be4 n ++ (be4 s1 ++ (x ++ (be4 s2 ++ r)))) = n := num4_be4 (by omega) _
  have e2 : (be4 n ++ (be4 s1 ++ (x ++ (be4 s2 ++ r)))).drop 4 = be4 s1 ++ (x ++ (be4 s2 ++ r)) := rfl
  have e3 : (be4 n ++ (be4 s1 ++ (x ++ (be4 s2 ++ r)))).take 4 = be4 n := rfl
  have e4 : (be4 n ++ (be4 s1 ++ (x ++ (be4 s2 ++ r)))).drop 8 = x ++ (be4 s2 ++ r) := rfl
  have e5 : (be4 n ++ (be4 s1 ++ (x ++ (be4 s2 ++ r)))).drop (8 + n) = be4 s2 ++ r := by
    rw [← List.drop_drop, e4, hn, List.drop_left]
  have e6 : (x ++ (be4 s2 ++ r)).take n = x := by rw [hn, List.take_left]
  have e7 : (be4 n ++ (be4 s1 ++ (x ++ (be4 s2 ++ r)))).length = n + 12 + r.length := by simp [be4_len, hn]; omega
  have c1 := num4_be4 hl1 (x ++ (be4 s2 ++ r))
  have c2 := num4_be4 hl2 r
  unfold unfr
  rw [e1, e2, e3, e4, e5, e6, e7, c1, c2, ← hs1, ← hs2]
  rw [if_neg (by omega), if_neg (by simp), if_neg (by omega), if_neg (by omega), if_neg (by simp), hn]
theorem unfr_cut (x : List UInt8) (m : Nat) (hx : x.length ≤ 65536) (hm : m < x.length + 12) : (unfr ((frm x).take m)).2.2 ≠ 0 := by
  obtain ⟨n, hn⟩ : ∃ n, n = x.length := ⟨_, rfl⟩
  obtain ⟨s1, hs1⟩ : ∃ s1, s1 = crc (be4 n) := ⟨_, rfl⟩
  obtain ⟨s2, hs2⟩ : ∃ s2, s2 = crc x := ⟨_, rfl⟩
  have hl1 : s1 < 4294967296 := hs1 ▸ crc_lt _
  have hml : ((frm x).take m).length = m := by rw [List.length_take, frm_len]; omega
  by_cases h8 : m < 8
  · unfold unfr
    rw [if_pos (by omega)]
    simp
  · have hf : (frm x).take m = be4 n ++ (be4 s1 ++ (x ++ be4 s2).take (m - 8)) := by
      have : frm x = (be4 n ++ be4 s1) ++ (x ++ be4 s2) := by rw [hs1, hs2, hn]; simp [frm]
      rw [this, List.take_append, List.take_of_length_le (by simp [be4_len]; omega), List.append_assoc]
      simp [be4_len]
    rw [hf] at hml ⊢
    have e1 : num4 (be4 n ++ (be4 s1 ++ (x ++ be4 s2).take (m - 8))) = n := num4_be4 (by omega) _
    have e2 : (be4 n ++ (be4 s1 ++ (x ++ be4 s2).take (m - 8))).drop 4 = be4 s1 ++ (x ++ be4 s2).take (m - 8) := rfl
    have e3 : (be4 n ++ (be4 s1 ++ (x ++ be4 s2).take (m - 8))).take 4 = be4 n := rfl
    have c1 := num4_be4 hl1 ((x ++ be4 s2).take (m - 8))
    unfold unfr
    rw [e1, e2, e3, hml, c1, ← hs1]
    rw [if_neg (by omega), if_neg (by simp), if_neg (by omega), if_pos (by omega)]
    simp
theorem unfr_nil : (unfr []).2.2 ≠ 0 := by decide
theorem whole : ∀ (l : List (List UInt8)) (a n : Nat), (∀ x ∈ l, x.length ≤ 65536) → n ≤ (cat l).length →
    ∃ m, m ≤ l.length ∧ datas (frs a ((cat l).take n)) = l.take m ∧ (∀ j, j < m → (cat (l.take (j + 1))).length ≤ n) ∧ (m = l.length ∨ n < (cat (l.take (m + 1))).length)
  | [], a, n, _, _ => ⟨0, by simp, by rw [show (cat []).take n = [] by simp [cat], frs_bad unfr_nil]; rfl, fun j h => by omega, .inl rfl⟩
  | x :: l, a, n, hx, hn => by
    have hx0 := hx x (by simp)
    have hfl := frm_len x
    rw [cat_cons, List.length_append] at hn
    by_cases hc : x.length + 12 ≤ n
    · obtain ⟨m, h1, h2, h3, h4⟩ := whole l (a + (x.length + 12)) (n - (x.length + 12)) (fun y hy => hx y (by simp [hy])) (by omega)
      have e : (cat (x :: l)).take n = frm x ++ (cat l).take (n - (x.length + 12)) := by
        rw [cat_cons, List.take_append, List.take_of_length_le (by omega), hfl]
      have hu := unfr_frm x ((cat l).take (n - (x.length + 12))) hx0
      refine ⟨m + 1, by simpa using h1, ?_, fun j hj => ?_, ?_⟩
      · rw [e, frs_ok (by rw [hu]), hu]
        simp only [List.map_cons, List.take_succ_cons]
        rw [show (frm x ++ (cat l).take (n - (x.length + 12))).drop (x.length + 12) = (cat l).take (n - (x.length + 12)) by rw [← hfl, List.drop_left]]
        rw [← h2]
      · rw [List.take_succ_cons, cat_cons, List.length_append]
        cases j with
        | zero => simp [cat]; omega
        | succ j => have := h3 j (by omega); omega
      · rcases h4 with h4 | h4
        · exact .inl (by simp [h4])
        · refine .inr ?_
          rw [List.take_succ_cons, cat_cons, List.length_append]
          omega
    · have e : (cat (x :: l)).take n = (frm x).take n := by
        rw [cat_cons, List.take_append_of_le_length (by omega)]
      refine ⟨0, Nat.zero_le _, ?_, fun j h => by omega, .inr ?_⟩
      · rw [e, frs_bad (unfr_cut x n hx0 (by omega))]; rfl
      · simp [cat]; omega
def ends (l : List (List UInt8)) (i : Nat) : List Int := (List.range i).map fun j => ((cat (l.take (j + 1))).length : Int)
theorem ends_len (l : List (List UInt8)) (i : Nat) : (ends l i).length = i := by simp [ends]
theorem ends_snoc {l : List (List UInt8)} {i : Nat} {x : List UInt8} {k : Cap} (h : l[i]? = some x) : LV.sl 1 (intEls (ends l i) ++ [[.raw (.int .i64 ((cat (l.take i) ++ frm x).length : Nat))]]) k = Ints (ends l (i + 1)) k := by
  have e : l.take (i + 1) = l.take i ++ [x] := by
    obtain ⟨h1, h2⟩ := List.getElem?_eq_some_iff.1 h
    rw [List.take_succ_eq_append_getElem h1, h2]
  have : ends l (i + 1) = ends l i ++ [((cat (l.take i) ++ frm x).length : Int)] := by
    unfold ends
    rw [List.range_succ, List.map_append, List.map_singleton, e, cat_snoc]
  rw [this]
  show LV.sl 1 (intEls (ends l i) ++ _) k = LV.sl 1 (intEls (ends l i ++ [_])) k
  rw [intEls_append]; rfl
theorem ends_at {l : List (List UInt8)} {i k : Nat} (h : k < i) : (intEls (ends l i))[((k : Nat) : Int).toNat]? = some [i64 ((cat (l.take (k + 1))).length : Nat)] := by
  rw [intEls_atN (by rw [ends_len]; exact h)]
  simp [ends]
theorem cat_step {l : List (List UInt8)} {i : Nat} {x : List UInt8} (h : l[i]? = some x) : cat (l.take i) ++ frm x = cat (l.take (i + 1)) := by
  obtain ⟨h1, h2⟩ := List.getElem?_eq_some_iff.1 h
  rw [List.take_succ_eq_append_getElem h1, h2, cat_snoc]
theorem turn_k (t : Int) (n : Nat) (h : 0 < n) : ∃ k : Nat, (IntKind.u64.wrap t).tmod (n : Int) = k ∧ k < n := by
  have h0 : 0 ≤ IntKind.u64.wrap t := by
    show (0 : Int) ≤ t % 18446744073709551616
    omega
  obtain ⟨m, hm⟩ := Int.eq_ofNat_of_zero_le h0
  refine ⟨m % n, ?_, Nat.mod_lt _ h⟩
  rw [hm, Int.ofNat_tmod]
set_option maxHeartbeats 2000000 in
set_option maxRecDepth 100000 in
theorem fb_calls (l : List (List UInt8)) (cut : Int) (hl0 : l.length < 140737488355328) (hxl : ∀ x ∈ l, x.length < 140737488355328) : LCalls Try.prog 10 [.sl 1 (bRow l) .unk, i64 cut] [] (fun r _ => r = .raw (.bool true)) := by
  refine LCalls.of Try.func10 rfl Try.ntmps10 Try.results10 rfl (fun Rf => ?_)
  refine LW.seq ?_
  refine LW.region ?_
  refine X.act (X.box rfl Is.rfl' (by exact Cells.sl) (fun b2 => ?_))
  refine X.act (X.alloc rfl Try.zeroValue4 (by exact Cells.raw rfl) (fun b4 => ?_))
  refine LL.nil (after_code ?_)
  refine LW.seq ?_
  refine LW.region ?_
  refine X.u (LU.assign (Is.nil 1)) rfl ?_
  refine LL.nil (after_code ?_)
  refine LW.seq ?_
  refine LW.region ?_
  refine X.act (X.alloc rfl Try.zeroValue57 (by exact Cells.raw rfl) (fun b6 => ?_))
  refine LL.nil (after_code ?_)
  refine X.meetK (α := Nat × Nat × Nat × Nat × Nat × Nat × Nat) (fun ⟨i, tb, to, tc, eb, eo, ec⟩ => [(5, Bytes (cat (l.take i)) (.tok tb to tc))]) [1, 2, 4, 6] (fun ⟨i, tb, to, tc, eb, eo, ec⟩ => .tail tb to tc :: .tail eb eo ec :: .cells b6 57 [Ints (ends l i) (.tok eb eo ec)] :: .cells b4 4 [bl false] :: .cells b2 52 [.sl 1 (bRow l) .unk] :: Rf) (fun ⟨i, tb, to, tc, eb, eo, ec⟩ => i ≤ l.length ∧ (cat (l.take i)).length ≤ 20012 ∧ i ≤ 51 ∧ ∀ x ∈ l.take i, x.length ≤ 65536) ?_ ?_
  · refine LW.seq ?_
    refine LW.region ?_
    refine X.u (LU.loadO 2 rfl ⟨Try.sizeOf52, Try.isAgg52⟩ Is.rfl' (Part.one rfl)) rfl ?_
    refine X.u (LU.lenN Try.underlying52 Is.rfl' (by (simp only [Option.getD_some, Option.getD_none, byteEls_length, intEls_length, List.length_append, List.length_cons, List.length_nil, List.length_map, List.length_drop, List.length_take, Int.toNat_natCast]; rfl))) rfl ?_
    refine X.u (LU.moveR Is.rfl') rfl ?_
    refine LL.nil (after_code ?_)
    refine LW.block ?_
    refine X.wghost (HSub.tail0 0 0 0 (Nat.le_refl _) _) ?_
    refine X.wghost (HSub.tail0 0 0 0 (Nat.le_refl _) _) ?_
    refine X.wweak (t := 5) (v := Bytes (cat (l.take 0)) (.tok 0 0 0)) (Is.full_tok 0 0) ?_
    refine X.wghost (H' := .tail 0 0 0 :: .tail 0 0 0 :: .cells b6 57 [Ints (ends l 0) (.tok 0 0 0)] :: .cells b4 4 [bl false] :: .cells b2 52 [.sl 1 (bRow l) .unk] :: Rf) (HSub.cons (HSub.cons (HSub.cell 0 rfl ((Is.nil 1).trans (Is.full_tok 0 0))))) ?_
    refine X.loopK (α := Nat × Nat × Nat × Nat × Nat × Nat × Nat) (fun ⟨i, tb, to, tc, eb, eo, ec⟩ => [(18, i64 i), (5, Bytes (cat (l.take i)) (.tok tb to tc))]) [1, 2, 4, 6, 16, 17] (fun ⟨i, tb, to, tc, eb, eo, ec⟩ => .tail tb to tc :: .tail eb eo ec :: .cells b6 57 [Ints (ends l i) (.tok eb eo ec)] :: .cells b4 4 [bl false] :: .cells b2 52 [.sl 1 (bRow l) .unk] :: Rf) (fun ⟨i, tb, to, tc, eb, eo, ec⟩ => i ≤ l.length ∧ (cat (l.take i)).length ≤ 20012 ∧ i ≤ 51 ∧ ∀ x ∈ l.take i, x.length ≤ 65536) (fun ⟨i, tb, to, tc, eb, eo, ec⟩ => l.length - i) ((0, 0, 0, 0, 0, 0, 0)) (EnvLe.cons (by rfl) (EnvLe.cons (by rfl) (EnvLe.nil))) (by repeat (exact HSub.refl _)) ?_ ?_
    · exact ⟨Nat.zero_le _, by simp [cat], by omega, by simp⟩
    · rintro ⟨i, tb, to, tc, eb, eo, ec⟩ hI
      obtain ⟨hi, hcl, hi51, hsm⟩ := hI
      have hel := ends_len l i
      refine LW.seq ?_
      refine LW.region ?_
      refine X.u (LU.lss Is.rfl' Is.rfl') rfl ?_
      refine LL.nil (after_code ?_)
      refine LW.seq ?_
      refine X.cond rfl (fun h4 => ?_) (fun h4 => ?_)
      · try have h4 := of_decide_eq_true h4
        refine LW.skip (after_code ?_)
        refine LW.seq ?_
        refine LW.block ?_
        refine LW.seq ?_
        obtain ⟨x, hx⟩ := at_lt (show i < l.length by omega)
        have hx47 := hxl x (List.mem_of_getElem? hx)
        refine LW.region ?_
        refine X.u (LU.at Try.underlying52 ⟨Try.sizeOf22, Try.isAgg22⟩ Is.rfl' Is.rfl' (by omega) (bRow_at hx) (by simp)) rfl ?_
        refine X.u (LU.load ⟨Try.sizeOf22, Try.isAgg22⟩ Is.rfl' (by (simp; done)) (Part.one rfl)) rfl ?_
        refine X.u (LU.assignS Is.rfl') rfl ?_
        refine LL.nil (after_code ?_)
        refine LW.seq ?_
        refine LW.seq ?_
        refine LW.region ?_
        refine X.u (LU.moveS Is.rfl') rfl ?_
        refine X.u (LU.lenN Try.underlying22 Is.rfl' (by (simp only [Option.getD_some, Option.getD_none, byteEls_length, intEls_length, List.length_append, List.length_cons, List.length_nil, List.length_map, List.length_drop, List.length_take, Int.toNat_natCast]; rfl))) rfl ?_
        refine X.u (LU.moveS Is.rfl') rfl ?_
        refine X.u (LU.lenN Try.underlying22 Is.rfl' (by (simp only [Option.getD_some, Option.getD_none, byteEls_length, intEls_length, List.length_append, List.length_cons, List.length_nil, List.length_map, List.length_drop, List.length_take, Int.toNat_natCast]; rfl))) rfl ?_
        refine X.u (LU.addN Is.rfl' Is.rfl' (wrap_i64 (by omega) (by omega))) rfl ?_
        refine X.u (LU.gtr Is.rfl' Is.rfl') rfl ?_
        refine X.u (LU.moveR Is.rfl') rfl ?_
        refine X.gF rfl rfl (fun hg => LU.loadO 2 rfl ⟨Try.sizeOf57, Try.isAgg57⟩ (by exact Is.rfl') (Part.one rfl)) rfl ?_
        refine X.gF rfl rfl (fun hg => LU.lenN Try.underlying57 (by exact Is.whenN hg) (by (simp only [Option.getD_some, Option.getD_none, byteEls_length, intEls_length, List.length_append, List.length_cons, List.length_nil, List.length_map, List.length_drop, List.length_take, Int.toNat_natCast]; rfl))) rfl ?_
        refine X.gF rfl rfl (fun hg => LU.gtr (by exact Is.whenN hg) (by exact Is.rfl')) rfl ?_
        refine X.u (LU.pickOr Is.rfl' Is.rfl' (fun hq => (by exact Is.whenN hq))) rfl ?_
        refine LL.nil (after_code ?_)
        refine X.cond rfl (fun h6 => ?_) (fun h6 => ?_)
        · try have h6 := of_decide_eq_true h6
          refine LW.exit (exit_code (exit_blk' rfl (exit_code (exit_rnd (exit_blk (after_rnd ?_))))))
          refine X.meets ((i, tb, to, tc, eb, eo, ec)) rfl (EnvLe.cons (by rfl) (EnvLe.nil)) (Keeps.cons (by exact Eq.trans (b := .raw _) rfl rfl) (Keeps.cons (by exact Eq.trans (b := .raw _) rfl rfl) (Keeps.cons (by exact Eq.trans (b := .raw _) rfl rfl) (Keeps.cons (by exact Eq.trans (b := .raw _) rfl rfl) (Keeps.nil))))) (by repeat (exact HSub.refl _)) ?_
          exact ⟨hi, hcl, hi51, hsm⟩
        · simp only [Bool.or_eq_false_iff, decide_eq_false_iff_not] at h6
          obtain ⟨h6a, h6b⟩ := h6
          have hx2 : x.length ≤ 20000 := by omega
          have hi50 : i ≤ 50 := by omega
          have hfx := frame_calls x .unk (by omega)
          rw [if_neg (by omega), if_neg (by omega)] at hfx
          have hfl := frm_len x
          refine LW.skip (after_code ?_)
          refine LW.seq ?_
          refine LW.region ?_
          refine X.u (LU.moveS Is.rfl') rfl ?_
          refine X.u (LU.call (hfx) Try.func22 rfl rfl (Opds.cons Is.rfl' Opds.nil)) rfl ?_
          refine X.u (LU.moveT Is.rfl') rfl ?_
          refine X.u (LU.extract Is.rfl' rfl) rfl ?_
          refine X.u (LU.extract Is.rfl' rfl) rfl ?_
          refine X.u (LU.assignS Is.rfl') rfl ?_
          refine X.u (LU.assignR Is.rfl') rfl ?_
          refine LL.nil (after_code ?_)
          refine LW.seq ?_
          refine LW.seq ?_
          refine LW.region ?_
          refine X.u (LU.moveR Is.rfl') rfl ?_
          refine X.u (LU.weak (LU.neq Is.rfl' Is.rfl') (asB (c := false) rfl (by simp))) rfl ?_
          refine X.u (LU.moveR Is.rfl') rfl ?_
          refine X.doF rfl rfl (LU.moveS (by exact Is.rfl')) rfl ?_
          refine X.doF rfl rfl (LU.lenN Try.underlying22 (by exact Is.rfl') (by (simp only [Option.getD_some, Option.getD_none, byteEls_length, intEls_length, List.length_append, List.length_cons, List.length_nil, List.length_map, List.length_drop, List.length_take, Int.toNat_natCast]; rfl))) rfl ?_
          refine X.doF rfl rfl (LU.moveS (by exact Is.rfl')) rfl ?_
          refine X.doF rfl rfl (LU.lenN Try.underlying22 (by exact Is.rfl') (by (simp only [Option.getD_some, Option.getD_none, byteEls_length, intEls_length, List.length_append, List.length_cons, List.length_nil, List.length_map, List.length_drop, List.length_take, Int.toNat_natCast]; rfl))) rfl ?_
          refine X.doF rfl rfl (LU.addN (by exact Is.rfl') (by exact Is.rfl') (wrap_i64 (by omega) (by omega))) rfl ?_
          refine X.doF rfl rfl (LU.weak (LU.neq (by exact Is.rfl') (by exact Is.rfl')) (asB (c := false) rfl (by simp [hfl]))) rfl ?_
          refine X.u (LU.pickF Is.rfl' (by exact Is.rfl')) rfl ?_
          refine LL.nil (after_code ?_)
          refine X.condF rfl ?_ ?_
          · rfl
          refine LW.skip (after_code ?_)
          refine LW.seq ?_
          refine LW.region ?_
          refine X.u (LU.moveS Is.rfl') rfl ?_
          refine X.u (LU.moveS Is.rfl') rfl ?_
          refine X.act (X.append 0 rfl rfl Try.underlying22 (El.of (P := Try.prog) (z := (.int .u8 0)) (size := 1) (bytes := 1) rfl rfl rfl) Is.rfl' Is.rfl' (SrcL.slice Try.underlying22 (by decide) (by exact byteEls_size _)) (by simp only [Option.getD_some, Option.getD_none, byteEls_length, intEls_length, List.length_append, List.length_cons, List.length_nil, List.length_map, List.length_drop, List.length_take, Int.toNat_natCast]; omega) (by simp only [Option.getD_some, Option.getD_none, byteEls_length, intEls_length, List.length_append, List.length_cons, List.length_nil, List.length_map, List.length_drop, List.length_take, Int.toNat_natCast]; omega) (fun b50 o50 c50 => X.weak (t := 50) (Is.of (y := Bytes (cat (l.take (i + 1))) (.tok b50 o50 c50)) (congrArg (fun z => LV.sl 1 z (.tok b50 o50 c50)) ((byteEls_append _ _).symm.trans (congrArg byteEls (cat_step hx))))) ?_))
          refine X.u (LU.assignS Is.rfl') rfl ?_
          refine LL.nil (after_code ?_)
          refine LW.region ?_
          refine X.u (LU.loadO 2 rfl ⟨Try.sizeOf57, Try.isAgg57⟩ Is.rfl' (Part.one rfl)) rfl ?_
          refine X.u (LU.moveS Is.rfl') rfl ?_
          refine X.u (LU.weak (LU.lenN Try.underlying22 Is.rfl' (by (simp only [Option.getD_some, Option.getD_none, byteEls_length, intEls_length, List.length_append, List.length_cons, List.length_nil, List.length_map, List.length_drop, List.length_take, Int.toNat_natCast]; rfl))) (Is.of (y := i64 ((cat (l.take i) ++ frm x).length : Nat)) (by exact congrArg (fun z => i64 ((List.length z : Nat) : Int)) (cat_step hx).symm))) rfl ?_
          refine X.u (LU.lits Try.underlying57 Try.sizeOf3 Try.zeroValue3 (ones rfl) rfl (by decide) (by decide) (Elems.cons Is.rfl' (by exact Cells.raw rfl) Elems.nil) (by simp) rfl) rfl ?_
          refine X.act (X.append 1 rfl rfl Try.underlying57 (El.of (P := Try.prog) (z := (.int .i64 0)) (size := 1) (bytes := 8) rfl rfl rfl) Is.rfl' Is.rfl' (SrcL.slice Try.underlying57 (by decide) (by (intro e he; simp [chunks] at he; simp [he]; done))) (by simp only [Option.getD_some, Option.getD_none, byteEls_length, intEls_length, List.length_append, List.length_cons, List.length_nil, List.length_map, List.length_drop, List.length_take, Int.toNat_natCast]; omega) (by simp only [Option.getD_some, Option.getD_none, byteEls_length, intEls_length, List.length_append, List.length_cons, List.length_nil, List.length_map, List.length_drop, List.length_take, Int.toNat_natCast]; omega) (fun b55 o55 c55 => X.weak (t := 55) (Is.of (y := Ints (ends l (i + 1)) (.tok b55 o55 c55)) (ends_snoc hx)) ?_))
          refine X.act (X.store 2 rfl Try.sizeOf57 Is.rfl' Is.rfl' (by exact Cells.sl) (by (simp; done)) (by (simp; done)) ?_)
          refine LL.nil (after_blk (after_code ?_))
          refine X.wcells (ys := [Ints (ends l (i + 1)) (.tok b55 o55 c55)]) (putAt_all (by simp [raws])) ?_
          refine LW.region ?_
          refine X.u (LU.addN Is.rfl' Is.rfl' (wrap_i64 (by omega) (by omega))) rfl ?_
          refine X.u (LU.moveR Is.rfl') rfl ?_
          refine LL.nil (after_rnd ?_)
          refine X.next ((i + 1, b50, o50, c50, b55, o55, c55)) rfl (EnvLe.cons (by rfl) (EnvLe.cons (by rfl) (EnvLe.nil))) (Keeps.cons (by exact Eq.trans (b := .raw _) rfl rfl) (Keeps.cons (by exact Eq.trans (b := .raw _) rfl rfl) (Keeps.cons (by exact Eq.trans (b := .raw _) rfl rfl) (Keeps.cons (by exact Eq.trans (b := .raw _) rfl rfl) (Keeps.cons (by exact Eq.trans (b := .sl _ _ _) rfl rfl) (Keeps.cons (by exact Eq.trans (b := .raw _) rfl rfl) (Keeps.nil))))))) (by repeat (first | exact HSub.refl _ | refine HSub.pick 1 rfl ?_ | refine HSub.pick 2 rfl ?_)) ?_ ?_
          · refine ⟨by omega, by rw [← cat_step hx, List.length_append, frm_len]; omega, by omega, fun z hz => ?_⟩
            rw [show l.take (i + 1) = l.take i ++ [x] by obtain ⟨g1, g2⟩ := List.getElem?_eq_some_iff.1 hx; rw [List.take_succ_eq_append_getElem g1, g2]] at hz
            rcases List.mem_append.1 hz with h | h
            · exact hsm z h
            · rw [List.mem_singleton.1 h]; omega
          · (simp; omega)
      · try have h4 := of_decide_eq_false h4
        refine LW.exit (exit_code (exit_rnd (exit_blk (after_rnd ?_))))
        refine X.meets ((i, tb, to, tc, eb, eo, ec)) rfl (EnvLe.cons (by rfl) (EnvLe.nil)) (Keeps.cons (by exact Eq.trans (b := .raw _) rfl rfl) (Keeps.cons (by exact Eq.trans (b := .raw _) rfl rfl) (Keeps.cons (by exact Eq.trans (b := .raw _) rfl rfl) (Keeps.cons (by exact Eq.trans (b := .raw _) rfl rfl) (Keeps.nil))))) (by repeat (exact HSub.refl _)) ?_
        exact ⟨hi, hcl, hi51, hsm⟩
  · rintro ⟨i, tb, to, tc, eb, eo, ec⟩ hI
    refine LW.seq ?_
    obtain ⟨hi, hcl, hi51, hsm⟩ := hI
    have hel := ends_len l i
    obtain ⟨B, hB⟩ : ∃ B, B = cat (l.take i) := ⟨_, rfl⟩
    rw [← hB] at hcl
    obtain ⟨n, hn1, hn2⟩ := turn_k cut (B.length + 1) (by omega)
    obtain ⟨m, hm1, hm2, hm3, hm4⟩ := whole (l.take i) 0 n hsm (by rw [← hB]; omega)
    rw [← hB] at hm2
    obtain ⟨fs, hfs⟩ : ∃ fs, fs = frs 0 (B.take n) := ⟨_, rfl⟩
    have hBn : (B.take n).length < 1099511627776 := by simp; omega
    have hiter : ∀ g, LIterW Try.prog 43 #[ptr g] fs Jfr [.cells g 22 [Bytes (B.take n) .unk]] [.cells g 22 [Bytes (B.take n) .unk]] := fun g => hfs ▸ all_iter (B.take n) hBn g
    rw [← hfs] at hm2
    have hmi : m ≤ i := by simp at hm1; omega
    have hfm : fs.length = m := by have := congrArg List.length hm2; simp at this; omega
    have htk : ∀ j, j < i → (l.take i).take (j + 1) = l.take (j + 1) := fun j hj => by rw [List.take_take]; congr 1; omega
    have hel3 : ∀ j, j < m → (cat (l.take (j + 1))).length ≤ n := fun j hj => by rw [← htk j (by omega)]; exact hm3 j hj
    have hel4 : m = i ∨ (m < i ∧ n < (cat (l.take (m + 1))).length) := by
      by_cases hmi2 : m = i
      · exact .inl hmi2
      · refine .inr ⟨by omega, ?_⟩
        rcases hm4 with h | h
        · simp at h; omega
        · rw [htk m (by omega)] at h; exact h
    have hyk : ∀ k y, fs[k]? = some y → l[k]? = some y.2 ∧ k < m := fun k y h => by
      have hk := (List.getElem?_eq_some_iff.1 h).1
      have h2 : (datas fs)[k]? = some y.2 := by rw [List.getElem?_map, h]; rfl
      rw [hm2, List.take_take, List.getElem?_take, if_pos (by omega)] at h2
      exact ⟨h2, by omega⟩
    have hm51 : m ≤ 51 := by omega
    refine X.wweak (t := 5) (v := Bytes B (.tok tb to tc)) (by rw [hB]; exact Is.rfl') ?_
    refine LW.region ?_
    refine X.u (LU.moveR Is.rfl') rfl ?_
    refine X.u (LU.conv Try.underlying3 Try.underlying38 Is.rfl') rfl ?_
    refine X.u (LU.moveS Is.rfl') rfl ?_
    refine X.u (LU.lenN Try.underlying22 Is.rfl' (by (simp only [Option.getD_some, Option.getD_none, byteEls_length, intEls_length, List.length_append, List.length_cons, List.length_nil, List.length_map, List.length_drop, List.length_take, Int.toNat_natCast]; rfl))) rfl ?_
    refine X.u (LU.weak (LU.addN Is.rfl' Is.rfl' (wrap_i64 (by omega) (by omega))) (Is.of (y := i64 ((B.length + 1 : Nat) : Int)) (rfl))) rfl ?_
    refine X.u (LU.convN Try.underlying3 Try.underlying38 Is.rfl' (wrap_u64 (by omega) (by omega))) rfl ?_
    refine X.u (LU.weak (LU.rem Is.rfl' Is.rfl' (by omega)) (Is.of (y := .raw (.int .u64 ((n : Nat) : Int))) (congrArg (fun z => LV.raw (.int .u64 z)) hn1))) rfl ?_
    refine X.u (LU.convN Try.underlying38 Try.underlying3 Is.rfl' (wrap_i64 (by omega) (by omega))) rfl ?_
    refine X.act (X.alloc rfl Try.zeroValue3 (by exact Cells.raw rfl) (fun b11 => ?_))
    refine X.act (X.store 0 rfl Try.sizeOf3 Is.rfl' Is.rfl' (by exact Cells.raw rfl) (by (simp; done)) (by (simp; done)) ?_)
    refine LL.nil (after_code ?_)
    refine LW.seq ?_
    refine X.wcells (ys := [i64 (n : Nat)]) (putAt_all (by simp [raws])) ?_
    refine LW.region ?_
    refine X.u (LU.moveS Is.rfl') rfl ?_
    refine X.u (LU.loadO 0 rfl ⟨Try.sizeOf3, Try.isAgg3⟩ Is.rfl' (Part.one rfl)) rfl ?_
    refine X.u (LU.sliceB (i := none) (j := some ((n : Nat) : Int)) Try.sizeOf5 Try.underlying22 Is.rfl' trivial ⟨_, Is.rfl'⟩ (by simp) (by simp) (by simp only [Option.getD_some]; omega) (m := B.take n) (by simp)) rfl ?_
    refine X.act (X.call (all_calls (B.take n) .unk hBn) Try.func31 rfl rfl rfl (HSub.refl _) (Opds.cons Is.rfl' Opds.nil) ?_)
    rintro r H' ⟨gg, rfl, rfl⟩
    refine X.u (LU.assignR Is.rfl') rfl ?_
    refine LL.nil (after_code ?_)
    refine LW.seq ?_
    refine LW.seq ?_
    refine LW.region ?_
    refine X.u (LU.moveR Is.rfl') rfl ?_
    refine X.u (LU.nilFEqS Try.underlying55 Is.rfl' Is.rfl') rfl ?_
    refine LL.nil (after_code ?_)
    refine X.condF rfl ?_ ?_
    · rfl
    refine LW.skip (after_code ?_)
    refine LW.seq ?_
    refine LW.region ?_
    refine X.act (X.alloc rfl Try.zeroValue3 (by exact Cells.raw rfl) (fun b13 => ?_))
    refine X.act (X.store 0 rfl Try.sizeOf3 Is.rfl' Is.rfl' (by exact Cells.raw rfl) (by (simp; done)) (by (simp; done)) ?_)
    refine LL.nil (after_code ?_)
    refine LW.seq ?_
    refine LW.seq ?_
    refine LW.region ?_
    refine X.u (LU.moveR Is.rfl') rfl ?_
    refine LL.nil (after_code ?_)
    refine LW.block ?_
    refine X.rangeW (items := fs) (J := Jfr) Is.rfl' Try.func43 rfl rfl (hiter gg) rfl (by intro y _ x Hx hJ; obtain ⟨_, _, _, _, rfl, _⟩ := hJ; rfl) (α := Nat) (β := Unit) (fun i2 => .cells b13 3 [i64 (i2 : Nat)] :: .cells b6 57 [Ints (ends l i) (.tok eb eo ec)] :: .cells b11 3 [i64 (n : Nat)] :: .cells b2 52 [.sl 1 (bRow l) .unk] :: [.cells b4 4 [bl false]]) (fun u => []) (fun k i2 => i2 = k) (fun c u => False) (0) ?_ (by (refine HSub.pick 1 rfl ?_); (refine HSub.pick 0 rfl ?_); (refine HSub.pick 3 rfl ?_); (refine HSub.pick 0 rfl ?_); (refine HSub.pick 3 rfl ?_); (refine HSub.pick 2 rfl ?_); exact HSub.refl _) ?_ ?_ ?_
    · exact rfl
    · rintro k i2 y x Hx hx hJ hI R1
      subst hI
      obtain ⟨bb, cc, rest, hcc, rfl, rfl⟩ := hJ
      obtain ⟨hyl, hym⟩ := hyk i2 y hx
      have hyn := hel3 i2 hym
      refine LW.region ?_
      refine X.u (LU.assignR Is.rfl') rfl ?_
      refine LL.nil (after_end ?_)
      refine ⟨rfl, [.cells bb 5 (u8s y.2 ++ raws rest), .cells b13 3 [i64 (i2 : Nat)], .cells b6 57 [Ints (ends l i) (.tok eb eo ec)], .cells b11 3 [i64 (n : Nat)], .cells b2 52 [.sl 1 (bRow l) .unk], .cells b4 4 [bl false]], _, rfl, fun R2 => ?_⟩
      refine LW.block ?_
      refine LW.seq ?_
      refine LW.seq ?_
      refine X.drawM 22 rfl (by kernel_rfl) rfl ?_
      refine QD.u (LU.loadO 1 rfl ⟨Try.sizeOf3, Try.isAgg3⟩ Is.rfl' (Part.one rfl)) rfl ?_
      refine QD.u (LU.loadO 2 rfl ⟨Try.sizeOf57, Try.isAgg57⟩ Is.rfl' (Part.one rfl)) rfl ?_
      refine QD.u (LU.lenN Try.underlying57 Is.rfl' (by (simp only [Option.getD_some, Option.getD_none, byteEls_length, intEls_length, List.length_append, List.length_cons, List.length_nil, List.length_map, List.length_drop, List.length_take, Int.toNat_natCast]; rfl))) rfl ?_
      refine QD.u (LU.weak (LU.geq Is.rfl' Is.rfl') (asB (c := false) rfl (by simp [hel]; omega))) rfl ?_
      refine QD.u (LU.moveR Is.rfl') rfl ?_
      refine QD.doF rfl rfl (LU.loadO 2 rfl ⟨Try.sizeOf57, Try.isAgg57⟩ (by exact Is.rfl') (Part.one rfl)) rfl ?_
      refine QD.doF rfl rfl (LU.loadO 1 rfl ⟨Try.sizeOf3, Try.isAgg3⟩ (by exact Is.rfl') (Part.one rfl)) rfl ?_
      refine QD.doF rfl rfl (LU.at Try.underlying57 ⟨Try.sizeOf3, Try.isAgg3⟩ (by exact Is.rfl') (by exact Is.rfl') (by omega) (ends_at (by omega)) (by simp)) rfl ?_
      refine QD.doF rfl rfl (LU.load ⟨Try.sizeOf3, Try.isAgg3⟩ (by exact Is.rfl') (by (simp; done)) (Part.one rfl)) rfl ?_
      refine QD.doF rfl rfl (LU.loadO 3 rfl ⟨Try.sizeOf3, Try.isAgg3⟩ (by exact Is.rfl') (Part.one rfl)) rfl ?_
      refine QD.doF rfl rfl (LU.weak (LU.gtr (by exact Is.rfl') (by exact Is.rfl')) (asB (c := false) rfl (by simp; omega))) rfl ?_
      refine QD.u (LU.pickF Is.rfl' (by exact Is.rfl')) rfl ?_
      refine QD.u (LU.moveR Is.rfl') rfl ?_
      refine QD.doF rfl rfl (LU.moveR (by exact Is.rfl')) rfl ?_
      refine QD.doF rfl rfl (LU.tostrL Try.underlying22 Try.underlying5 Try.underlying9 (IsL.bytes (l := y.2) 0 rfl Is.rfl' rfl hcc)) rfl ?_
      refine QD.doF rfl rfl (LU.loadO 4 rfl ⟨Try.sizeOf52, Try.isAgg52⟩ (by exact Is.rfl') (Part.one rfl)) rfl ?_
      refine QD.doF rfl rfl (LU.loadO 1 rfl ⟨Try.sizeOf3, Try.isAgg3⟩ (by exact Is.rfl') (Part.one rfl)) rfl ?_
      refine QD.doF rfl rfl (LU.at Try.underlying52 ⟨Try.sizeOf22, Try.isAgg22⟩ (by exact Is.rfl') (by exact Is.rfl') (by omega) (bRow_at hyl) (by simp)) rfl ?_
      refine QD.doF rfl rfl (LU.load ⟨Try.sizeOf22, Try.isAgg22⟩ (by exact Is.rfl') (by (simp; done)) (Part.one rfl)) rfl ?_
      refine QD.doF rfl rfl (LU.tostr Try.underlying22 Try.underlying5 Try.underlying9 (by exact Is.rfl')) rfl ?_
      refine QD.doF rfl rfl (LU.weak (LU.strneN (by exact Is.rfl') (by exact Is.rfl')) (asB (c := false) rfl (by simp))) rfl ?_
      refine QD.u (LU.pickF Is.rfl' (by exact Is.rfl')) rfl ?_
      refine QD.nil ?_
      refine LL.nil (after_code ?_)
      refine X.condF rfl ?_ ?_
      · rfl
      refine LW.skip (after_code ?_)
      refine LW.region ?_
      refine X.u (LU.loadO 1 rfl ⟨Try.sizeOf3, Try.isAgg3⟩ Is.rfl' (Part.one rfl)) rfl ?_
      refine X.u (LU.weak (LU.addN Is.rfl' Is.rfl' (wrap_i64 (by omega) (by omega))) (Is.of (y := i64 ((i2 + 1 : Nat) : Int)) (rfl))) rfl ?_
      refine X.act (X.store 1 rfl Try.sizeOf3 Is.rfl' Is.rfl' (by exact Cells.raw rfl) (by (simp; done)) (by (simp; done)) ?_)
      refine LL.nil (after_blk (after_end ?_))
      refine ⟨i2 + 1, ?_, (by repeat (first | exact HSub.refl _ | refine HSub.pick 0 rfl ?_ | refine HSub.pick 1 rfl ?_ | refine HSub.drop ?_))⟩
      exact rfl
    · rintro D i2 hI
      subst hI
      rw [hfm]
      refine after_blk (after_code ?_)
      refine LW.seq ?_
      refine X.drawM 15 rfl (by kernel_rfl) rfl ?_
      refine QD.u (LU.loadO 1 rfl ⟨Try.sizeOf3, Try.isAgg3⟩ Is.rfl' (Part.one rfl)) rfl ?_
      refine QD.u (LU.loadO 2 rfl ⟨Try.sizeOf57, Try.isAgg57⟩ Is.rfl' (Part.one rfl)) rfl ?_
      refine QD.u (LU.lenN Try.underlying57 Is.rfl' (by (simp only [Option.getD_some, Option.getD_none, byteEls_length, intEls_length, List.length_append, List.length_cons, List.length_nil, List.length_map, List.length_drop, List.length_take, Int.toNat_natCast]; rfl))) rfl ?_
      refine QD.u (LU.eql Is.rfl' Is.rfl') rfl ?_
      refine QD.u (LU.moveR Is.rfl') rfl ?_
      refine QD.gF rfl rfl (fun hg => LU.loadO 2 rfl ⟨Try.sizeOf57, Try.isAgg57⟩ (by exact Is.rfl') (Part.one rfl)) rfl ?_
      refine QD.gF rfl rfl (fun hg => LU.loadO 1 rfl ⟨Try.sizeOf3, Try.isAgg3⟩ (by exact Is.rfl') (Part.one rfl)) rfl ?_
      refine QD.gF rfl rfl (fun hg => LU.at Try.underlying57 ⟨Try.sizeOf3, Try.isAgg3⟩ (by exact Is.whenN hg) (by exact Is.whenN hg) (by omega) (ends_at (show m < i by have := of_decide_eq_false hg; omega)) (by simp)) rfl ?_
      refine QD.gF rfl rfl (fun hg => LU.load ⟨Try.sizeOf3, Try.isAgg3⟩ (by exact Is.whenN hg) (by (simp; done)) (Part.one rfl)) rfl ?_
      refine QD.gF rfl rfl (fun hg => LU.loadO 3 rfl ⟨Try.sizeOf3, Try.isAgg3⟩ (by exact Is.rfl') (Part.one rfl)) rfl ?_
      refine QD.gF rfl rfl (fun hg => LU.gtr (by exact Is.whenN hg) (by exact Is.whenN hg)) rfl ?_
      refine QD.u (LU.weak (LU.pickOr Is.rfl' Is.rfl' (fun hq => (by exact Is.whenN hq))) (asB (c := true) rfl (by rcases hel4 with h | h; simp [h, hel]; simp [h.2]))) rfl ?_
      refine QD.u (LU.moveR Is.rfl') rfl ?_
      refine QD.doT rfl rfl (LU.call (lives4_calls) Try.func19 rfl rfl Opds.nil) rfl ?_
      refine QD.u (LU.pickT Is.rfl' (by exact Is.rfl')) rfl ?_
      refine QD.nil ?_
      refine X.act (X.store 5 rfl Try.sizeOf4 Is.rfl' Is.rfl' (by exact Cells.raw rfl) (by (simp; done)) (by (simp; done)) ?_)
      refine LL.nil (after_code ?_)
      refine LW.ret (after_end ?_)
      refine X.retM (H' := [.cells b4 4 [bl true]]) 6 rfl (by exact Res.cell1 0 rfl rfl ⟨Try.sizeOf4, Try.isAgg4⟩ (Part.one rfl) (by exact IsR rfl)) (by repeat (first | exact HSub.refl _ | refine HSub.pick 0 rfl ?_ | refine HSub.drop ?_)) ?_
      exact rfl
    · rintro D c u h; exact h.elim
theorem bRow_of : ∀ (es : List (List LV)), (∀ c ∈ es, QSl 1 1 (QInt .u8) c) → ∃ l : List (List UInt8), es = bRow l ∧ ∀ x ∈ l, x.length ≤ reachBytes
  | [], _ => ⟨[], rfl, by simp⟩
  | e :: es, h => by
    obtain ⟨fs, rfl, h1, h2⟩ := h e (by simp)
    obtain ⟨b, rfl⟩ := decode_bytes h1
    obtain ⟨l, h3, h4⟩ := bRow_of es (fun c hc => h c (by simp [hc]))
    rw [byteEls_length] at h2
    exact ⟨b :: l, by rw [h3]; rfl, by simpa using ⟨by omega, h4⟩⟩
theorem FrameBegins_row (x0 : List (List LV)) (cut : Int) (h0 : ∀ c ∈ x0, QSl 1 1 (QInt .u8) c) (h1 : x0.length * 24 ≤ reachBytes) (h2 : (Lit.int .i64 cut).wf = true) : LCalls Try.prog 10 [.sl 1 x0 .unk, i64 cut] [] (fun r _ => r = .raw (.bool true)) := by
  obtain ⟨l, rfl, hl⟩ := bRow_of x0 h0
  have hr : reachBytes < 140737488355328 := by decide
  exact fb_calls l cut (by simp at h1; omega) (fun x hx => by have := hl x hx; omega)
end Go.Proofs.Ytahecnlglcfddaa
