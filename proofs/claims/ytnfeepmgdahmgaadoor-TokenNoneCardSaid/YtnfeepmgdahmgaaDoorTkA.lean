/- Numbers in digits. -/
import Derived.Test.YtnfeepmgdahmgaaDoorMcB
import Derived.Test.YtnfeepmgdahmgaaDoorLgC
import Derived.Test.YtnfeepmgdahmgaaDoorShelf
import Derived.Lib.ItoaLen
set_option linter.unusedVariables false
set_option linter.unusedSimpArgs false
namespace Go.Proofs.YtnfeepmgdahmgaaDoor
open Go.RowKit Go.L
attribute [local irreducible] LL LW LO
abbrev pw : Atom := .known 3 ((List.range 20).map fun i => u64 (10 ^ i))
theorem len64_calls (x : Nat) (h : x < 18446744073709551616) : LCalls Tryd.prog 122 [u64 x] [] (fun r H' => r = i64 (Lib.bitLen x) ∧ H' = []) :=
  LCalls.quiet (vs := [.int .u64 x]) (v := .int .i64 (Lib.bitLen x)) fun w => by
    have := Tryd.bits_Len64 (x : Int) w (by omega) (by omega)
    rwa [Int.toNat_natCast] at this
theorem log10_calls (x : Nat) (h : x ≤ 64) : LCalls Tryd.prog 121 [i64 x] [] (fun r H' => r = i64 (Lib.l10 x) ∧ H' = []) :=
  LCalls.quiet (vs := [.int .i64 x]) (v := .int .i64 (Lib.l10 x)) fun w => Tryd.internal_strconv_log10Pow2 x h w
theorem bool2_calls (b : Bool) : LCalls Tryd.prog 123 [.raw (.bool b)] [] (fun r H' => r = i64 (if b then 1 else 0) ∧ H' = []) :=
  LCalls.quiet (vs := [.bool b]) (v := .int .i64 (if b then 1 else 0)) fun w => Tryd.internal_strconv_bool2_int b w
theorem small_calls (x : Nat) (h : x < 100) : LCalls Tryd.prog 114 [i64 x] [] (fun r H' => r = Str (Lib.decDigits x) ∧ H' = []) :=
  LCalls.quiet (vs := [.int .i64 x]) (v := .string ⟨(Lib.decDigits x).toArray⟩) fun w => Tryd.internal_strconv_small x h w
theorem bitLen_le (u : Nat) (h1 : 1 ≤ u) (h2 : u < 18446744073709551616) : Lib.bitLen u ≤ 64 := by
  have hb := Lib.bitLenAux_bounds 64 u (by omega) (by omega)
  unfold Lib.bitLen
  by_cases h : Lib.bitLenAux 64 u ≤ 64
  · exact h
  · exfalso
    have : 2 ^ 64 ≤ 2 ^ (Lib.bitLenAux 64 u - 1) := Nat.pow_le_pow_right (by omega) (by omega)
    omega
theorem pow_at {l : Nat} (h : l ≤ 19) : ((List.range 20).map fun i => u64 (10 ^ i))[0 + ((l : Nat) : Int).toNat * 1]? = some (u64 (10 ^ l)) := by
  rw [Nat.zero_add, Nat.mul_one, Int.toNat_natCast, List.getElem?_map, List.getElem?_range (by omega)]; rfl
set_option maxRecDepth 100000 in
theorem numdig_calls (u : Nat) (h1 : 1 ≤ u) (h2 : u < 18446744073709551616) : LCalls Tryd.prog 115 [u64 u] [pw] (fun r H' => r = i64 (Lib.nDigits u) ∧ H' = [pw]) := by
  obtain ⟨hd, hl⟩ := Lib.numDigits_eq u h1 h2
  obtain ⟨L, hL⟩ : ∃ L, L = Lib.l10 (Lib.bitLen u) := ⟨_, rfl⟩
  have hlog := log10_calls (Lib.bitLen u) (bitLen_le u h1 h2)
  rw [← hL] at hlog hd hl
  obtain ⟨p, hp⟩ : ∃ p, p = 10 ^ L := ⟨_, rfl⟩
  have hat := pow_at hl
  rw [← hp] at hat hd
  refine LCalls.of Tryd.func115 rfl Tryd.ntmps115 Tryd.results115 rfl (fun Rf => ?_)
  refine LW.seq ?_
  refine LW.region ?_
  refine X.u (LU.assignR Is.rfl') rfl ?_
  refine LL.nil (after_code ?_)
  refine LW.seq ?_
  refine LW.region ?_
  refine X.u (LU.moveR Is.rfl') rfl ?_
  refine X.u (LU.call (len64_calls u h2) Tryd.func122 rfl rfl (Opds.cons Is.rfl' Opds.nil)) rfl ?_
  refine X.u (LU.call (hlog) Tryd.func121 rfl rfl (Opds.cons Is.rfl' Opds.nil)) rfl ?_
  refine X.u (LU.assignR Is.rfl') rfl ?_
  refine LL.nil (after_code ?_)
  refine LW.seq ?_
  refine LW.region ?_
  refine X.u (LU.moveR Is.rfl') rfl ?_
  refine X.u (LU.moveR Is.rfl') rfl ?_
  refine X.u (LU.moveR Is.rfl') rfl ?_
  refine X.u (LU.atA Tryd.underlying194 Tryd.sizeOf152 Is.rfl' Is.rfl' (by omega) (by omega)) rfl ?_
  refine X.u (LU.loadK 0 rfl ⟨Tryd.sizeOf152, Tryd.isAgg152⟩ Is.rfl' (by decide) (by (simp; omega)) (Part.one (hat))) rfl ?_
  refine X.u (LU.geq Is.rfl' Is.rfl') rfl ?_
  refine X.u (LU.call (bool2_calls _) Tryd.func123 rfl rfl (Opds.cons Is.rfl' Opds.nil)) rfl ?_
  refine X.u (LU.weak (LU.addN Is.rfl' Is.rfl' (wrap_i64 (by omega) (by omega))) (Is.of (y := i64 (Lib.nDigits u)) (congrArg i64 (by rw [← hd]; by_cases c : p ≤ u <;> simp [c])))) rfl ?_
  refine X.u (LU.assignR Is.rfl') rfl ?_
  refine LL.nil (after_code ?_)
  refine LW.ret (after_end ?_)
  refine X.ret (H' := [pw]) (Res.one (by exact IsR rfl)) (by repeat (exact HSub.refl _)) ?_
  exact ⟨rfl, rfl⟩
abbrev u8v (n : Nat) : Value := .int .u8 (n : Nat)
theorem base10_calls (b T n : Nat) (h2 : n < 18446744073709551616) (hn : Lib.nDigits n ≤ 20) : LCalls Tryd.prog 116 [.raw (.slice (some ⟨b, 1, none⟩) (Lib.nDigits n) 23), u64 n] [.cells b T (List.replicate 24 (.raw (u8v 0)))] (fun r H' => r = .raw (.tuple #[]) ∧ H' = [.cells b T (putAt (List.replicate 24 (.raw (u8v 0))) 1 ((Lib.decDigits n).map fun a => LV.raw (u8v a.toNat)))]) :=
  LCalls.row (enc := fun a : UInt8 => u8v a.toNat) (vs := [.slice (some ⟨b, 1, none⟩) (Lib.nDigits n) 23, .int .u64 n]) (v := .tuple #[]) (d := List.replicate (Lib.nDigits n) (0 : UInt8)) (d' := Lib.decDigits n) (fun _ => rfl) (by rw [List.drop_replicate, List.take_replicate, List.length_replicate, List.map_replicate, Nat.min_eq_left (by omega)]; rfl) (by rw [List.length_replicate, List.length_replicate]; omega) (by rw [Lib.decDigits_length, List.length_replicate]) fun w hH => by
    have hsz : (List.replicate (Lib.nDigits n) (0 : UInt8)).toArray.size = Lib.nDigits n := by simp
    have := Tryd.internal_strconv_formatBase10 b 1 23 n (List.replicate (Lib.nDigits n) (0 : UInt8)).toArray w hH (by rw [hsz]; exact Lib.lt_pow_nDigits n) h2 (by rw [hsz]; omega)
    rw [hsz] at this
    refine this.mono fun e w' ⟨he, k, v', dk, hw, hf⟩ => ⟨he, k, ?_⟩
    have hdk : dk = (Lib.decDigits n).toArray := by
      apply Array.ext
      · rw [hf.size, List.size_toArray, Lib.decDigits_length]
      · intro j h3 h4
        have h5 : j < (Lib.decDigits n).length := by simpa using h4
        have := Lib.row_is_numeral hf j h5
        rw [getElem!_pos dk j h3] at this
        rw [← this]; simp
    rw [hw, hdk]
theorem put_dig (n : Nat) (hn : Lib.nDigits n ≤ 20) : (byteEls (Lib.decDigits n)).flatten = ((putAt (List.replicate 24 (LV.raw (u8v 0))) 1 ((Lib.decDigits n).map fun a => LV.raw (u8v a.toNat))).drop 1).take (Lib.nDigits n * 1) := by
  rw [byteEls_flat, Nat.mul_one]
  have hl := Lib.decDigits_length n
  unfold putAt
  rw [List.append_assoc, List.drop_append_of_le_length (by simp), List.take_replicate, List.drop_replicate]
  simp [hl]
set_option maxRecDepth 100000 in
theorem fmt_calls (n : Nat) (h : n < 9223372036854775808) : LCalls Tryd.prog 102 [i64 n, i64 10] [pw] (fun r H' => r = Str (Lib.decDigits n) ∧ H' = [pw]) := by
  refine LCalls.of Tryd.func102 rfl Tryd.ntmps102 Tryd.results102 rfl (fun Rf => ?_)
  refine LW.seq ?_
  refine LW.region ?_
  refine X.u (LU.assignR Is.rfl') rfl ?_
  refine LL.nil (after_code ?_)
  refine LW.seq ?_
  refine LW.seq ?_
  refine LW.region ?_
  refine X.u (LU.moveR Is.rfl') rfl ?_
  refine X.u (LU.eql Is.rfl' Is.rfl') rfl ?_
  refine LL.nil (after_code ?_)
  refine X.condT rfl ?_ ?_
  · rfl
  refine LW.seq ?_
  refine LW.seq ?_
  refine LW.region ?_
  refine X.u (LU.moveR Is.rfl') rfl ?_
  refine X.u (LU.weak (LU.leq Is.rfl' Is.rfl') (asB (c := true) rfl (by simp))) rfl ?_
  refine X.u (LU.moveR Is.rfl') rfl ?_
  refine X.doT rfl rfl (LU.moveR (by exact Is.rfl')) rfl ?_
  refine X.doT rfl rfl (LU.lss (by exact Is.rfl') (by exact Is.rfl')) rfl ?_
  refine X.u (LU.pickT Is.rfl' (by exact Is.rfl')) rfl ?_
  refine LL.nil (after_code ?_)
  refine X.cond rfl (fun h2 => ?_) (fun h2 => ?_)
  · have h2 : n < 100 := by have := of_decide_eq_true h2; omega
    refine LW.seq ?_
    refine LW.region ?_
    refine X.u (LU.moveR Is.rfl') rfl ?_
    refine X.u (LU.call (small_calls n h2) Tryd.func114 rfl rfl (Opds.cons Is.rfl' Opds.nil)) rfl ?_
    refine X.u (LU.assignR Is.rfl') rfl ?_
    refine LL.nil (after_code ?_)
    refine LW.ret (ret_code (ret_code (after_end ?_)))
    refine X.ret (H' := [pw]) (Res.one (by exact IsR rfl)) (by repeat (exact HSub.refl _)) ?_
    exact ⟨rfl, rfl⟩
  · have h2 : ¬ n < 100 := by have := of_decide_eq_false h2; omega
    have hn20 := Lib.nDigits_le20 n (by omega)
    have hnp := Lib.nDigits_pos n
    refine LW.skip (after_code ?_)
    refine LW.seq ?_
    refine LW.region ?_
    refine X.act (X.alloc rfl Tryd.zeroValue187 (by exact Cells.rawagg (by decide)) (fun b5 => ?_))
    refine LL.nil (after_code ?_)
    refine LW.seq ?_
    refine X.wcells (ys := List.replicate 24 (.raw (u8v 0))) rfl ?_
    refine LW.region ?_
    refine X.u (LU.moveR Is.rfl') rfl ?_
    refine X.u (LU.weak (LU.conv Tryd.underlying2 Tryd.underlying152 Is.rfl') (Is.of (y := u64 n) (congrArg (fun z => LV.raw (.int .u64 z)) (show IntKind.u64.wrap (n : Int) = (n : Int) from by show (n : Int) % 18446744073709551616 = n; omega)))) rfl ?_
    refine X.u (LU.assignR Is.rfl') rfl ?_
    refine LL.nil (after_code ?_)
    refine LW.seq ?_
    refine LW.seq ?_
    refine LW.region ?_
    refine X.u (LU.moveR Is.rfl') rfl ?_
    refine X.u (LU.lss Is.rfl' Is.rfl') rfl ?_
    refine LL.nil (after_code ?_)
    refine X.condF rfl ?_ ?_
    · exact decide_eq_false (by omega)
    refine LW.skip (after_code ?_)
    refine LW.seq ?_
    refine LW.region ?_
    refine X.u (LU.moveR Is.rfl') rfl ?_
    refine X.u (LU.call1 1 rfl (numdig_calls n (by omega) (by omega)) Tryd.func115 rfl rfl (Opds.cons Is.rfl' Opds.nil)) rfl ?_
    refine X.u (LU.assignR Is.rfl') rfl ?_
    refine LL.nil (after_code ?_)
    refine LW.seq ?_
    refine LW.region ?_
    refine X.u (LU.moveR Is.rfl') rfl ?_
    refine X.u (LU.weak (LU.addN Is.rfl' Is.rfl' (wrap_i64 (by omega) (by omega))) (Is.of (y := i64 ((1 + Lib.nDigits n : Nat) : Int)) (congrArg i64 (by omega)))) rfl ?_
    refine X.u (LU.weak (LU.sliceOAlh Tryd.underlying187 Tryd.sizeOf5 Is.rfl' Is.rfl' Is.rfl' (by omega) (by omega) (by omega) (by omega)) (Is.of (y := .raw (.slice (some ⟨b5, 1, none⟩) (Lib.nDigits n) 23)) (congrArg (fun z => LV.raw (.slice (some ⟨b5, 1, none⟩) z 23)) (by omega)))) rfl ?_
    refine X.u (LU.moveR Is.rfl') rfl ?_
    refine X.act (X.call (base10_calls b5 187 n (by omega) hn20) Tryd.func116 rfl rfl rfl (by (refine HSub.pick 0 rfl ?_); exact HSub.refl _) (Opds.cons Is.rfl' (Opds.cons Is.rfl' Opds.nil)) ?_)
    rintro r H' ⟨rfl, rfl⟩
    refine LL.nil (after_code ?_)
    refine LW.seq ?_
    refine LW.seq ?_
    refine LW.region ?_
    refine X.u (LU.moveR Is.rfl') rfl ?_
    refine X.u (LU.lss Is.rfl' Is.rfl') rfl ?_
    refine LL.nil (after_code ?_)
    refine X.condF rfl ?_ ?_
    · exact decide_eq_false (by omega)
    refine LW.skip (after_code ?_)
    refine LW.seq ?_
    refine LW.region ?_
    refine X.u (LU.moveR Is.rfl') rfl ?_
    refine X.u (LU.weak (LU.addN Is.rfl' Is.rfl' (wrap_i64 (by omega) (by omega))) (Is.of (y := i64 ((1 + Lib.nDigits n : Nat) : Int)) (congrArg i64 (by omega)))) rfl ?_
    refine X.u (LU.weak (LU.sliceOAlh Tryd.underlying187 Tryd.sizeOf5 Is.rfl' Is.rfl' Is.rfl' (by omega) (by omega) (by omega) (by omega)) (Is.of (y := .raw (.slice (some ⟨b5, 1, none⟩) (Lib.nDigits n) 23)) (congrArg (fun z => LV.raw (.slice (some ⟨b5, 1, none⟩) z 23)) (by omega)))) rfl ?_
    refine X.u (LU.tostrL Tryd.underlying22 Tryd.underlying5 Tryd.underlying9 (IsL.cells (es := byteEls (Lib.decDigits n)) (size := 1) (b := b5) (off := 1) (n := Lib.nDigits n) (c := 23) 0 rfl Is.rfl' (byteEls_size _) (by rw [byteEls_length, Lib.decDigits_length]) (by rw [putAt_length _ _ _ (by simp [Lib.decDigits_length]; omega)]; simp; omega) (put_dig n hn20) (by omega))) rfl ?_
    refine X.u (LU.assignR Is.rfl') rfl ?_
    refine LL.nil (after_code ?_)
    refine LW.ret (ret_code (after_end ?_))
    refine X.ret (H' := [pw]) (Res.one (by exact IsR rfl)) (by repeat (first | exact HSub.refl _ | refine HSub.pick 1 rfl ?_ | refine HSub.drop ?_)) ?_
    exact ⟨rfl, rfl⟩
set_option maxRecDepth 100000 in
theorem itoa0_calls (n : Nat) (h : n < 9223372036854775808) : LCalls Tryd.prog 82 [i64 n] [pw] (fun r H' => r = Str (Lib.decDigits n) ∧ H' = [pw]) := by
  refine LCalls.of Tryd.func82 rfl Tryd.ntmps82 Tryd.results82 rfl (fun Rf => ?_)
  refine LW.seq ?_
  refine LW.region ?_
  refine X.u (LU.assignR Is.rfl') rfl ?_
  refine LL.nil (after_code ?_)
  refine LW.seq ?_
  refine LW.region ?_
  refine X.u (LU.moveR Is.rfl') rfl ?_
  refine X.u (LU.call1 0 rfl (fmt_calls n h) Tryd.func102 rfl rfl (Opds.cons Is.rfl' (Opds.cons Is.rfl' Opds.nil))) rfl ?_
  refine X.u (LU.assignR Is.rfl') rfl ?_
  refine LL.nil (after_code ?_)
  refine LW.ret (after_end ?_)
  refine X.ret (H' := [pw]) (Res.one (by exact IsR rfl)) (by repeat (exact HSub.refl _)) ?_
  exact ⟨rfl, rfl⟩
set_option maxRecDepth 100000 in
theorem itoa_calls (n : Nat) (h : n < 9223372036854775808) : LCalls Tryd.prog 68 [i64 n] [pw] (fun r H' => r = Str (Lib.decDigits n) ∧ H' = [pw]) := by
  refine LCalls.of Tryd.func68 rfl Tryd.ntmps68 Tryd.results68 rfl (fun Rf => ?_)
  refine LW.seq ?_
  refine LW.region ?_
  refine X.u (LU.assignR Is.rfl') rfl ?_
  refine LL.nil (after_code ?_)
  refine LW.seq ?_
  refine LW.region ?_
  refine X.u (LU.moveR Is.rfl') rfl ?_
  refine X.u (LU.call1 0 rfl (itoa0_calls n h) Tryd.func82 rfl rfl (Opds.cons Is.rfl' Opds.nil)) rfl ?_
  refine X.u (LU.assignR Is.rfl') rfl ?_
  refine LL.nil (after_code ?_)
  refine LW.ret (after_end ?_)
  refine X.ret (H' := [pw]) (Res.one (by exact IsR rfl)) (by repeat (exact HSub.refl _)) ?_
  exact ⟨rfl, rfl⟩
def dgL : List UInt8 := [48, 49, 50, 51, 52, 53, 54, 55, 56, 57]
theorem dgL_len : dgL.length = 10 := rfl
theorem sub_dg : ∀ i : Fin 10, (dgL.drop i.val).take (i.val + 1 - i.val) = [UInt8.ofNat (48 + i.val)] := by decide +kernel
set_option maxRecDepth 100000 in
theorem dec_calls : ∀ (m n : Nat), n ≤ m → n < 9223372036854775808 → LCalls Tryd.prog 48 [i64 n] [] (fun r H' => r = Str (Lib.decDigits n) ∧ H' = []) := fun m => by
  induction m using Nat.strongRecOn with
  | ind m ih =>
    intro n hnm hn
    have hs : Lib.decDigits n = if n < 10 then [UInt8.ofNat (48 + n)] else Lib.decDigits (n / 10) ++ [UInt8.ofNat (48 + n % 10)] := by
      rw [Lib.decDigits]; split <;> rfl
    have hlen : ∀ k, k < 9223372036854775808 → (Lib.decDigits k).length ≤ 20 := fun k hk => by rw [Lib.decDigits_length]; exact Lib.nDigits_le20 k (by omega)
    have hone : Lib.decDigits (n % 10) = [UInt8.ofNat (48 + n % 10)] := Lib.decDigits_one (by omega)
    refine LCalls.of Tryd.func48 rfl Tryd.ntmps48 Tryd.results48 rfl (fun Rf => ?_)
    refine LW.seq ?_
    refine LW.region ?_
    refine X.u (LU.assignR Is.rfl') rfl ?_
    refine LL.nil (after_code ?_)
    refine LW.seq ?_
    refine LW.seq ?_
    refine LW.region ?_
    refine X.u (LU.moveR Is.rfl') rfl ?_
    refine X.u (LU.lss Is.rfl' Is.rfl') rfl ?_
    refine LL.nil (after_code ?_)
    refine X.cond rfl (fun h1 => ?_) (fun h1 => ?_)
    · have h1 : n < 10 := by have := of_decide_eq_true h1; omega
      refine LW.seq ?_
      refine LW.region ?_
      refine X.u (LU.moveR Is.rfl') rfl ?_
      refine X.u (LU.moveR Is.rfl') rfl ?_
      refine X.u (LU.weak (LU.addN Is.rfl' Is.rfl' (wrap_i64 (by omega) (by omega))) (Is.of (y := i64 ((n + 1 : Nat) : Int)) (rfl))) rfl ?_
      refine X.u (LU.weak (LU.strsliceN (s := dgL) (l := some ((n : Nat) : Int)) (h := some ((n + 1 : Nat) : Int)) Tryd.underlying9 ⟨_, Is.rfl'⟩ ⟨_, Is.rfl'⟩ (by simp only [Option.getD_some]; omega) (by simp only [Option.getD_some]; omega) (by simp only [Option.getD_some, dgL_len]; omega) Is.rfl') (Is.of (y := Str [UInt8.ofNat (48 + n)]) (by simp only [Option.getD_some, Int.toNat_natCast]; exact congrArg Str (sub_dg ⟨n, h1⟩)))) rfl ?_
      refine X.u (LU.assignR Is.rfl') rfl ?_
      refine LL.nil (after_code ?_)
      refine LW.ret (ret_code (after_end ?_))
      refine X.ret (H' := []) (Res.one (by exact IsR rfl)) (by repeat (exact HSub.refl _)) ?_
      exact ⟨by rw [hs, if_pos h1], rfl⟩
    · have h1 : ¬ n < 10 := by have := of_decide_eq_false h1; omega
      have hl1 := hlen (n / 10) (by omega)
      have hl2 := hlen (n % 10) (by omega)
      have ih1 := ih (n / 10) (by omega) (n / 10) (Nat.le_refl _) (by omega)
      have ih2 := ih (n % 10) (by omega) (n % 10) (Nat.le_refl _) (by omega)
      refine LW.skip (after_code ?_)
      refine LW.seq ?_
      refine LW.region ?_
      refine X.u (LU.moveR Is.rfl') rfl ?_
      refine X.u (LU.weak (LU.quo Is.rfl' Is.rfl' (by omega)) (asI (b := ((n / 10 : Nat) : Int)) rfl (by rw [Int.tdiv_eq_ediv_of_nonneg (by omega), wrap_i64 (by omega) (by omega)]; omega))) rfl ?_
      refine X.u (LU.call (ih1) Tryd.func48 rfl rfl (Opds.cons Is.rfl' Opds.nil)) rfl ?_
      refine X.u (LU.moveR Is.rfl') rfl ?_
      refine X.u (LU.weak (LU.rem Is.rfl' Is.rfl' (by omega)) (asI (b := ((n % 10 : Nat) : Int)) rfl (by rw [Int.tmod_eq_emod_of_nonneg (by omega)]; omega))) rfl ?_
      refine X.u (LU.call (ih2) Tryd.func48 rfl rfl (Opds.cons Is.rfl' Opds.nil)) rfl ?_
      refine X.u (LU.strcatN Is.rfl' Is.rfl' (by omega)) rfl ?_
      refine X.u (LU.assignR Is.rfl') rfl ?_
      refine LL.nil (after_code ?_)
      refine LW.ret (after_end ?_)
      refine X.ret (H' := []) (Res.one (by exact IsR rfl)) (by repeat (exact HSub.refl _)) ?_
      exact ⟨by rw [hs, if_neg h1, hone]; try rfl, rfl⟩
end Go.Proofs.YtnfeepmgdahmgaaDoor
