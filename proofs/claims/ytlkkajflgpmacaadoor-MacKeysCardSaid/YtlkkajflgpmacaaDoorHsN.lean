/- Two lists of bytes are equal just if they have the same bytes. -/
import Derived.Test.YtlkkajflgpmacaaDoorHsM
import Derived.Test.YtlkkajflgpmacaaDoorLogQ
set_option linter.unusedVariables false
set_option linter.unusedSimpArgs false
namespace Go.Proofs.YtlkkajflgpmacaaDoor
open Go.RowKit Go.L
abbrev u8s (l : List UInt8) : List LV := l.map fun b => LV.raw (.int .u8 b.toNat)
theorem u8s_get {l : List UInt8} {rest : List LV} {i : Int} (h0 : 0 ≤ i) (h : i < l.length) : (u8s l ++ rest)[0 + i.toNat * 1]? = some (u8 (l.getD i.toNat 0).toNat) := by
  have hi : i.toNat < l.length := by omega
  rw [Nat.zero_add, Nat.mul_one, List.getElem?_append_left (by simpa using hi)]
  simp [List.getD, hi]
theorem u8s_put {l : List UInt8} {rest : List LV} {i : Int} {v : Nat} (hv : v < 256) (h0 : 0 ≤ i) (h : i < l.length) : putAt (u8s l ++ rest) (0 + i.toNat * 1) [u8 v] = u8s (l.set i.toNat (UInt8.ofNat v)) ++ rest := by
  have hi : i.toNat < l.length := by omega
  rw [Nat.zero_add, Nat.mul_one, putAt_one _ _ _ (by simp; omega), List.set_append_left _ _ (by simpa using hi)]
  have : (UInt8.ofNat v).toNat = v := UInt8.toNat_ofNat_of_lt' hv
  simp only [u8s, List.map_set, this]
theorem set_ne {l : List UInt8} {i : Int} (h0 : 0 ≤ i) (h : i < l.length) : l ≠ l.set i.toNat (UInt8.ofNat (xor8 (l.getD i.toNat 0).toNat 1)) := fun e => by
  have hi : i.toNat < l.length := by omega
  have h1 := congrArg (fun z => z[i.toNat]?) e
  simp only [List.getElem?_set_self hi] at h1
  rw [List.getElem?_eq_getElem hi, Option.some.injEq] at h1
  have h2 := congrArg UInt8.toNat h1
  rw [UInt8.toNat_ofNat_of_lt' (xor8_lt _ _), List.getD_eq_getElem?_getD, List.getElem?_eq_getElem hi, Option.getD_some] at h2
  have h3 := UInt8.toNat_lt l[i.toNat]
  revert h2 h3
  generalize l[i.toNat].toNat = n
  intro h2 h3
  have : ∀ n : Fin 256, n.val ≠ xor8 n.val 1 := by decide +kernel
  exact this ⟨n, h3⟩ h2
set_option maxRecDepth 100000 in
theorem eq_calls (a b : List UInt8) (at_ : Int) (ha : a.length < 140737488355328) (hb : b.length < 140737488355328) (h0 : -9223372036854775808 ≤ at_) (h1 : at_ < 9223372036854775808) : LCalls Tryd.prog 7 [Bytes a .unk, Bytes b .unk, i64 at_] [kw] (fun r H' => r = bl true ∧ H' = [kw]) := by
  refine LCalls.of Tryd.func7 rfl Tryd.ntmps7 Tryd.results7 rfl (fun Rf => ?_)
  refine LW.seq ?_
  refine LW.region ?_
  refine X.u (LU.assignR Is.rfl') rfl ?_
  refine LL.nil (after_code ?_)
  refine LW.seq ?_
  refine LW.region ?_
  refine X.act (X.litO rfl Tryd.underlying22 Tryd.sizeOf5 Tryd.zeroValue5 (ones rfl) rfl (by decide) (by decide) Elems.nil (by simp) rfl (fun b8 => ?_))
  refine X.u (LU.moveS Is.rfl') rfl ?_
  refine X.act (X.appendO (z := (.int .u8 0)) 0 rfl rfl Tryd.underlying22 (El.of (P := Tryd.prog) (z := (.int .u8 0)) (size := 1) (bytes := 1) rfl rfl rfl) (ones rfl) Is.rfl' Is.rfl' (by simp) (SrcL.slice Tryd.underlying22 (by decide) (by exact byteEls_size _)) (by simp only [Option.getD_some, Option.getD_none, byteEls_length, intEls_length, List.length_append, List.length_cons, List.length_nil, List.length_map, List.length_drop, List.length_take, Int.toNat_natCast]; omega) (by simp only [Option.getD_some, Option.getD_none, byteEls_length, intEls_length, List.length_append, List.length_cons, List.length_nil, List.length_map, List.length_drop, List.length_take, Int.toNat_natCast]; omega) (fun b10 c10 rest10 hc10 hr10 => ?_))
  refine X.u (LU.assignR Is.rfl') rfl ?_
  refine LL.nil (after_code ?_)
  refine LW.seq ?_
  refine LW.seq ?_
  rw [byteEls_flat]
  have hl10 : (byteEls a).length = a.length := byteEls_length a
  refine X.drawM 15 rfl (by kernel_rfl) rfl ?_
  refine QD.u (LU.moveS Is.rfl') rfl ?_
  refine QD.u (LU.moveS Is.rfl') rfl ?_
  refine QD.u (LU.call (equal_calls a b .unk .unk (by omega) (by omega)) Tryd.func21 rfl rfl (Opds.cons Is.rfl' (Opds.cons Is.rfl' Opds.nil))) rfl ?_
  refine QD.u (LU.moveS Is.rfl') rfl ?_
  refine QD.u (LU.tostr Tryd.underlying22 Tryd.underlying5 Tryd.underlying9 Is.rfl') rfl ?_
  refine QD.u (LU.moveS Is.rfl') rfl ?_
  refine QD.u (LU.tostr Tryd.underlying22 Tryd.underlying5 Tryd.underlying9 Is.rfl') rfl ?_
  refine QD.u (LU.streqN Is.rfl' Is.rfl') rfl ?_
  refine QD.u (LU.weak (LU.boolne Tryd.underlying4 Is.rfl' Is.rfl') (asB (c := false) rfl (by simp))) rfl ?_
  refine QD.u (LU.moveR Is.rfl') rfl ?_
  refine QD.doF rfl rfl (LU.moveS (by exact Is.rfl')) rfl ?_
  refine QD.doF rfl rfl (LU.moveR (by exact Is.rfl')) rfl ?_
  refine QD.doF rfl rfl (LU.lend (equal_calls a a .unk .unk (by omega) (by omega)) Tryd.func21 rfl rfl (OpdsL.cons (by exact IsL.rfl') (OpdsL.cons (by exact IsL.bytes 0 rfl Is.rfl' hl10.symm hc10) OpdsL.nil))) rfl ?_
  refine QD.doF rfl rfl (LU.weak (LU.not (by exact Is.rfl')) (asB (c := false) rfl (by simp))) rfl ?_
  refine QD.u (LU.pickF Is.rfl' (by exact Is.rfl')) rfl ?_
  refine QD.nil ?_
  refine LL.nil (after_code ?_)
  refine X.condF rfl ?_ ?_
  · rfl
  refine LW.skip (after_code ?_)
  refine LW.seq ?_
  refine LW.seq ?_
  refine LW.region ?_
  refine X.u (LU.moveR Is.rfl') rfl ?_
  refine X.u (LU.lss Is.rfl' Is.rfl') rfl ?_
  refine X.u (LU.moveR Is.rfl') rfl ?_
  refine X.gF rfl rfl (fun hg => LU.moveR (by exact Is.rfl')) rfl ?_
  refine X.gF rfl rfl (fun hg => LU.moveR (by exact Is.rfl')) rfl ?_
  refine X.gF rfl rfl (fun hg => LU.lenO Tryd.underlying22 (by exact Is.whenN hg)) rfl ?_
  refine X.gF rfl rfl (fun hg => LU.geq (by exact Is.whenN hg) (by exact Is.whenN hg)) rfl ?_
  refine X.u (LU.pickOr Is.rfl' Is.rfl' (fun hq => (by exact Is.whenN hq))) rfl ?_
  refine LL.nil (after_code ?_)
  refine X.cond rfl (fun h4 => ?_) (fun h4 => ?_)
  · try have h4 := of_decide_eq_true h4
    refine LW.seq ?_
    refine LW.region ?_
    refine X.u (LU.call1 1 rfl (lives_calls) Tryd.func13 rfl rfl Opds.nil) rfl ?_
    refine X.u (LU.assignR Is.rfl') rfl ?_
    refine LL.nil (after_code ?_)
    refine LW.ret (ret_code (after_end ?_))
    refine X.ret (H' := [kw]) (Res.one (by exact IsR rfl)) (by repeat (first | exact HSub.refl _ | refine HSub.pick 0 rfl ?_ | refine HSub.pick 1 rfl ?_ | refine HSub.pick 2 rfl ?_ | refine HSub.pick 3 rfl ?_ | refine HSub.pick 4 rfl ?_ | refine HSub.drop ?_)) ?_
    exact ⟨rfl, rfl⟩
  · have hat : 0 ≤ at_ ∧ at_ < a.length := by simp at h4; omega
    refine LW.skip (after_code ?_)
    refine LW.seq ?_
    refine LW.region ?_
    refine X.u (LU.moveR Is.rfl') rfl ?_
    refine X.u (LU.moveR Is.rfl') rfl ?_
    refine X.u (LU.atO Tryd.underlying22 Tryd.sizeOf5 Is.rfl' Is.rfl' (by omega) (by omega)) rfl ?_
    refine X.u (LU.loadO 0 rfl ⟨Tryd.sizeOf5, Tryd.isAgg5⟩ Is.rfl' (Part.one (u8s_get (by omega) (by omega)))) rfl ?_
    refine X.u (LU.xor8 Is.rfl' Is.rfl') rfl ?_
    refine X.u (LU.atO Tryd.underlying22 Tryd.sizeOf5 Is.rfl' Is.rfl' (by omega) (by omega)) rfl ?_
    refine X.act (X.store 0 rfl Tryd.sizeOf5 Is.rfl' Is.rfl' (by exact Cells.raw rfl) (by (simp; done)) (by (simp; omega)) ?_)
    refine LL.nil (after_code ?_)
    refine LW.seq ?_
    refine X.wcells (u8s_put (xor8_lt _ _) hat.1 hat.2) ?_
    refine LW.region ?_
    refine X.u (LU.moveS Is.rfl') rfl ?_
    refine X.u (LU.moveR Is.rfl') rfl ?_
    refine X.u (LU.lend (equal_calls a (a.set at_.toNat (UInt8.ofNat (xor8 (a.getD at_.toNat 0).toNat 1))) .unk .unk (by omega) (by simp; omega)) Tryd.func21 rfl rfl (OpdsL.cons (by exact IsL.rfl') (OpdsL.cons (by exact IsL.bytes 0 rfl Is.rfl' (by rw [hl10]; simp) hc10) OpdsL.nil))) rfl ?_
    refine X.u (LU.weak (LU.not Is.rfl') (asB (c := true) rfl (by simp; exact set_ne hat.1 hat.2))) rfl ?_
    refine X.u (LU.moveR Is.rfl') rfl ?_
    refine X.doT rfl rfl (LU.call1 1 rfl (lives_calls) Tryd.func13 rfl rfl Opds.nil) rfl ?_
    refine X.u (LU.pickT Is.rfl' (by exact Is.rfl')) rfl ?_
    refine X.u (LU.assignR Is.rfl') rfl ?_
    refine LL.nil (after_code ?_)
    refine LW.ret (after_end ?_)
    refine X.ret (H' := [kw]) (Res.one (by exact IsR rfl)) (by repeat (first | exact HSub.refl _ | refine HSub.pick 0 rfl ?_ | refine HSub.pick 1 rfl ?_ | refine HSub.pick 2 rfl ?_ | refine HSub.pick 3 rfl ?_ | refine HSub.pick 4 rfl ?_ | refine HSub.drop ?_)) ?_
    exact ⟨rfl, rfl⟩
theorem HashEqual_row (x0 x1 : List (List LV)) (at_ : Int) (h0 : ∀ c ∈ x0, QInt .u8 c) (h1 : x0.length * 1 ≤ reachBytes) (h2 : ∀ c ∈ x1, QInt .u8 c) (h3 : x1.length * 1 ≤ reachBytes) (h4 : (Lit.int .i64 at_).wf = true) : LCalls Tryd.prog 7 [.sl 1 x0 .unk, .sl 1 x1 .unk, i64 at_] [kw] (fun r H' => r = bl true ∧ H' = [kw]) := by
  obtain ⟨a, rfl⟩ := decode_bytes h0
  obtain ⟨b, rfl⟩ := decode_bytes h2
  rw [byteEls_length] at h1 h3
  have hr := reachBytes_lt
  have hw := wf_i64 h4
  exact eq_calls a b at_ (by omega) (by omega) hw.1 hw.2
end Go.Proofs.YtlkkajflgpmacaaDoor
