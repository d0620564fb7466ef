/- Keyed digests, in the program. -/
import Derived.Test.YtnfeepmgdahmgaaDoorHsT
import Derived.Test.YtnfeepmgdahmgaaDoorLgC
set_option linter.unusedVariables false
set_option linter.unusedSimpArgs false
namespace Go.Proofs.YtnfeepmgdahmgaaDoor
open Go.RowKit Go.L
attribute [local irreducible] LL LW LO
/-- A key's 64 bytes. -/
def pad64 (l : List UInt8) : List UInt8 := l ++ List.replicate (64 - l.length) 0
def bk (key : List UInt8) : List UInt8 := if 64 < key.length then pad64 (shaB key) else pad64 key
theorem pad64_len {l : List UInt8} (h : l.length ≤ 64) : (pad64 l).length = 64 := by simp [pad64]; omega
@[simp] theorem bk_len (key : List UInt8) : (bk key).length = 64 := by
  unfold bk
  split
  · exact pad64_len (by rw [shaB_len]; omega)
  · exact pad64_len (by omega)
theorem put_padN {n : Nat} {l : List UInt8} (h : l.length ≤ n) : putAt (raws (List.replicate n (.int .u8 0))) 0 ((byteEls l).flatten.take (min (byteEls l).length n)) = u8s (l ++ List.replicate (n - l.length) 0) := by
  rw [byteEls_flat, byteEls_length, List.take_of_length_le (by simp; omega)]
  unfold putAt u8s
  rw [List.map_append]
  simp [raws]
theorem put_pad {l : List UInt8} (h : l.length ≤ 64) : putAt (raws (List.replicate 64 (.int .u8 0))) 0 ((byteEls l).flatten.take (min (byteEls l).length 64)) = u8s (pad64 l) := put_padN h
def xb (x : Nat) (B : List UInt8) : List UInt8 := B.map fun b => UInt8.ofNat (xor8 b.toNat x)
@[simp] theorem xb_len (x : Nat) (B : List UInt8) : (xb x B).length = B.length := by simp [xb]
/-- The tag that the document defines. -/
def tag (key msg : List UInt8) : List Nat := sha (xb 92 (bk key) ++ shaB (xb 54 (bk key) ++ msg))
@[simp] theorem tag_len (key msg : List UInt8) : (tag key msg).length = 32 := by unfold tag; rw [sha_len]
theorem tag_lt (key msg : List UInt8) : ∀ x ∈ tag key msg, x < 256 := sha_lt _
theorem singles_u8s {L : List UInt8} {n : Nat} (h : L.length = n) : singles (((u8s L).drop 0).take n) = byteEls L := by
  rw [List.drop_zero, List.take_of_length_le (by simp; omega)]
  simp [singles, byteEls]
set_option maxRecDepth 100000 in
theorem mblock_calls (key : List UInt8) (k : Cap) (hk : key.length < 1099511627776) : LCalls Tryd.prog 83 [Bytes key k] [kw] (fun r H' => r = .agg (u8s (bk key)) ∧ H' = [kw]) := by
  have hsl := sha_len key
  have hsb := singles_bytes hsl (sha_lt key)
  refine LCalls.of Tryd.func83 rfl Tryd.ntmps83 Tryd.results83 rfl (fun Rf => ?_)
  refine LW.seq ?_
  refine LW.region ?_
  refine X.act (X.alloc rfl Tryd.zeroValue145 (by exact Cells.rawagg (by decide)) (fun b2 => ?_))
  refine LL.nil (after_code ?_)
  refine LW.seq ?_
  refine LW.region ?_
  refine X.act (X.alloc rfl Tryd.zeroValue145 (by exact Cells.rawagg (by decide)) (fun b3 => ?_))
  refine LL.nil (after_code ?_)
  refine LW.seq ?_
  refine LW.seq ?_
  refine LW.region ?_
  refine X.u (LU.moveS Is.rfl') rfl ?_
  refine X.u (LU.lenN Tryd.underlying22 Is.rfl' (by (simp only [Option.getD_some, Option.getD_none, byteEls_length, intEls_length, List.length_append, List.length_cons, List.length_nil, List.length_map, List.length_drop, List.length_take, Int.toNat_natCast]; rfl))) rfl ?_
  refine X.u (LU.gtr Is.rfl' Is.rfl') rfl ?_
  refine LL.nil (after_code ?_)
  refine X.cond rfl (fun h2 => ?_) (fun h2 => ?_)
  · have h2 := of_decide_eq_true h2
    have hbk : bk key = pad64 (shaB key) := by unfold bk; rw [if_pos (by omega)]
    refine LW.seq ?_
    refine LW.region ?_
    refine X.u (LU.moveS Is.rfl') rfl ?_
    refine X.act (X.call (hash_calls key k hk) Tryd.func103 rfl rfl rfl (by (refine HSub.pick 2 rfl ?_); exact HSub.refl _) (Opds.cons Is.rfl' Opds.nil) ?_)
    rintro r H' ⟨rfl, rfl⟩
    refine X.act (X.alloc rfl Tryd.zeroValue95 (by exact Cells.rawagg (by decide)) (fun b4 => ?_))
    refine X.act (X.store 0 rfl Tryd.sizeOf95 Is.rfl' Is.rfl' (by exact Cells.agg) (by (simp; done)) (by exact Nat.le_of_ble_eq_true rfl) ?_)
    refine LL.nil (after_code ?_)
    refine LW.seq ?_
    rw [putAt_all (by simp [raws])]
    refine LW.know 0 rfl ?_
    refine X.drawM 2 rfl (by kernel_rfl) rfl ?_
    refine QD.u (LU.sliceOA Tryd.underlying145 Tryd.sizeOf5 Is.rfl') rfl ?_
    refine QD.u (LU.weak (LU.sliceKA 0 rfl Tryd.underlying95 Tryd.sizeOf5 Is.rfl' (by (simp; done))) (Is.of (y := Bytes (shaB key) .full) (congrArg (fun z => LV.sl 1 z .full) hsb))) rfl ?_
    refine QD.nil ?_
    refine X.act (X.copy 2 rfl rfl Tryd.underlying22 (El.of (P := Tryd.prog) (z := (.int .u8 0)) (size := 1) (bytes := 1) rfl rfl rfl) Is.rfl' Is.rfl' (by exact Nat.le_of_ble_eq_true rfl) ?_)
    refine LL.nil (after_code ?_)
    refine LW.seq ?_
    refine X.wcells ((put_pad (by rw [shaB_len]; omega)).trans (congrArg u8s hbk.symm)) ?_
    refine LW.region ?_
    refine X.u (LU.loadO 0 rfl ⟨Tryd.sizeOf145, Tryd.isAgg145⟩ Is.rfl' (Part.whole (by (simp; done)))) rfl ?_
    refine X.act (X.store 3 rfl Tryd.sizeOf145 Is.rfl' Is.rfl' (by exact Cells.agg) (by (simp; done)) (by exact Nat.le_of_ble_eq_true rfl) ?_)
    refine LL.nil (after_code ?_)
    refine LW.ret (ret_code (after_end ?_))
    rw [putAt_all (by simp [raws])]
    refine X.ret (H' := [kw]) (by exact Res.cell1 0 rfl rfl ⟨Tryd.sizeOf145, Tryd.isAgg145⟩ (Part.whole (by (simp; done))) (by exact IsA rfl)) (by repeat (first | exact HSub.refl _ | refine HSub.pick 3 rfl ?_ | refine HSub.drop ?_)) ?_
    exact ⟨rfl, rfl⟩
  · have h2 := of_decide_eq_false h2
    have hbk : bk key = pad64 key := by unfold bk; rw [if_neg (by omega)]
    refine LW.skip (after_code ?_)
    refine LW.seq ?_
    refine LW.region ?_
    refine X.u (LU.sliceOA Tryd.underlying145 Tryd.sizeOf5 Is.rfl') rfl ?_
    refine X.u (LU.moveS Is.rfl') rfl ?_
    refine X.act (X.copy 0 rfl rfl Tryd.underlying22 (El.of (P := Tryd.prog) (z := (.int .u8 0)) (size := 1) (bytes := 1) rfl rfl rfl) Is.rfl' Is.rfl' (by exact Nat.le_of_ble_eq_true rfl) ?_)
    refine LL.nil (after_code ?_)
    refine LW.seq ?_
    refine X.wcells ((put_pad (by omega)).trans (congrArg u8s hbk.symm)) ?_
    refine LW.region ?_
    refine X.u (LU.loadO 0 rfl ⟨Tryd.sizeOf145, Tryd.isAgg145⟩ Is.rfl' (Part.whole (by (simp; done)))) rfl ?_
    refine X.act (X.store 1 rfl Tryd.sizeOf145 Is.rfl' Is.rfl' (by exact Cells.agg) (by (simp; done)) (by exact Nat.le_of_ble_eq_true rfl) ?_)
    refine LL.nil (after_code ?_)
    refine LW.ret (after_end ?_)
    rw [putAt_all (by simp [raws])]
    refine X.ret (H' := [kw]) (by exact Res.cell1 0 rfl rfl ⟨Tryd.sizeOf145, Tryd.isAgg145⟩ (Part.whole (by (simp; done))) (by exact IsA rfl)) (by repeat (first | exact HSub.refl _ | refine HSub.pick 2 rfl ?_ | refine HSub.drop ?_)) ?_
    exact ⟨rfl, rfl⟩
theorem u8s_step {l : List UInt8} {rest : List LV} {k : Nat} {v : Nat} (hv : v < 256) (h : k < l.length) : putAt (u8s l ++ rest) (0 + (k : Int).toNat * 1) [u8 v] = u8s (l.set k (UInt8.ofNat v)) ++ rest := by
  have := u8s_put (l := l) (rest := rest) (i := (k : Int)) hv (by omega) (by omega)
  rwa [Int.toNat_natCast] at this
theorem xb_step {x : Nat} {B : List UInt8} (hB : B.length = 64) {i : Nat} (hi : i < 64) : putAt (u8s ((xb x B).take i ++ List.replicate (64 - i) 0)) (0 + (i : Int).toNat * 1) [u8 (xor8 (B.getD i 0).toNat x)] = u8s ((xb x B).take (i + 1) ++ List.replicate (64 - (i + 1)) 0) := by
  have hl : ((xb x B).take i ++ List.replicate (64 - i) (0 : UInt8)).length = 64 := by simp [hB]; omega
  have h1 := u8s_step (l := (xb x B).take i ++ List.replicate (64 - i) 0) (rest := []) (k := i) (xor8_lt (B.getD i 0).toNat x) (by omega)
  rw [List.append_nil, List.append_nil] at h1
  rw [h1]
  congr 1
  have hxi : i < (xb x B).length := by rw [xb_len]; omega
  rw [List.take_succ_eq_append_getElem hxi, List.append_assoc]
  have ht : ((xb x B).take i).length = i := by simp [hB]; omega
  rw [List.set_append_right _ _ (by omega), ht, Nat.sub_self, show 64 - i = (64 - (i + 1)) + 1 by omega, List.replicate_succ, List.set_cons_zero]
  simp [xb, List.getD, show i < B.length by omega]
set_option maxRecDepth 100000 in
theorem around_calls (x : Nat) (rest B : List UInt8) (k : Cap) (g : Nat) (hB : B.length = 64) (hr : rest.length < 1099511000000) : LCalls Tryd.prog 84 [u8 x, Bytes rest k, pt g] [.known g (u8s B), kw] (fun r H' => r = D32 (sha (xb x B ++ rest)) ∧ H' = [.known g (u8s B), kw]) := by
  have hxl : (xb x B).length = 64 := by rw [xb_len, hB]
  refine LCalls.of Tryd.func84 rfl Tryd.ntmps84 Tryd.results84 rfl (fun Rf => ?_)
  refine LW.seq ?_
  refine LW.region ?_
  refine X.act (X.alloc rfl Tryd.zeroValue95 (by exact Cells.rawagg (by decide)) (fun b5 => ?_))
  refine LL.nil (after_code ?_)
  refine LW.seq ?_
  refine LW.region ?_
  refine X.act (X.call (newT) Tryd.func85 rfl rfl rfl (HSub.refl _) Opds.nil ?_)
  rintro r H' ⟨q, rfl, rfl⟩
  refine X.u (LU.assignR Is.rfl') rfl ?_
  refine LL.nil (after_code ?_)
  refine LW.seq ?_
  refine LW.region ?_
  refine X.act (X.alloc rfl Tryd.zeroValue145 (by exact Cells.rawagg (by decide)) (fun b7 => ?_))
  refine LL.nil (after_code ?_)
  refine LW.seq ?_
  refine LW.seq ?_
  refine LW.region ?_
  refine X.u (LU.loadK 4 rfl ⟨Tryd.sizeOf145, Tryd.isAgg145⟩ Is.rfl' (by decide) (by (simp; omega)) (Part.whole (by (simp; omega)))) rfl ?_
  refine X.u (LU.moveR Is.rfl') rfl ?_
  refine LL.nil (after_code ?_)
  refine LW.block ?_
  refine X.wcells (ys := u8s ((xb x B).take 0 ++ List.replicate (64 - 0) 0)) (by rw [List.take_zero]; rfl) ?_
  refine X.loopK (α := Nat) (fun i => [(12, i64 i)]) [0, 1, 5, 6, 7, 11] (fun i => [.cells b7 145 (u8s ((xb x B).take i ++ List.replicate (64 - i) 0)), dgT q [] 0 0 0, .tail 0 0 0, .cells b5 95 (raws (List.replicate 32 (.int .u8 0))), .known g (u8s B), kw] ++ Rf) (fun i => i ≤ 64) (fun i => 64 - i) (0) (EnvLe.cons (by rfl) (EnvLe.nil)) (by repeat (exact HSub.refl _)) ?_ ?_
  · omega
  · rintro i hI
    have hl : ((xb x B).take i ++ List.replicate (64 - i) (0 : UInt8)).length = 64 := by simp [hB]; omega
    refine LW.seq ?_
    refine LW.region ?_
    refine X.u (LU.lss Is.rfl' Is.rfl') rfl ?_
    refine LL.nil (after_code ?_)
    refine LW.seq ?_
    refine X.cond rfl (fun h4 => ?_) (fun h4 => ?_)
    · try have h4 := of_decide_eq_true h4
      refine LW.skip (after_code ?_)
      refine LW.seq ?_
      refine LW.block ?_
      refine LW.seq ?_
      refine LW.region ?_
      refine X.u (LU.moveR Is.rfl') rfl ?_
      refine X.u (LU.indexA Tryd.underlying145 ⟨Tryd.sizeOf5, Tryd.isAgg5⟩ Is.rfl' Is.rfl' (by omega) (by omega) (Part.one (v := u8 (B.getD i 0).toNat) (by simp [List.getD, show i < B.length by omega]))) rfl ?_
      refine X.u (LU.assignR Is.rfl') rfl ?_
      refine X.u (LU.assignR Is.rfl') rfl ?_
      refine LL.nil (after_code ?_)
      refine LW.region ?_
      refine X.u (LU.moveR Is.rfl') rfl ?_
      refine X.u (LU.moveR Is.rfl') rfl ?_
      refine X.u (LU.moveR Is.rfl') rfl ?_
      refine X.u (LU.xor8 Is.rfl' Is.rfl') rfl ?_
      refine X.u (LU.atA Tryd.underlying145 Tryd.sizeOf5 Is.rfl' Is.rfl' (by omega) (by omega)) rfl ?_
      refine X.act (X.store 0 rfl Tryd.sizeOf5 Is.rfl' Is.rfl' (by exact Cells.raw rfl) (by (simp; done)) (by (simp; omega)) ?_)
      refine LL.nil (after_blk (after_code ?_))
      refine X.wcells (xb_step hB (by omega)) ?_
      refine LW.region ?_
      refine X.u (LU.addN Is.rfl' Is.rfl' (wrap_i64 (by omega) (by omega))) rfl ?_
      refine X.u (LU.moveR Is.rfl') rfl ?_
      refine LL.nil (after_rnd ?_)
      refine X.next (i + 1) rfl (EnvLe.cons (by rfl) (EnvLe.nil)) (Keeps.cons (by exact Eq.trans (b := .raw _) rfl rfl) (Keeps.cons (by exact Eq.trans (b := .sl _ _ _) rfl rfl) (Keeps.cons (by exact Eq.trans (b := .raw _) rfl rfl) (Keeps.cons (by exact Eq.trans (b := .raw _) rfl rfl) (Keeps.cons (by exact Eq.trans (b := .raw _) rfl rfl) (Keeps.cons (by exact Eq.trans (b := .agg _) rfl rfl) (Keeps.nil))))))) (by repeat (exact HSub.refl _)) ?_ ?_
      · omega
      · omega
    · try have h4 := of_decide_eq_false h4
      obtain rfl : i = 64 := by omega
      refine LW.exit (exit_code (exit_rnd (exit_blk (after_code ?_))))
      refine LW.seq ?_
      refine X.wcells (ys := u8s (xb x B)) (by simp [hxl, List.take_of_length_le]) ?_
      refine LW.know 0 rfl ?_
      refine LW.region ?_
      refine X.u (LU.moveR Is.rfl') rfl ?_
      refine X.u (LU.weak (LU.sliceKA 0 rfl Tryd.underlying145 Tryd.sizeOf5 Is.rfl' (by (simp; omega))) (Is.of (y := Bytes (xb x B) .full) (congrArg (fun z => LV.sl 1 z .full) (singles_u8s hxl)))) rfl ?_
      refine X.act (X.call (writeT q [] (xb x B) .full 0 0 0 (by simp; omega)) Tryd.func86 rfl rfl rfl (by (refine HSub.pick 1 rfl ?_); (refine HSub.pick 1 rfl ?_); (refine HSub.pick 3 rfl ?_); exact HSub.refl _) (Opds.cons Is.rfl' (Opds.cons Is.rfl' Opds.nil)) ?_)
      rintro r H' ⟨rfl, b1, o1, c1, rfl⟩
      refine LL.nil (after_code ?_)
      refine LW.seq ?_
      refine LW.region ?_
      refine X.u (LU.moveR Is.rfl') rfl ?_
      refine X.u (LU.moveS Is.rfl') rfl ?_
      refine X.act (X.call (writeT q ([] ++ xb x B) rest k b1 o1 c1 (by simp; omega)) Tryd.func86 rfl rfl rfl (by (refine HSub.pick 0 rfl ?_); (refine HSub.pick 0 rfl ?_); (refine HSub.pick 0 rfl ?_); exact HSub.refl _) (Opds.cons Is.rfl' (Opds.cons Is.rfl' Opds.nil)) ?_)
      rintro r H' ⟨rfl, b2, o2, c2, rfl⟩
      refine LL.nil (after_code ?_)
      refine LW.seq ?_
      refine LW.region ?_
      refine X.u (LU.moveR Is.rfl') rfl ?_
      refine X.act (X.call (sumT q ([] ++ xb x B ++ rest) b2 o2 c2 (by simp; omega)) Tryd.func87 rfl rfl rfl (by (refine HSub.pick 0 rfl ?_); (refine HSub.pick 1 rfl ?_); exact HSub.refl _) (Opds.cons Is.rfl' Opds.nil) ?_)
      rintro r H' ⟨rfl, rfl⟩
      refine X.act (X.store 4 rfl Tryd.sizeOf95 Is.rfl' Is.rfl' (by exact Cells.agg) (by (simp; done)) (by exact Nat.le_of_ble_eq_true rfl) ?_)
      refine LL.nil (after_code ?_)
      refine LW.ret (after_end ?_)
      rw [putAt_all (by simp [raws])]
      refine X.ret (H' := [.known g (u8s B), kw]) (by exact Res.cell1 0 rfl rfl ⟨Tryd.sizeOf95, Tryd.isAgg95⟩ (Part.whole (by (simp; done))) (by exact IsA rfl)) (by repeat (first | exact HSub.refl _ | refine HSub.pick 2 rfl ?_ | refine HSub.pick 5 rfl ?_ | refine HSub.drop ?_)) ?_
      exact ⟨by rw [List.nil_append], rfl⟩
set_option maxRecDepth 100000 in
theorem tag_calls (key msg : List UInt8) (k k' : Cap) (hk : key.length < 1099511000000) (hm : msg.length < 1099511000000) : LCalls Tryd.prog 69 [Bytes key k, Bytes msg k'] [kw] (fun r H' => r = D32 (tag key msg) ∧ H' = [kw]) := by
  have hbl := bk_len key
  have hin := sha_len (xb 54 (bk key) ++ msg)
  have hib := singles_bytes hin (sha_lt _)
  refine LCalls.of Tryd.func69 rfl Tryd.ntmps69 Tryd.results69 rfl (fun Rf => ?_)
  refine LW.seq ?_
  refine LW.region ?_
  refine X.act (X.alloc rfl Tryd.zeroValue95 (by exact Cells.rawagg (by decide)) (fun b4 => ?_))
  refine LL.nil (after_code ?_)
  refine LW.seq ?_
  refine LW.region ?_
  refine X.u (LU.moveS Is.rfl') rfl ?_
  refine X.act (X.call (mblock_calls key k (by omega)) Tryd.func83 rfl rfl rfl (by (refine HSub.pick 1 rfl ?_); exact HSub.refl _) (Opds.cons Is.rfl' Opds.nil) ?_)
  rintro r H' ⟨rfl, rfl⟩
  refine X.act (X.alloc rfl Tryd.zeroValue145 (by exact Cells.rawagg (by decide)) (fun b5 => ?_))
  refine X.act (X.store 0 rfl Tryd.sizeOf145 Is.rfl' Is.rfl' (by exact Cells.agg) (by (simp; done)) (by exact Nat.le_of_ble_eq_true rfl) ?_)
  refine LL.nil (after_code ?_)
  refine LW.seq ?_
  rw [putAt_all (by simp [raws])]
  refine LW.know 0 rfl ?_
  refine LW.region ?_
  refine X.u (LU.closure (vs := [_]) (Opds.cons Is.rfl' Opds.nil)) rfl ?_
  refine X.u (LU.assignR Is.rfl') rfl ?_
  refine LL.nil (after_code ?_)
  refine LW.seq ?_
  refine LW.region ?_
  refine X.u (LU.moveR Is.rfl') rfl ?_
  refine X.u (LU.moveS Is.rfl') rfl ?_
  refine X.act (X.callV (around_calls 54 msg (bk key) k' b5 hbl hm) Is.rfl' Tryd.func84 rfl rfl rfl (by (refine HSub.pick 0 rfl ?_); (refine HSub.pick 0 rfl ?_); exact HSub.refl _) (Opds.cons Is.rfl' (Opds.cons Is.rfl' Opds.nil)) ?_)
  rintro r H' ⟨rfl, rfl⟩
  refine X.act (X.alloc rfl Tryd.zeroValue95 (by exact Cells.rawagg (by decide)) (fun b7 => ?_))
  refine X.act (X.store 0 rfl Tryd.sizeOf95 Is.rfl' Is.rfl' (by exact Cells.agg) (by (simp; done)) (by exact Nat.le_of_ble_eq_true rfl) ?_)
  refine LL.nil (after_code ?_)
  refine LW.seq ?_
  rw [putAt_all (by simp [raws])]
  refine LW.know 0 rfl ?_
  refine LW.region ?_
  refine X.u (LU.moveR Is.rfl') rfl ?_
  refine X.u (LU.weak (LU.sliceKA 0 rfl Tryd.underlying95 Tryd.sizeOf5 Is.rfl' (by (simp; done))) (Is.of (y := Bytes (shaB (xb 54 (bk key) ++ msg)) .full) (congrArg (fun z => LV.sl 1 z .full) hib))) rfl ?_
  refine X.act (X.callV (around_calls 92 (shaB (xb 54 (bk key) ++ msg)) (bk key) .full b5 hbl (by rw [shaB_len]; omega)) Is.rfl' Tryd.func84 rfl rfl rfl (by (refine HSub.pick 1 rfl ?_); (refine HSub.pick 1 rfl ?_); exact HSub.refl _) (Opds.cons Is.rfl' (Opds.cons Is.rfl' Opds.nil)) ?_)
  rintro r H' ⟨rfl, rfl⟩
  refine X.act (X.store 3 rfl Tryd.sizeOf95 Is.rfl' Is.rfl' (by exact Cells.agg) (by (simp; done)) (by exact Nat.le_of_ble_eq_true rfl) ?_)
  refine LL.nil (after_code ?_)
  refine LW.ret (after_end ?_)
  rw [putAt_all (by simp [raws])]
  refine X.ret (H' := [kw]) (by exact Res.cell1 0 rfl rfl ⟨Tryd.sizeOf95, Tryd.isAgg95⟩ (Part.whole (by (simp; done))) (by exact IsA rfl)) (by repeat (first | exact HSub.refl _ | refine HSub.pick 2 rfl ?_ | refine HSub.drop ?_)) ?_
  exact ⟨rfl, rfl⟩
end Go.Proofs.YtnfeepmgdahmgaaDoor
