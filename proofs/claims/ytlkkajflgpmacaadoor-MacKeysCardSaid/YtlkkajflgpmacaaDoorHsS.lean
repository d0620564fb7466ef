/- The digests that everybody knows. -/
import Derived.Test.YtlkkajflgpmacaaDoorHsM
import Derived.Test.YtlkkajflgpmacaaDoorLogQ
set_option linter.unusedVariables false
set_option linter.unusedSimpArgs false
namespace Go.Proofs.YtlkkajflgpmacaaDoor
open Go.RowKit Go.L
theorem obs_lt (s : S8) (i : Nat) : ∀ x ∈ obs s i, x < 256 := fun x hx => by
  unfold obs at hx
  rcases List.mem_append.1 hx with h | h
  · obtain ⟨j, _, rfl⟩ := List.mem_map.1 h
    unfold ob
    exact Nat.mod_lt _ (by decide)
  · rw [(List.mem_replicate.1 h).2]; decide
theorem sha_lt (b : List UInt8) : ∀ x ∈ sha b, x < 256 := obs_lt _ _
/-- A digest's bytes. -/
def shaB (b : List UInt8) : List UInt8 := (sha b).map UInt8.ofNat
theorem shaB_len (b : List UInt8) : (shaB b).length = 32 := by simp [shaB]
theorem singles_bytes {l : List Nat} {n : Nat} (h : l.length = n) (hb : ∀ x ∈ l, x < 256) : singles (((l.map u8).drop 0).take n) = byteEls (l.map UInt8.ofNat) := by
  rw [List.drop_zero, List.take_of_length_le (by simp; omega)]
  simp only [singles, byteEls, List.map_map]
  refine List.map_congr_left fun x hx => ?_
  show [LV.raw (.int .u8 (x : Int))] = [LV.raw (.int .u8 ((UInt8.ofNat x).toNat : Int))]
  rw [UInt8.toNat_ofNat_of_lt' (hb x hx)]
def txt56 : List UInt8 := [97, 98, 99, 100, 98, 99, 100, 101, 99, 100, 101, 102, 100, 101, 102, 103, 101, 102, 103, 104, 102, 103, 104, 105, 103, 104, 105, 106, 104, 105, 106, 107, 105, 106, 107, 108, 106, 107, 108, 109, 107, 108, 109, 110, 108, 109, 110, 111, 109, 110, 111, 112, 110, 111, 112, 113]
def hexL (s : String) : List UInt8 := s.toUTF8.data.toList
abbrev K56 : List UInt8 := [50, 52, 56, 100, 54, 97, 54, 49, 100, 50, 48, 54, 51, 56, 98, 56, 101, 53, 99, 48, 50, 54, 57, 51, 48, 99, 51, 101, 54, 48, 51, 57, 97, 51, 51, 99, 101, 52, 53, 57, 54, 52, 102, 102, 50, 49, 54, 55, 102, 54, 101, 99, 101, 100, 100, 52, 49, 57, 100, 98, 48, 54, 99, 49]
abbrev Kabc : List UInt8 := [98, 97, 55, 56, 49, 54, 98, 102, 56, 102, 48, 49, 99, 102, 101, 97, 52, 49, 52, 49, 52, 48, 100, 101, 53, 100, 97, 101, 50, 50, 50, 51, 98, 48, 48, 51, 54, 49, 97, 51, 57, 54, 49, 55, 55, 97, 57, 99, 98, 52, 49, 48, 102, 102, 54, 49, 102, 50, 48, 48, 49, 53, 97, 100]
theorem known_56 : hexB (shaB txt56) = K56 := by decide +kernel
theorem known_abc : hexB (shaB [97, 98, 99]) = Kabc := by decide +kernel
set_option maxRecDepth 100000 in
theorem known_calls : LCalls Tryd.prog 4 [] [kw] (fun r H' => r = bl true ∧ H' = [kw]) := by
  obtain ⟨x, hx⟩ : ∃ x, x = sha txt56 := ⟨_, rfl⟩
  obtain ⟨y, hy⟩ : ∃ y, y = sha [97, 98, 99] := ⟨_, rfl⟩
  have hxl : x.length = 32 := by rw [hx, sha_len]
  have hyl : y.length = 32 := by rw [hy, sha_len]
  have hxb : ∀ z ∈ x, z < 256 := by rw [hx]; exact sha_lt _
  have hyb : ∀ z ∈ y, z < 256 := by rw [hy]; exact sha_lt _
  have hx0 : hexB (x.map UInt8.ofNat) = K56 := by rw [hx]; exact known_56
  have hy0 : hexB (y.map UInt8.ofNat) = Kabc := by rw [hy]; exact known_abc
  have hcx := hash_calls txt56 .unk (by decide)
  have hcy := hash_calls [97, 98, 99] .unk (by decide)
  rw [← hx] at hcx
  rw [← hy] at hcy
  have hsx := singles_bytes hxl hxb
  have hsy := singles_bytes hyl hyb
  clear hx hy
  refine LCalls.of Tryd.func4 rfl Tryd.ntmps4 Tryd.results4 rfl (fun Rf => ?_)
  refine LW.seq ?_
  refine LW.region ?_
  refine X.u (LU.assignR Is.rfl') rfl ?_
  refine LL.nil (after_code ?_)
  refine LW.seq ?_
  refine LW.region ?_
  refine X.act (X.litO rfl Tryd.underlying22 Tryd.sizeOf5 Tryd.zeroValue5 (ones rfl) rfl (by decide) (by decide) (Elems.cons Is.rfl' (by exact Cells.raw rfl) (Elems.cons Is.rfl' (by exact Cells.raw rfl) (Elems.cons Is.rfl' (by exact Cells.raw rfl) (Elems.cons Is.rfl' (by exact Cells.raw rfl) (Elems.cons Is.rfl' (by exact Cells.raw rfl) (Elems.cons Is.rfl' (by exact Cells.raw rfl) (Elems.cons Is.rfl' (by exact Cells.raw rfl) (Elems.cons Is.rfl' (by exact Cells.raw rfl) (Elems.cons Is.rfl' (by exact Cells.raw rfl) (Elems.cons Is.rfl' (by exact Cells.raw rfl) (Elems.cons Is.rfl' (by exact Cells.raw rfl) (Elems.cons Is.rfl' (by exact Cells.raw rfl) (Elems.cons Is.rfl' (by exact Cells.raw rfl) (Elems.cons Is.rfl' (by exact Cells.raw rfl) (Elems.cons Is.rfl' (by exact Cells.raw rfl) (Elems.cons Is.rfl' (by exact Cells.raw rfl) (Elems.cons Is.rfl' (by exact Cells.raw rfl) (Elems.cons Is.rfl' (by exact Cells.raw rfl) (Elems.cons Is.rfl' (by exact Cells.raw rfl) (Elems.cons Is.rfl' (by exact Cells.raw rfl) (Elems.cons Is.rfl' (by exact Cells.raw rfl) (Elems.cons Is.rfl' (by exact Cells.raw rfl) (Elems.cons Is.rfl' (by exact Cells.raw rfl) (Elems.cons Is.rfl' (by exact Cells.raw rfl) (Elems.cons Is.rfl' (by exact Cells.raw rfl) (Elems.cons Is.rfl' (by exact Cells.raw rfl) (Elems.cons Is.rfl' (by exact Cells.raw rfl) (Elems.cons Is.rfl' (by exact Cells.raw rfl) (Elems.cons Is.rfl' (by exact Cells.raw rfl) (Elems.cons Is.rfl' (by exact Cells.raw rfl) (Elems.cons Is.rfl' (by exact Cells.raw rfl) (Elems.cons Is.rfl' (by exact Cells.raw rfl) (Elems.cons Is.rfl' (by exact Cells.raw rfl) (Elems.cons Is.rfl' (by exact Cells.raw rfl) (Elems.cons Is.rfl' (by exact Cells.raw rfl) (Elems.cons Is.rfl' (by exact Cells.raw rfl) (Elems.cons Is.rfl' (by exact Cells.raw rfl) (Elems.cons Is.rfl' (by exact Cells.raw rfl) (Elems.cons Is.rfl' (by exact Cells.raw rfl) (Elems.cons Is.rfl' (by exact Cells.raw rfl) (Elems.cons Is.rfl' (by exact Cells.raw rfl) (Elems.cons Is.rfl' (by exact Cells.raw rfl) (Elems.cons Is.rfl' (by exact Cells.raw rfl) (Elems.cons Is.rfl' (by exact Cells.raw rfl) (Elems.cons Is.rfl' (by exact Cells.raw rfl) (Elems.cons Is.rfl' (by exact Cells.raw rfl) (Elems.cons Is.rfl' (by exact Cells.raw rfl) (Elems.cons Is.rfl' (by exact Cells.raw rfl) (Elems.cons Is.rfl' (by exact Cells.raw rfl) (Elems.cons Is.rfl' (by exact Cells.raw rfl) (Elems.cons Is.rfl' (by exact Cells.raw rfl) (Elems.cons Is.rfl' (by exact Cells.raw rfl) (Elems.cons Is.rfl' (by exact Cells.raw rfl) (Elems.cons Is.rfl' (by exact Cells.raw rfl) (Elems.cons Is.rfl' (by exact Cells.raw rfl) (Elems.cons Is.rfl' (by exact Cells.raw rfl) Elems.nil)))))))))))))))))))))))))))))))))))))))))))))))))))))))) (by simp) rfl (fun b3 => ?_))
  refine X.act (X.mark (size := 1) 0 rfl rfl Tryd.underlying22 Tryd.underlying5 Is.rfl' (by simp) rfl (Nat.le_refl _) ?_)
  refine X.u (LU.call1 0 rfl (hcx) Tryd.func14 rfl rfl (Opds.cons Is.rfl' Opds.nil)) rfl ?_
  refine X.act (X.alloc rfl Tryd.zeroValue25 (by exact Cells.rawagg (by decide)) (fun b1 => ?_))
  refine X.act (X.store 0 rfl Tryd.sizeOf25 Is.rfl' Is.rfl' (by exact Cells.agg) (by (simp; omega)) (by exact Nat.le_of_ble_eq_true rfl) ?_)
  refine LL.nil (after_code ?_)
  refine LW.seq ?_
  refine LW.region ?_
  refine X.act (X.litO rfl Tryd.underlying22 Tryd.sizeOf5 Tryd.zeroValue5 (ones rfl) rfl (by decide) (by decide) (Elems.cons Is.rfl' (by exact Cells.raw rfl) (Elems.cons Is.rfl' (by exact Cells.raw rfl) (Elems.cons Is.rfl' (by exact Cells.raw rfl) Elems.nil))) (by simp) rfl (fun b6 => ?_))
  refine X.act (X.mark (size := 1) 0 rfl rfl Tryd.underlying22 Tryd.underlying5 Is.rfl' (by simp) rfl (Nat.le_refl _) ?_)
  refine X.u (LU.call1 1 rfl (hcy) Tryd.func14 rfl rfl (Opds.cons Is.rfl' Opds.nil)) rfl ?_
  refine X.act (X.alloc rfl Tryd.zeroValue25 (by exact Cells.rawagg (by decide)) (fun b2 => ?_))
  refine X.act (X.store 0 rfl Tryd.sizeOf25 Is.rfl' Is.rfl' (by exact Cells.agg) (by (simp; omega)) (by exact Nat.le_of_ble_eq_true rfl) ?_)
  refine LL.nil (after_code ?_)
  refine LW.seq ?_
  rw [putAt_all (by simp [raws, hyl]), putAt_all (by simp [raws, hxl])]
  refine LW.know 1 rfl ?_
  refine LW.know 1 rfl ?_
  refine LW.region ?_
  refine X.u (LU.weak (LU.sliceKA 1 rfl Tryd.underlying25 Tryd.sizeOf5 Is.rfl' (by (simp; omega))) (Is.of (y := Bytes (x.map UInt8.ofNat) .full) (congrArg (fun z => LV.sl 1 z .full) hsx))) rfl ?_
  refine X.u (LU.weak (LU.call (hex_calls (x.map UInt8.ofNat) .full (by simp [hxl])) Tryd.func16 rfl rfl (Opds.cons Is.rfl' Opds.nil)) (Is.of (y := Str (hexB (x.map UInt8.ofNat))) (rfl))) rfl ?_
  refine X.u (LU.weak (LU.streqN Is.rfl' Is.rfl') (asB (c := true) rfl (by exact decide_eq_true hx0))) rfl ?_
  refine X.u (LU.moveR Is.rfl') rfl ?_
  refine X.doT rfl rfl (LU.weak (LU.sliceKA 0 rfl Tryd.underlying25 Tryd.sizeOf5 (by exact Is.rfl') (by (simp; omega))) (Is.of (y := Bytes (y.map UInt8.ofNat) .full) (congrArg (fun z => LV.sl 1 z .full) hsy))) rfl ?_
  refine X.doT rfl rfl (LU.call (hex_calls (y.map UInt8.ofNat) .full (by simp [hyl])) Tryd.func16 rfl rfl (Opds.cons (by exact Is.rfl') Opds.nil)) rfl ?_
  refine X.doT rfl rfl (LU.weak (LU.streqN (by exact Is.rfl') (by exact Is.rfl')) (asB (c := true) rfl (by exact decide_eq_true hy0))) rfl ?_
  refine X.u (LU.pickT Is.rfl' (by exact Is.rfl')) rfl ?_
  refine X.u (LU.moveR Is.rfl') rfl ?_
  refine X.doT rfl rfl (LU.call1 2 rfl (lives_calls) Tryd.func13 rfl rfl Opds.nil) rfl ?_
  refine X.u (LU.pickT Is.rfl' (by exact Is.rfl')) rfl ?_
  refine X.u (LU.assignR Is.rfl') rfl ?_
  refine LL.nil (after_code ?_)
  refine LW.ret (after_end ?_)
  refine X.ret (H' := [kw]) (Res.one (by exact IsR rfl)) (by repeat (first | exact HSub.refl _ | refine HSub.pick 0 rfl ?_ | refine HSub.pick 1 rfl ?_ | refine HSub.pick 2 rfl ?_ | refine HSub.pick 3 rfl ?_ | refine HSub.pick 4 rfl ?_ | refine HSub.drop ?_)) ?_
  exact ⟨rfl, rfl⟩
theorem HashKnown_row : LCalls Tryd.prog 4 [] [kw] (fun r H' => r = bl true ∧ H' = [kw]) := known_calls
end Go.Proofs.YtlkkajflgpmacaaDoor
