/- Hashes compared: what slices.SortFunc asks of the comparison. -/
import Derived.Test.YtmaeepckfbnpjaaShelf
import Derived.Test.YtmaeepckfbnpjaaLgD
import Derived.Lib.Bytealg
import Derived.Lib.BytesEntry
import Derived.Lib.SlFresh
import Derived.Shelf.SlSortCmp.NoneTotal
import Derived.WalkKit
import Derived.Deep.RegionWith
set_option linter.unusedVariables false
set_option linter.unusedSimpArgs false
namespace Go.Proofs.Ytmaeepckfbnpjaa
open Go.RowKit Go.L Go.Shelf Go.Lib Go.Sort
attribute [local irreducible] LL LW LO
abbrev encH (x : Hs) : List Value := x.1.map fun b => Value.int .u8 b.toNat
abbrev cmpH (x y : Hs) : Int := compareBytes x.1 y.1
theorem ext_compare (a b : List UInt8) (pa pb : Addr) (ka kb : Nat) (W : World) (ha : ∀ j x, a[j]? = some x → W.cell? (pa.add j) = some (.int .u8 x.toNat)) (hb : ∀ j x, b[j]? = some x → W.cell? (pb.add j) = some (.int .u8 x.toNat)) :
    (Extern.BytealgCompare.compare #[.slice (some pa) a.length ka, .slice (some pb) b.length kb]).run Try.prog W = .ok (.int .i64 (compareBytes a b)) W := by
  have key : ∀ (l : List UInt8) (p : Addr), (∀ j x, l[j]? = some x → W.cell? (p.add j) = some (.int .u8 x.toNat)) → (Extern.Bytes.loadBytes p l.length .empty).run Try.prog W = .ok ⟨l.toArray⟩ W := fun l p h => by
    have h1 := run_loadBytesX (P := Try.prog) W (numsL l) p .empty (fun j x hx => by
      unfold numsL at hx
      rw [List.getElem?_map] at hx
      cases hl : l[j]? with
      | none => rw [hl] at hx; cases hx
      | some y => rw [hl] at hx; rw [h j y hl, ← Option.some.inj hx])
    rw [show (numsL l).length = l.length by unfold numsL; exact List.length_map ..] at h1
    rw [h1, bytesOf_numsL]
    congr 1
    apply ByteArray.ext
    show (#[] : Array UInt8) ++ l.toArray = l.toArray
    simp
  have h1 := key a pa ha
  have h2 := key b pb hb
  change Sem.run Try.prog (do pure (goInt (Extern.BytealgCompare.cmp (← Extern.Bytes.bytesOf (.slice (some pa) a.length ka)) (← Extern.Bytes.bytesOf (.slice (some pb) b.length kb))))) W = _
  simp only [Extern.Bytes.bytesOf, Sem.run_bind, h1, h2, Sem.run_pure, Result.andThen_ok]
  rw [cmp_eq]
  rfl
set_option maxHeartbeats 1000000 in
set_option maxRecDepth 100000 in
theorem bcmp_calls (a b : List UInt8) (pa pb : Addr) (ka kb : Nat) (W : World) (ha : ∀ j x, a[j]? = some x → W.cell? (pa.add j) = some (.int .u8 x.toNat)) (hb : ∀ j x, b[j]? = some x → W.cell? (pb.add j) = some (.int .u8 x.toNat)) : Calls Try.prog 36 #[.slice (some pa) a.length ka, .slice (some pb) b.length kb] W fun e w' => e = .returned (.int .i64 (compareBytes a b)) ∧ w' = W := by
  have hx := ext_compare a b pa pb ka kb W ha hb
  have hf : (callFunc 48 #[.slice (some pa) a.length ka, .slice (some pb) b.length kb]).run Try.prog W = .ok (.value (.int .i64 (compareBytes a b))) W := by
    rw [run_callFunc_extern Try.func48 (by kernel_rfl) (by kernel_rfl) (by kernel_rfl) (e := Extern.BytealgCompare.compare) (by kernel_rfl), hx]
    rfl
  clear hx ha hb
  generalize compareBytes a b = r at hf ⊢
  go_enter Try.func36, Try.ntmps36
  go_wp2
  go_ret
  exact ⟨rfl, rfl⟩
theorem box_cell (l : List UInt8) (W : World) (t : TypeId) (j : Nat) (x : UInt8) (hx : l[j]? = some x) (W' : World) (b : Nat) (h : W'.heap[b]? = some (.cells (l.map fun b => Value.int .u8 b.toNat).toArray t (0, 0))) : W'.cell? ((⟨b, 0, none⟩ : Addr).add j) = some (.int .u8 x.toNat) := by
  rw [Addr.add_lit]
  simp [World.cell?, h, hx]
set_option maxHeartbeats 1000000 in
set_option maxRecDepth 100000 in
theorem hcmp_calls (x y : List UInt8) (hx : x.length = 32) (hy : y.length = 32) (W : World) : Calls Try.prog 25 #[hsV x, hsV y] W fun e w' => e = .returned (.int .i64 (compareBytes x y)) ∧ ∃ q os', w' = grow (W.drewN q) os' := by
  have h36 := bcmp_calls x y ⟨W.heap.size, 0, none⟩ ⟨W.heap.size + 1, 0, none⟩ 32 32 ((W.alloc (.cells (x.map fun b => Value.int .u8 b.toNat).toArray 34)).alloc (.cells (y.map fun b => Value.int .u8 b.toNat).toArray 34)).drew (fun j v hv => box_cell x W 34 j v hv _ _ (by simp [World.alloc, World.drew, Array.getElem?_push, -World.alloc_eq, -World.drew_eq])) (fun j v hv => box_cell y W 34 j v hv _ _ (by show ((W.heap.push _).push _)[W.heap.size + 1]? = _; rw [Array.getElem?_push, if_pos (by simp)]))
  rw [hx, hy] at h36
  generalize compareBytes x y = r at h36 ⊢
  have mixed : Try.prog.follows .mixedOrders = true := by kernel_rfl
  go_enter Try.func25, Try.ntmps25
  go_wp2
  go_region_with (go_at_call 36; refine h36.mono ?_; rintro e w' ⟨rfl, rfl⟩)
  go_wp2
  go_ret
  exact ⟨rfl, 1, _, by rw [alloc_eq_grow, alloc_eq_grow, grow_grow]; rfl⟩
end Go.Proofs.Ytmaeepckfbnpjaa
