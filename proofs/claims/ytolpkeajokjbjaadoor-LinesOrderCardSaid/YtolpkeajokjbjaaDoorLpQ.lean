/- Lines: the variable of the bottom, when a call begins; what is handed in. -/
import Derived.Test.YtolpkeajokjbjaaDoorLpP
import Derived.Test.YtolpkeajokjbjaaDoorLgB
import Derived.Test.YtolpkeajokjbjaaDoorRows
import Derived.LaidMore
import Derived.LaidHandle
import Derived.ChangeSame
set_option linter.unusedVariables false
set_option linter.unusedSimpArgs false
namespace Go.Proofs.YtolpkeajokjbjaaDoor
open Go.RowKit Go.L Go.Lib Go.ChangeShapes
attribute [local irreducible] LL LW LO
abbrev laidL {H : Type} : List (String × DataW H) := [("ingot/lines.bottom", Rows.laid_ingot_lines_bottom)]
theorem gBottom : Tryd.prog.globalNamed "ingot/lines.bottom" = some 0 := by kernel_rfl
theorem tBottom : (Tryd.prog.globals[0]?).map (·.type) = some 35 := by kernel_rfl
set_option maxRecDepth 100000 in
theorem door_met (os : Os) (args : Array Value) : laidMetH Tryd.prog laidL ((World.doorLaid Tryd.prog 2000 os).forCall (fun _ _ => 0) ⟨#[], args, []⟩).memory :=
  laidMetH_of_parts3 (fuel := 8) (laidMet_of_run' 8 (by kernel_rfl) (by kernel_rfl)) (by kernel_rfl) (by kernel_rfl)
abbrev Z32 : List Nat := List.replicate 32 0
set_option maxRecDepth 100000 in
theorem laid_bottom {H : Type} : (Rows.laid_ingot_lines_bottom : DataW H) = .agg [.agg (Z32.map fun (m : Nat) => .lit (.int .u8 m)), .lit (.int .i64 1)] := by kernel_rfl
set_option maxRecDepth 100000 in
theorem of_laid {W : World} (h : laidMetH Tryd.prog laidL W) : Rep (PH.all W) (.pointer (some ⟨0, 0, none⟩)) (.pin (vxL botV)) := by
  rw [MakeChecks.laidMetH_plain _ _ _ (by kernel_rfl)] at h
  obtain ⟨ps, ⟨g0, t0, cs0, f0, p0, q0, hg0, ht0, hv0, hd0, _, _⟩, _, _⟩ := h
  obtain rfl := Option.some.inj (gBottom.symm.trans hg0)
  obtain rfl := Option.some.inj (tBottom.symm.trans ht0)
  rw [laid_bottom] at hd0
  obtain ⟨y0, y1, k, hx, hl, e0, e1⟩ := trod_struct2 Tryd.underlying35 hd0
  simp only [Prod.mk.injEq, DataW.agg.injEq, List.cons.injEq, and_true] at hx
  obtain ⟨⟨hx0, hx1⟩, _⟩ := hx
  obtain ⟨z0, q0'⟩ := y0
  obtain ⟨z1, q1'⟩ := y1
  obtain rfl : DataW.agg _ = z0 := hx0
  obtain rfl : DataW.lit _ = z1 := hx1
  have hA := laid_ints (l := Z32) Tryd.underlying31 Tryd.underlying5 (by kernel_rfl) (by kernel_rfl) e0
  obtain ⟨n1, hB, hn1, _⟩ := DataW.trod_int Tryd.underlying3 e1
  have hn : n1 = 1 := by
    have := congrArg Prod.fst hn1
    simpa using this.symm
  subst hn
  have hc0 : Tryd.prog.cellsOf 31 = 32 := by kernel_rfl
  have hc1 : Tryd.prog.cellsOf 3 = 1 := by kernel_rfl
  have hc2 : Tryd.prog.cellsOf 35 = 33 := by kernel_rfl
  rw [hc2] at hl
  have hA' : cs0.toList.take 32 = Z32.map fun (m : Nat) => Value.int .u8 m := by
    have := hA
    rw [show Tryd.prog.cellsOf _ = 32 from hc0] at this
    simpa using this
  have hB' : (cs0.toList.drop 32).take 1 = [.int .i64 1] := by
    have := hB
    rw [show Tryd.prog.cellsOf _ = 1 from hc1] at this
    simpa using this
  have hcs : cs0.toList = vxs1 botV := by
    rw [← List.take_append_drop 32 cs0.toList, hA']
    rw [show cs0.toList.drop 32 = [.int .i64 1] from by
      rw [← hB', List.take_of_length_le (by rw [List.length_drop]; omega)]]
    rfl
  refine known_of fun j x hx => ?_
  have hvr := (vx_raw botV).eq
  rw [hvr] at hx
  unfold raws at hx
  rw [List.getElem?_map] at hx
  cases hq : (vxs1 botV)[j]? with
  | none => rw [hq] at hx; cases hx
  | some v =>
    rw [hq] at hx
    obtain rfl : LV.raw v = x := by simpa using hx
    refine ⟨v, ?_, ?_, .raw _⟩
    · rw [World.var?_cell hg0 hv0, ← Array.getElem?_toList, hcs, hq]
    · have hm := List.mem_of_getElem? hq
      have : ∀ v ∈ vxs1 botV, v.oneCell' = true := by decide +kernel
      exact this v hm
/-! ### what is handed in -/
theorem reach_lt : reachBytes < 140737488355328 := by decide
theorem byte_flat : ∀ l : List UInt8, (byteEls l).flatten = l.map fun b => LV.raw (.int .u8 b.toNat)
  | [] => rfl
  | b :: l => by
    have := byte_flat l
    show _ :: (byteEls l).flatten = _
    rw [this]; rfl
theorem hs_of {x : List LV} (h : QArr 32 1 (QInt .u8) x) : ∃ a : Hs, x = hsL a := by
  obtain ⟨es, rfl, hl, he⟩ := h
  obtain ⟨l, rfl⟩ := decode_bytes (fun c hc => (he c hc).2)
  exact ⟨⟨l, by simpa [byteEls] using hl⟩, byte_flat l⟩
abbrev QVx : List LV → Prop := QCons 32 (QArr 32 1 (QInt .u8)) (QCons 1 (QInt .i64) QNil)
theorem vx_of {x : List LV} (h : QVx x) : ∃ a : Vx, x = vxL a := by
  obtain ⟨_, _, rfl, _, h1, _, _, rfl, _, ⟨n, rfl, _⟩, rfl⟩ := h
  obtain ⟨a, rfl⟩ := hs_of h1
  exact ⟨⟨a, n⟩, rfl⟩
abbrev QAct : List LV → Prop := QCons 1 (QInt .i64) (QCons 33 QVx (QCons 33 QVx (QCons 1 (QSl 33 40 QVx) (QCons 1 (QSl 1 16 QStr) (QCons 32 (QArr 32 1 (QInt .u8)) QNil)))))
def AcIn (a : Ac) : Prop := a.ids.length < 140737488355328 ∧ a.texts.length < 140737488355328
theorem strs_of {x : List (List LV)} (h : ∀ c ∈ x, QStr c) : ∃ l : List (List UInt8), x = strsL l := by
  obtain ⟨l, e, _⟩ := Go.L.decode (fun s : List UInt8 => [Str s]) (fun _ => True) (es := x) fun c hc => by
    obtain ⟨s, hs⟩ := h c hc
    exact ⟨s, by exact hs.1, trivial⟩
  exact ⟨l, e⟩
theorem ac_of {c : List LV} (h : QAct c) : ∃ a : Ac, c = acL a ∧ AcIn a := by
  obtain ⟨_, _, rfl, _, ⟨n, rfl, _⟩, _, _, rfl, _, h1, _, _, rfl, _, h2, _, _, rfl, _, ⟨es, rfl, h3, h4⟩, _, _, rfl, _, ⟨ts, rfl, h5, h6⟩, _, _, rfl, _, h7, rfl⟩ := h
  obtain ⟨u, rfl⟩ := vx_of h1
  obtain ⟨d, rfl⟩ := vx_of h2
  obtain ⟨b, rfl⟩ := hs_of h7
  obtain ⟨ids, rfl, _⟩ := Go.L.decode vxL (fun _ => True) (fun c hc => by obtain ⟨x, e⟩ := vx_of (h3 c hc); exact ⟨x, e, trivial⟩)
  obtain ⟨l, rfl⟩ := strs_of h5
  have := reach_lt
  rw [List.length_map] at h4 h6
  exact ⟨⟨n, u, d, ids, l, b⟩, by simp, by show ids.length < _; omega, by show l.length < _; omega⟩
theorem acs_of {x : List (List LV)} (h : ∀ c ∈ x, QAct c) : ∃ l : List Ac, x = acs l ∧ ∀ e ∈ l, AcIn e := Go.L.decode acL AcIn fun c hc => ac_of (h c hc)
end Go.Proofs.YtolpkeajokjbjaaDoor
