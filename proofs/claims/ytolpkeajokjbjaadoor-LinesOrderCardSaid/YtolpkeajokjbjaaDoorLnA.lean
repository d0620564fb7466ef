/- Lines: vertices, what a map says by plain values, small functions. -/
import Derived.Test.YtolpkeajokjbjaaDoorLgD
import Derived.Test.YtolpkeajokjbjaaDoorLgC
import Derived.Test.YtolpkeajokjbjaaDoorProg
set_option linter.unusedVariables false
set_option linter.unusedSimpArgs false
namespace Go.Proofs.YtolpkeajokjbjaaDoor
open Go.RowKit Go.L
attribute [local irreducible] LL LW LO
abbrev i64 (n : Int) : LV := .raw (.int .i64 n)
abbrev bl (b : Bool) : LV := .raw (.bool b)
abbrev pt (g : Nat) : LV := .raw (.pointer (some ⟨g, 0, none⟩))
theorem at_lt {α : Type} {l : List α} {i : Nat} (h : i < l.length) : ∃ x, l[i]? = some x := ⟨_, List.getElem?_eq_getElem h⟩
theorem take_snoc {α : Type} {l : List α} {i : Nat} {x : α} (h : l[i]? = some x) : l.take (i + 1) = l.take i ++ [x] := by
  obtain ⟨h1, h2⟩ := List.getElem?_eq_some_iff.1 h
  rw [List.take_succ_eq_append_getElem h1, h2]
theorem vxty : VxTy Tryd.prog 35 := ⟨⟨_, _, _, 5, Tryd.underlying35, rfl, Tryd.stoodInHeld35, by kernel_rfl, rfl, rfl, rfl, rfl, Tryd.underlying31, Tryd.underlying5, Tryd.sizeOf5, Tryd.sizeOf31, Tryd.isAgg31, Tryd.underlying3, Tryd.isAgg3⟩⟩
abbrev vxs (l : List Vx) : List (List LV) := l.map vxL
abbrev Vxs (l : List Vx) (k : Cap) : LV := .sl 33 (vxs l) k
abbrev hss (l : List Hs) : List (List LV) := l.map hsL
theorem vxs_size (l : List Vx) : ∀ e ∈ vxs l, e.length = 33 := fun e he => by obtain ⟨x, _, rfl⟩ := List.mem_map.1 he; exact vxL_len x
theorem vxs_at {l : List Vx} {i : Nat} {x : Vx} (h : l[i]? = some x) : (vxs l)[(i : Int).toNat]? = some (vxL x) := by
  rw [Int.toNat_natCast, List.getElem?_map, h]; rfl
theorem vx_ne (x : Vx) : vxL x ≠ [] := fun c => by have := vxL_len x; rw [c] at this; cases this
theorem vxs_app (a b : List Vx) : vxs a ++ vxs b = vxs (a ++ b) := (List.map_append (f := vxL) (l₁ := a) (l₂ := b)).symm
theorem hsL_len (x : Hs) : (hsL x).length = 32 := by rw [List.length_map]; exact x.2
theorem hss_size (l : List Hs) : ∀ e ∈ hss l, e.length = 32 := fun e he => by obtain ⟨x, _, rfl⟩ := List.mem_map.1 he; exact hsL_len x
theorem hss_at {l : List Hs} {i : Nat} {x : Hs} (h : l[i]? = some x) : (hss l)[(i : Int).toNat]? = some (hsL x) := by
  rw [Int.toNat_natCast, List.getElem?_map, h]; rfl
theorem hs_ne (x : Hs) : hsL x ≠ [] := fun c => by have := hsL_len x; rw [c] at this; cases this
theorem hss_app (a b : List Hs) : hss a ++ hss b = hss (a ++ b) := (List.map_append (f := hsL) (l₁ := a) (l₂ := b)).symm
abbrev hs0 : Hs := ⟨List.replicate 32 0, rfl⟩
abbrev topV : Vx := ⟨hs0, 0⟩
abbrev botV : Vx := ⟨hs0, 1⟩
abbrev kb : Atom := .known 0 (vxL botV)
def endsB (v : Vx) : Bool := decide (v = topV) || decide (v = botV)
/-! ### maps by plain values -/
section
variable {κ α : Type} [DecidableEq κ]
abbrev encM (enc : α → LV) (l : List (κ × α)) : List (κ × LV) := l.map fun p => (p.1, enc p.2)
def lookA : List (κ × α) → κ → Option α
  | [], _ => none
  | p :: r, a => if p.1 = a then some p.2 else lookA r a
def setA : List (κ × α) → κ → α → List (κ × α)
  | [], a, x => [(a, x)]
  | p :: r, a, x => if p.1 = a then (a, x) :: r else p :: setA r a x
def delA : List (κ × α) → κ → List (κ × α)
  | [], _ => []
  | p :: r, a => if p.1 = a then r else p :: delA r a
theorem lookM_cons (p : κ × LV) (r : List (κ × LV)) (b : κ) : lookM (p :: r) b = if p.1 = b then some p.2 else lookM r b := by
  unfold lookM
  rw [idxM]
  by_cases c : p.1 = b
  · rw [if_pos c, if_pos c]; rfl
  · rw [if_neg c, if_neg c]
    cases idxM r b with
    | none => rfl
    | some i => rfl
theorem setM_cons (p : κ × LV) (r : List (κ × LV)) (a : κ) (v : LV) : setM (p :: r) a v = if p.1 = a then (a, v) :: r else p :: setM r a v := by
  unfold setM
  rw [idxM]
  by_cases c : p.1 = a
  · rw [if_pos c, if_pos c]; rfl
  · rw [if_neg c, if_neg c]
    cases idxM r a with
    | none => rfl
    | some i => rfl
theorem delM_cons (p : κ × LV) (r : List (κ × LV)) (a : κ) : delM (p :: r) a = if p.1 = a then r else p :: delM r a := by
  unfold delM
  rw [idxM]
  by_cases c : p.1 = a
  · rw [if_pos c, if_pos c]; rfl
  · rw [if_neg c, if_neg c]
    cases idxM r a with
    | none => rfl
    | some i => rfl
theorem look_enc (enc : α → LV) : ∀ (l : List (κ × α)) (a : κ), lookM (encM enc l) a = (lookA l a).map enc
  | [], a => rfl
  | p :: r, a => by
    rw [show encM enc (p :: r) = (p.1, enc p.2) :: encM enc r from rfl, lookM_cons, lookA]
    by_cases c : p.1 = a
    · rw [if_pos c, if_pos c]; rfl
    · rw [if_neg c, if_neg c, look_enc enc r a]
theorem set_enc (enc : α → LV) : ∀ (l : List (κ × α)) (a : κ) (x : α), setM (encM enc l) a (enc x) = encM enc (setA l a x)
  | [], a, x => rfl
  | p :: r, a, x => by
    rw [show encM enc (p :: r) = (p.1, enc p.2) :: encM enc r from rfl, setM_cons, setA]
    by_cases c : p.1 = a
    · rw [if_pos c, if_pos c]; rfl
    · rw [if_neg c, if_neg c, set_enc enc r a x]; rfl
theorem del_enc (enc : α → LV) : ∀ (l : List (κ × α)) (a : κ), delM (encM enc l) a = encM enc (delA l a)
  | [], a => rfl
  | p :: r, a => by
    rw [show encM enc (p :: r) = (p.1, enc p.2) :: encM enc r from rfl, delM_cons, delA]
    by_cases c : p.1 = a
    · rw [if_pos c, if_pos c]
    · rw [if_neg c, if_neg c, del_enc enc r a]; rfl
theorem look_setA : ∀ (l : List (κ × α)) (a b : κ) (x : α), lookA (setA l a x) b = if a = b then some x else lookA l b
  | [], a, b, x => rfl
  | p :: r, a, b, x => by
    rw [setA]
    by_cases c : p.1 = a
    · rw [if_pos c, lookA, lookA]
      by_cases d : a = b
      · rw [if_pos d, if_pos d]
      · rw [if_neg d, if_neg d, if_neg (by rw [c]; exact d)]
    · rw [if_neg c, lookA, lookA, look_setA r a b x]
      by_cases d : p.1 = b
      · rw [if_pos d, if_pos d, if_neg (fun e => c (by rw [d, e]))]
      · rw [if_neg d, if_neg d]
theorem len_setA : ∀ (l : List (κ × α)) (a : κ) (x : α), (setA l a x).length = if (lookA l a).isSome then l.length else l.length + 1
  | [], a, x => rfl
  | p :: r, a, x => by
    rw [setA, lookA]
    by_cases c : p.1 = a
    · rw [if_pos c, if_pos c]; rfl
    · rw [if_neg c, if_neg c, List.length_cons, len_setA r a x]
      split
      · rfl
      · rfl
end
set_option maxRecDepth 100000 in
theorem ends_calls (v : Vx) : LCalls Tryd.prog 53 [.agg (vxL v)] [kb] (fun r H' => r = bl (endsB v) ∧ H' = [kb]) := by
  have hvl := vxL_len v
  have hbl := vxL_len botV
  refine LCalls.of Tryd.func53 rfl Tryd.ntmps53 Tryd.results53 rfl (fun Rf => ?_)
  refine LW.seq ?_
  refine LW.region ?_
  refine X.act (X.box rfl Is.rfl' (by exact Cells.agg) (fun b1 => ?_))
  refine X.u (LU.assignR Is.rfl') rfl ?_
  refine LL.nil (after_code ?_)
  refine LW.seq ?_
  refine LW.region ?_
  refine X.u (LU.loadO 0 rfl ⟨Tryd.sizeOf35, Tryd.isAgg35⟩ Is.rfl' (Part.whole (by assumption))) rfl ?_
  refine X.u (LU.weak (LU.build (places := #[(0, 32), (32, 1)]) Tryd.underlying35 Tryd.zeroValue35 (ones rfl) (by intro w; simp [Tryd.sizeOf3, Tryd.sizeOf31]) Parts.nil rfl) (Is.of (y := .agg (vxL topV)) (rfl))) rfl ?_
  refine X.u (LU.eqlVx vxty Is.rfl' Is.rfl') rfl ?_
  refine X.u (LU.moveR Is.rfl') rfl ?_
  refine X.gF rfl rfl (fun hg => LU.loadO 0 rfl ⟨Tryd.sizeOf35, Tryd.isAgg35⟩ (by exact Is.rfl') (Part.whole (by assumption))) rfl ?_
  refine X.gF rfl rfl (fun hg => LU.loadK 1 rfl ⟨Tryd.sizeOf35, Tryd.isAgg35⟩ (by exact Is.rfl') (by decide) (by decide) (Part.whole (by (simp; done)))) rfl ?_
  refine X.gF rfl rfl (fun hg => LU.eqlVx vxty (by exact Is.whenN hg) (by exact Is.whenN hg)) rfl ?_
  refine X.u (LU.pickOr Is.rfl' Is.rfl' (fun hq => (by exact Is.whenN hq))) rfl ?_
  refine X.u (LU.assignR Is.rfl') rfl ?_
  refine LL.nil (after_code ?_)
  refine LW.ret (after_end ?_)
  refine X.ret (H' := [kb]) (Res.one (by exact IsR rfl)) (by repeat (first | exact HSub.refl _ | refine HSub.pick 1 rfl ?_ | refine HSub.drop ?_)) ?_
  exact ⟨by unfold endsB; rfl, rfl⟩
def idxV (l : List Vx) (v : Vx) : Int := match l.findIdx? (fun x => decide (x = v)) with
  | some i => i
  | none => -1
end Go.Proofs.YtolpkeajokjbjaaDoor
