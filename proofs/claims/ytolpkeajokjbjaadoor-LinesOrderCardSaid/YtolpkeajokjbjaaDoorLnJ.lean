/- Lines: Add. -/
import Derived.Test.YtolpkeajokjbjaaDoorLnI
set_option linter.unusedVariables false
set_option linter.unusedSimpArgs false
namespace Go.Proofs.YtolpkeajokjbjaaDoor
open Go.RowKit Go.L
attribute [local irreducible] LL LW LO
abbrev strsL (l : List (List UInt8)) : List (List LV) := l.map fun s => [Str s]
theorem strsL_at {l : List (List UInt8)} {i : Nat} {x : List UInt8} (h : l[i]? = some x) : (strsL l)[(i : Int).toNat]? = some [Str x] := by
  rw [Int.toNat_natCast, List.getElem?_map, h]; rfl
theorem laid_pt {a b zs : List LV} {c : LV} (ha : a.length = 33) (hb : b.length = 33) (hz : zs.length = 67) : laid (#[(0, 33), (33, 33), (66, 1)][·]?) zs [(0, a), (1, b), (2, [c])] = some (a ++ (b ++ [c])) := by
  have h1 : putAt zs 0 a = a ++ zs.drop 33 := by simp [putAt, ha]
  have h2 : putAt (a ++ zs.drop 33) 33 b = a ++ (b ++ zs.drop 66) := by
    unfold putAt
    rw [List.take_left' ha, hb, ← List.drop_drop (i := 33) (j := 33), List.drop_left' ha, List.drop_drop, List.append_assoc]
  have h3 : putAt (a ++ (b ++ zs.drop 66)) 66 [c] = a ++ (b ++ [c]) := by
    unfold putAt
    rw [show a ++ (b ++ zs.drop 66) = (a ++ b) ++ zs.drop 66 by simp, List.take_left' (by simp [ha, hb]), List.drop_of_length_le (by simp [ha, hb, hz])]
    simp
  have l1 : (a ++ zs.drop 33).length = 67 := by simp [ha, hz]
  have l2 : (a ++ (b ++ zs.drop 66)).length = 67 := by simp [ha, hb, hz]
  show (bif (Nat.beq a.length 33 && Nat.ble (0 + a.length) zs.length) then laid _ (putAt zs 0 a) [(1, b), (2, [c])] else none) = _
  rw [ha, hz, h1]
  show (bif (Nat.beq b.length 33 && Nat.ble (33 + b.length) (a ++ zs.drop 33).length) then laid _ (putAt (a ++ zs.drop 33) 33 b) [(2, [c])] else none) = _
  rw [hb, l1, h2]
  show (bif (Nat.beq 1 1 && Nat.ble (66 + 1) (a ++ (b ++ zs.drop 66)).length) then laid _ (putAt (a ++ (b ++ zs.drop 66)) 66 [c]) [] else none) = _
  rw [l2, h3]
  rfl
theorem has_fn (g ma mb : Nat) (n : Int) (m : At) (v : Vx) : FnCalls Tryd.prog (.func (.func 20) #[.pointer (some ⟨g, 0, none⟩)] #[]) [.agg (vxL v)] [gC g ma mb n, gA ma m] (fun r H' => r = bl (lookA m v).isSome ∧ [gC g ma mb n, gA ma m] = H') :=
  FnCalls.bound Tryd.func20 rfl rfl ((has_calls g ma mb n m v).mono fun r H' ⟨a, b⟩ => ⟨a, b.symm⟩)
/-- New lines, laid into the map. -/
def layA (m : At) (part : Int) : List Vx → List (List UInt8) → At
  | v :: vs, t :: ts => layA (setA m v ⟨t, [], part, [], []⟩) part vs ts
  | _, _ => m
theorem lay_snoc (part : Int) : ∀ (vs : List Vx) (ts : List (List UInt8)) (m : At) (v : Vx) (t : List UInt8), vs.length = ts.length → layA m part (vs ++ [v]) (ts ++ [t]) = setA (layA m part vs ts) v ⟨t, [], part, [], []⟩
  | [], [], m, v, t, _ => rfl
  | [], _ :: _, m, v, t, h => by cases h
  | _ :: _, [], m, v, t, h => by cases h
  | a :: vs, b :: ts, m, v, t, h => lay_snoc part vs ts _ v t (by simpa using h)
theorem Sz.lay {k : Nat} (part : Int) : ∀ (vs : List Vx) (ts : List (List UInt8)) {m : At}, Sz m k → Sz (layA m part vs ts) k
  | [], _, m, h => by unfold layA; exact h
  | _ :: _, [], m, h => by unfold layA; exact h
  | v :: vs, t :: ts, m, h => Sz.lay part vs ts fun x => by
    rw [atG_set]
    split
    · exact ⟨Nat.zero_le _, Nat.zero_le _⟩
    · exact h x
def addE (m : At) (up down : Vx) (ids : List Vx) (ts : List (List UInt8)) (t : Bool) : Nat :=
  if (wrongB ids || !decide ((ts.length : Int) = ids.length)) = true then 2 else if ids.any (fun v => (lookA m v).isSome) = true then 110 else if (!(lookA m up).isSome || !(lookA m down).isSome) = true then 111 else if (!t) = true then 112 else if 512 < (m.length : Int) - 2 + ids.length then 3 else 0
def addM (m : At) (part : Int) (up down : Vx) (ids : List Vx) (ts : List (List UInt8)) : At := chainF stepA (layA m part ids ts) up ids down
theorem gP_set (mb : Nat) (q : Ps) (a : Int) (x : Pt) : Atom.map mb (mp intK (setM (encM ptE q) a (ptE x))) = gP mb (setA q a x) := by rw [set_enc]
theorem lay_is (t : List UInt8) (n : Int) : Is (.agg [Str t, .raw (.slice none 0 0), i64 n, .raw (.slice none 0 0), .raw (.slice none 0 0)]) (lnE ⟨t, [], n, [], []⟩) := Is.agg rfl fun i x y hx hy => by
  match i, hx, hy with
  | 0, hx, hy => cases hx; cases hy; exact Is.rfl'
  | 1, hx, hy => cases hx; cases hy; exact (Is.nil 32).trans Is.unk
  | 2, hx, hy => cases hx; cases hy; exact Is.rfl'
  | 3, hx, hy => cases hx; cases hy; exact (Is.nil 33).trans Is.unk
  | 4, hx, hy => cases hx; cases hy; exact (Is.nil 33).trans Is.unk
end Go.Proofs.YtolpkeajokjbjaaDoor
