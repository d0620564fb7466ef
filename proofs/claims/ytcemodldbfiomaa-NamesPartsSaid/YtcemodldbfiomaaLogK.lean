/- Words of 32 bits, as natural numbers; every rule holds of any numbers. Plain theorems over any program. -/
import Derived.Test.YtcemodldbfiomaaLogJ
set_option linter.unusedVariables false
set_option linter.unusedSimpArgs false
namespace Go.L
open Go.RowKit
def add32 (a b : Nat) : Nat := (a + b) % 4294967296
def xor32 (a b : Nat) : Nat := (a ^^^ b) % 4294967296
def and32 (a b : Nat) : Nat := (a &&& b) % 4294967296
def or32 (a b : Nat) : Nat := (a ||| b) % 4294967296
def not32 (a : Nat) : Nat := (4294967295 ^^^ a) % 4294967296
def shl32 (a k : Nat) : Nat := (a * 2 ^ k) % 4294967296
def shr32 (a k : Nat) : Nat := a / 2 ^ k
abbrev u32 (n : Nat) : LV := .raw (.int .u32 n)
abbrev u8 (n : Nat) : LV := .raw (.int .u8 n)
theorem wrapN32 (a : Nat) : IntKind.u32.wrap (a : Int) = ((a % 4294967296 : Nat) : Int) := by
  unfold IntKind.wrap
  simp [IntKind.bits, IntKind.signed]
theorem wrapN8 (a : Nat) : IntKind.u8.wrap (a : Int) = ((a % 256 : Nat) : Int) := by
  unfold IntKind.wrap
  simp [IntKind.bits, IntKind.signed]
theorem bits32 (op : BinOp) (a b : Nat) : bitsOf op .u32 a b = (((match op with | .and => BitVec.ofNat 32 a &&& BitVec.ofNat 32 b | .or => BitVec.ofNat 32 a ||| BitVec.ofNat 32 b | .xor => BitVec.ofNat 32 a ^^^ BitVec.ofNat 32 b | _ => BitVec.ofNat 32 a &&& ~~~BitVec.ofNat 32 b : BitVec 32).toNat : Nat) : Int) := by
  have e : ∀ n : Nat, (BitVec.ofInt IntKind.u32.bits (n : Int)) = BitVec.ofNat 32 n := fun n => BitVec.ofInt_natCast _ _
  unfold bitsOf
  simp only [e]
  rw [wrapN32]
  congr 1
  apply Nat.mod_eq_of_lt
  exact BitVec.isLt _
theorem bits_xor (a b : Nat) : bitsOf .xor .u32 a b = ((xor32 a b : Nat) : Int) := by
  rw [bits32]; simp [xor32, Nat.xor_mod_two_pow (n := 32)]
theorem bits_and (a b : Nat) : bitsOf .and .u32 a b = ((and32 a b : Nat) : Int) := by
  rw [bits32]; simp [and32, Nat.and_mod_two_pow (n := 32)]
theorem bits_or (a b : Nat) : bitsOf .or .u32 a b = ((or32 a b : Nat) : Int) := by
  rw [bits32]; simp [or32, Nat.or_mod_two_pow (n := 32)]
section
variable {P : Program} {env : List (Nat × LV)} {H : List Atom} {d : Option Tmp} {ty : TypeId} {pos : String} {af : Array Edge} {g : Option (Nat × Bool)}
theorem LU.add32 {x y : Operand} {t t' : TypeId} {a b : Nat} (hx : Is (ev env x) (u32 a)) (hy : Is (ev env y) (u32 b)) : LU P env H ⟨d, .binOp .add t x y t', ty, pos, af, g⟩ (u32 (Go.L.add32 a b)) := by
  have := LU.add (P := P) (env := env) (H := H) (d := d) (ty := ty) (pos := pos) (af := af) (g := g) (t := t) (t' := t') hx hy
  rwa [show ((a : Int) + (b : Int)) = ((a + b : Nat) : Int) from rfl, wrapN32] at this
theorem LU.xor32 {x y : Operand} {t t' : TypeId} {a b : Nat} (hx : Is (ev env x) (u32 a)) (hy : Is (ev env y) (u32 b)) : LU P env H ⟨d, .binOp .xor t x y t', ty, pos, af, g⟩ (u32 (Go.L.xor32 a b)) := by
  have := LU.xor (P := P) (env := env) (H := H) (d := d) (ty := ty) (pos := pos) (af := af) (g := g) (t := t) (t' := t') hx hy
  rwa [bits_xor] at this
theorem LU.and32 {x y : Operand} {t t' : TypeId} {a b : Nat} (hx : Is (ev env x) (u32 a)) (hy : Is (ev env y) (u32 b)) : LU P env H ⟨d, .binOp .and t x y t', ty, pos, af, g⟩ (u32 (Go.L.and32 a b)) := by
  have := LU.and (P := P) (env := env) (H := H) (d := d) (ty := ty) (pos := pos) (af := af) (g := g) (t := t) (t' := t') hx hy
  rwa [bits_and] at this
theorem LU.or32 {x y : Operand} {t t' : TypeId} {a b : Nat} (hx : Is (ev env x) (u32 a)) (hy : Is (ev env y) (u32 b)) : LU P env H ⟨d, .binOp .or t x y t', ty, pos, af, g⟩ (u32 (Go.L.or32 a b)) := by
  have := LU.or (P := P) (env := env) (H := H) (d := d) (ty := ty) (pos := pos) (af := af) (g := g) (t := t) (t' := t') hx hy
  rwa [bits_or] at this
theorem LU.not32 {x : Operand} {t : TypeId} {a : Nat} (hx : Is (ev env x) (u32 a)) : LU P env H ⟨d, .unOp .xor t x, ty, pos, af, g⟩ (u32 (Go.L.not32 a)) := by
  have := LU.compl (P := P) (env := env) (H := H) (d := d) (ty := ty) (pos := pos) (af := af) (g := g) (t := t) hx
  rw [show (if IntKind.u32.signed then -1 else IntKind.u32.max) = ((4294967295 : Nat) : Int) by decide, bits_xor] at this
  exact this
theorem LU.shl32 {x y : Operand} {t t' : TypeId} {k' : IntKind} {a : Nat} {b : Int} (hx : Is (ev env x) (u32 a)) (hy : Is (ev env y) (.raw (.int k' b))) (hb : 0 ≤ b ∧ b ≤ 32) : LU P env H ⟨d, .binOp .shl t x y t', ty, pos, af, g⟩ (u32 (Go.L.shl32 a b.toNat)) := by
  have := LU.shl (P := P) (env := env) (H := H) (d := d) (ty := ty) (pos := pos) (af := af) (g := g) (t := t) (t' := t') hx hy hb.1
  rw [show min b.toNat IntKind.u32.bits = b.toNat by have : IntKind.u32.bits = 32 := rfl; omega, show ((a : Int) * 2 ^ b.toNat) = ((a * 2 ^ b.toNat : Nat) : Int) by simp, wrapN32] at this
  exact this
theorem LU.shr32 {x y : Operand} {t t' : TypeId} {k' : IntKind} {a : Nat} {b : Int} (hx : Is (ev env x) (u32 a)) (hy : Is (ev env y) (.raw (.int k' b))) (hb : 0 ≤ b ∧ b ≤ 32) : LU P env H ⟨d, .binOp .shr t x y t', ty, pos, af, g⟩ (u32 (Go.L.shr32 a b.toNat)) := by
  have := LU.shr (P := P) (env := env) (H := H) (d := d) (ty := ty) (pos := pos) (af := af) (g := g) (t := t) (t' := t') hx hy hb.1
  rw [show min b.toNat IntKind.u32.bits = b.toNat by have : IntKind.u32.bits = 32 := rfl; omega, show ((a : Int).fdiv (2 ^ b.toNat)) = ((a / 2 ^ b.toNat : Nat) : Int) by
    rw [show (2 : Int) ^ b.toNat = ((2 ^ b.toNat : Nat) : Int) by simp, Int.fdiv_eq_ediv_of_nonneg _ (Int.natCast_nonneg _)]; simp] at this
  exact this
theorem LU.shrN {x y : Operand} {t t' : TypeId} {k k' : IntKind} {a n : Nat} {b : Int} (hx : Is (ev env x) (.raw (.int k a))) (hy : Is (ev env y) (.raw (.int k' b))) (h0 : 0 ≤ b) (hn : k.bits = n) (hb : b.toNat ≤ n) : LU P env H ⟨d, .binOp .shr t x y t', ty, pos, af, g⟩ (.raw (.int k ((a / 2 ^ b.toNat : Nat) : Int))) := by
  have := LU.shr (P := P) (env := env) (H := H) (d := d) (ty := ty) (pos := pos) (af := af) (g := g) (t := t) (t' := t') hx hy h0
  rw [show min b.toNat k.bits = b.toNat by omega, show ((a : Int).fdiv (2 ^ b.toNat)) = ((a / 2 ^ b.toNat : Nat) : Int) by
    rw [show (2 : Int) ^ b.toNat = ((2 ^ b.toNat : Nat) : Int) by simp, Int.fdiv_eq_ediv_of_nonneg _ (Int.natCast_nonneg _)]; simp] at this
  exact this
theorem byteEls_D {l : List UInt8} {i : Int} (o : Nat) (ho : i = o) (h : o < l.length) : (byteEls l)[i.toNat]? = some [u8 (l.getD o 0).toNat] := by
  subst ho
  simp [byteEls, h]
theorem LU.of8 {x : Operand} {s t : TypeId} {ds : TypeDesc} {k' : IntKind} {a : Nat} (hs : P.underlying s = some ds) (ht : P.underlying t = some (.int .u32)) (hx : Is (ev env x) (.raw (.int k' a))) : LU P env H ⟨d, .convert s t x, ty, pos, af, g⟩ (u32 (a % 4294967296)) := by
  have := LU.conv (P := P) (env := env) (H := H) (d := d) (ty := ty) (pos := pos) (af := af) (g := g) hs ht hx
  rwa [wrapN32] at this
theorem LU.to8 {x : Operand} {s t : TypeId} {ds : TypeDesc} {k' : IntKind} {a : Nat} (hs : P.underlying s = some ds) (ht : P.underlying t = some (.int .u8)) (hx : Is (ev env x) (.raw (.int k' a))) : LU P env H ⟨d, .convert s t x, ty, pos, af, g⟩ (u8 (a % 256)) := by
  have := LU.conv (P := P) (env := env) (H := H) (d := d) (ty := ty) (pos := pos) (af := af) (g := g) hs ht hx
  rwa [wrapN8] at this
end
theorem map_at {f : Nat → LV} {l : List Nat} {o : Nat} {i : Int} (ho : o = i.toNat) (h0 : 0 ≤ i) (h : i.toNat < l.length) : (l.map f)[o]? = some (f (l.getD i.toNat 0)) := by
  subst ho
  simp [h]
theorem put_map {f : Nat → LV} {l : List Nat} {o : Nat} {i : Int} {v : Nat} (ho : o = i.toNat) (h : i.toNat < l.length) : putAt (l.map f) o [f v] = (l.set i.toNat v).map f := by
  subst ho
  rw [putAt_one _ _ _ (by simpa using h)]
  simp [List.map_set]
theorem map_atN {f : Nat → LV} {l : List Nat} {o : Nat} (o' : Nat) (ho : o = o') (h : o' < l.length) : (l.map f)[o]? = some (f (l.getD o' 0)) := by
  subst ho
  simp [h]
theorem putAt_all {xs ys : List LV} (h : ys.length = xs.length) : putAt xs 0 ys = ys := by simp [putAt, h]
/-- What was stored in a row of words. -/
theorem X.wput {P : Program} {n : NN} {env : List (Nat × LV)} {c : Code} {Q : Exit → LS → Prop} {b : Nat} {t : TypeId} {f : Nat → LV} {l l' : List Nat} {o o' v : Nat} {R : List Atom} (hset : l.set o' v = l') (ho : o = o') (hlt : o' < l.length) (h : LW P c ⟨n, env, .cells b t (l'.map f) :: R⟩ Q) : LW P c ⟨n, env, .cells b t (putAt (l.map f) o [f v]) :: R⟩ Q := by
  subst ho
  rw [putAt_one _ _ _ (by simpa using hlt), ← List.map_set, hset]
  exact h
theorem X.wcells {P : Program} {n : NN} {env : List (Nat × LV)} {c : Code} {Q : Exit → LS → Prop} {b : Nat} {t : TypeId} {xs ys : List LV} {R : List Atom} (he : xs = ys) (h : LW P c ⟨n, env, .cells b t ys :: R⟩ Q) : LW P c ⟨n, env, .cells b t xs :: R⟩ Q := he ▸ h
/-- T{..}, an array, all of whose elements, of one cell each, are given. -/
def seqP : Nat → List LV → List (Nat × List LV)
  | _, [] => []
  | i, v :: vs => (i, [v]) :: seqP (i + 1) vs
theorem laid_seq : ∀ (vs : List LV) (i : Nat) (xs : List LV), i + vs.length ≤ xs.length → laid (fun i => some (i * 1, 1)) xs (seqP i vs) = some (xs.take i ++ vs ++ xs.drop (i + vs.length))
  | [], i, xs, h => by simp [seqP, laid]
  | v :: vs, i, xs, h => by
    have hl : i < xs.length := by simp at h; omega
    have hb : (Nat.beq [v].length 1 && Nat.ble (i * 1 + [v].length) xs.length) = true := by simp [Nat.ble_eq]; omega
    rw [seqP, laid]
    simp only [hb, cond_true]
    have hp : (putAt xs (i * 1) [v]) = xs.set i v := by rw [Nat.mul_one]; exact putAt_one _ _ _ hl
    rw [hp, laid_seq vs (i + 1) (xs.set i v) (by simp at h ⊢; omega)]
    have ht : (xs.take i).length = i := by simp; omega
    rw [List.set_eq_take_append_cons_drop, if_pos hl]
    have e1 : (xs.take i ++ v :: xs.drop (i + 1)).take (i + 1) = xs.take i ++ [v] := by
      rw [List.take_append, List.take_of_length_le (by omega), ht, show i + 1 - i = 1 by omega]
      rfl
    have e2 : (xs.take i ++ v :: xs.drop (i + 1)).drop (i + 1 + vs.length) = xs.drop (i + (v :: vs).length) := by
      rw [List.drop_append, List.drop_eq_nil_of_le (by omega), ht, show i + 1 + vs.length - i = vs.length + 1 by omega, List.nil_append, List.drop_succ_cons, List.drop_drop]
      congr 1
      simp
      omega
    rw [e1, e2]
    simp
theorem LU.buildA1 {P : Program} {env : List (Nat × LV)} {H : List Atom} {d : Option Tmp} {ty : TypeId} {pos : String} {af : Array Edge} {g : Option (Nat × Bool)} {t e : TypeId} {n : Nat} {ps : Array (Nat × Operand)} {vs : List LV} {z : Value} (ht : P.underlying t = some (.array n e)) (hs : ∀ w, (sizeOf e).run P w = .ok 1 w) (hz : ∀ w, (zeroValue t).run P w = .ok z w) (hz1 : ∀ (i : Nat) (c : Value), z.cells[i]? = some c → c.oneCell' = true)
    (hp : Parts env ps.toList (seqP 0 vs)) (hn : vs.length = z.cells.size) : LU P env H ⟨d, .build t ps, ty, pos, af, g⟩ (.agg vs) := LU.buildA ht hs hz hz1 hp (by
  rw [laid_seq vs 0 _ (by simp [raws, hn])]
  simp [raws, hn])
theorem X.ncells {α : Type} {m n : NN} {e : List (Nat × LV)} {mod : α → List (Nat × LV)} {live : List Nat} {e0 : List (Nat × LV)} {hp : α → List Atom} {φ : α → Prop} {μ : α → Nat} {p : α} {b : Nat} {t : TypeId} {xs ys : List LV} {R : List Atom} (he : xs = ys) (h : Next m mod live e0 hp φ μ p ⟨n, e, .cells b t ys :: R⟩) : Next m mod live e0 hp φ μ p ⟨n, e, .cells b t xs :: R⟩ := he ▸ h
theorem creps_is {ph : PH} {cs : Array Value} {xs ys : List LV} (hl : xs.length = ys.length) (h : ∀ (i : Nat) (x y : LV), xs[i]? = some x → ys[i]? = some y → Is x y) (c : CReps ph cs xs) : CReps ph cs ys := ⟨⟨c.1.1.trans hl, fun i v y h1 h2 => by
  have hlt : i < xs.length := hl ▸ (List.getElem?_eq_some_iff.1 h2).1
  have hx := List.getElem?_eq_getElem hlt
  exact h i _ y hx h2 ph v (c.1.2 i v _ h1 hx)⟩, c.2⟩
/-- A cell, told otherwise. -/
theorem HSub.cell {g : Nat} {t : TypeId} {xs : List LV} {H : List Atom} (i : Nat) {x y : LV} (hx : xs[i]? = some x) (h : Is x y) : HSub (.cells g t xs :: H) (.cells g t (xs.set i y) :: H) := HSub.of fun ph w F ⟨F1, F2, ⟨h1, cs, h2, h3⟩, r⟩ => ⟨F, ⟨F1, F2, ⟨h1, cs, h2, creps_is (by simp) (fun j a b ha hb => by
  rw [List.getElem?_set] at hb
  split at hb
  · rename_i hij
    subst hij
    split at hb
    · rw [hx] at ha
      cases ha
      cases hb
      exact h
    · cases hb
  · rw [ha] at hb
    cases hb
    exact Is.rfl') h3⟩, r⟩, fun _ _ h => h⟩
/-- x[lo:]: its room stays its own. -/
theorem LU.sliceT {P : Program} {env : List (Nat × LV)} {H : List Atom} {d : Option Tmp} {ty : TypeId} {pos : String} {af : Array Edge} {g : Option (Nat × Bool)} {x lo : Operand} {t e : TypeId} {l : List UInt8} {k : Cap} {ki : IntKind} {n : Nat} (hs : ∀ w, (sizeOf e).run P w = .ok 1 w) (ht : P.underlying t = some (.slice e)) (hx : Is (ev env x) (Bytes l k)) (hl : Is (ev env lo) (.raw (.int ki n))) (h1 : n ≤ l.length) :
    LU P env H ⟨d, .slice t x (some lo) none none, ty, pos, af, g⟩ (Bytes (l.drop n) k) := by
  have := LU.slice (P := P) (H := H) (d := d) (ty := ty) (pos := pos) (af := af) (g := g) (lo := some lo) (hi := none) (l := some (n : Int)) (h := none) hs (by omega) ht hx ⟨_, hl⟩ trivial (by simp) (by simpa [byteEls_length] using h1) (by simp) k (.inr ⟨rfl, by simp⟩)
  simp only [Option.getD_some, Option.getD_none, Int.toNat_natCast, byteEls_length, byteEls_drop] at this
  rw [byteEls_take, List.take_of_length_le (by simp)] at this
  exact this
end Go.L
