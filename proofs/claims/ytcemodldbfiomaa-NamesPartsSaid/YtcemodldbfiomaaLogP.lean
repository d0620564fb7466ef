/- Arrays of whole numbers compared; []byte and array facts. Plain theorems over any program. -/
import Derived.Test.YtcemodldbfiomaaLogN
set_option linter.unusedVariables false
set_option linter.unusedSimpArgs false
namespace Go.L
open Go.RowKit
section
variable {P : Program} {env : List (Nat × LV)} {H : List Atom} {d : Option Tmp} {ty : TypeId} {pos : String} {af : Array Edge} {g : Option (Nat × Bool)}
theorem all_range_nat : ∀ (xs ys : List Nat), xs.length = ys.length → ((List.range xs.length).all fun i => xs.getD i 0 == ys.getD i 0) = decide (xs = ys)
  | [], [], _ => by simp
  | x :: xs, y :: ys, h => by
    have ih := all_range_nat xs ys (by simpa using h)
    rw [List.length_cons, List.range_succ_eq_map, List.all_cons, List.all_map]
    simp only [List.getD_cons_zero, Function.comp_def, List.getD_cons_succ, ih]
    by_cases h1 : x = y <;> simp [h1]
  | [], _ :: _, h => by simp at h
  | _ :: _, [], h => by simp at h
theorem EqR.arr {t e : TypeId} {n : Nat} {k : IntKind} (ht : P.underlying t = some (.array n e)) (he : P.underlying e = some (.int k)) (hsz : ∀ w, (sizeOf e).run P w = .ok 1 w) (xs ys : List Nat) (hx : xs.length = n) (hy : ys.length = n) :
    EqR P 2 t (.agg (xs.map fun m => Value.int k (m : Nat)).toArray) (.agg (ys.map fun m => Value.int k (m : Nat)).toArray) (decide (xs = ys)) := fun d w => by
  rw [← all_range_nat xs ys (hx.trans hy.symm), hx, List.range_eq_range', Op.equalIn]
  simp only [Sem.run_bind, run_underlying ht, Result.andThen_ok, hsz, Std.Legacy.Range.forIn_eq_forIn_range', Std.Legacy.Range.size, Nat.sub_zero, Nat.add_sub_cancel, Nat.div_one]
  have hl : ∀ i ∈ List.range' 0 n 1, i < n := fun i hi => by simpa using (List.mem_range'_1.1 hi).2
  generalize List.range' 0 n 1 = l at hl ⊢
  induction l with
  | nil => simp
  | cons i l ih =>
    have hi : i < n := hl i (by simp)
    have px : (part e (xs.map fun m => Value.int k (m : Nat)).toArray (i * 1)).run P w = .ok (.int k (xs.getD i 0 : Nat)) w := by
      simp [part, isAgg, run_underlying he, List.getD, List.getElem?_eq_getElem (show i < xs.length by omega)]
    have py : (part e (ys.map fun m => Value.int k (m : Nat)).toArray (i * 1)).run P w = .ok (.int k (ys.getD i 0 : Nat)) w := by
      simp [part, isAgg, run_underlying he, List.getD, List.getElem?_eq_getElem (show i < ys.length by omega)]
    have pe : (Op.equalIn (d + 1) e (.int k (xs.getD i 0 : Nat)) (.int k (ys.getD i 0 : Nat))).run P w = .ok (xs.getD i 0 == ys.getD i 0) w := by
      rw [run_equalIn_int w d e k k _ _ he]
      congr 1
      rw [Bool.eq_iff_iff]
      simp
      omega
    simp only [List.forIn_cons, Sem.run_bind, px, py, pe, Result.andThen_ok, List.all_cons]
    cases hb : (xs.getD i 0 == ys.getD i 0)
    · simp
    · simp only [Bool.not_true, Bool.false_eq_true, if_false, Sem.run_pure, Result.andThen_ok, Bool.true_and]
      exact ih fun j hj => hl j (by simp [hj])
theorem RawL.map {k : IntKind} : ∀ (l : List Nat), RawL (l.map fun m => LV.raw (.int k (m : Nat))) (l.map fun m => Value.int k (m : Nat))
  | [] => .nil
  | x :: xs => .cons (RawL.map xs)
theorem LU.eqlArr {x y : Operand} {t t' e : TypeId} {n : Nat} {k : IntKind} {xs ys : List Nat} (ht : P.underlying t = some (.array n e)) (he : P.underlying e = some (.int k)) (hsz : ∀ w, (sizeOf e).run P w = .ok 1 w) (hg : P.eqGuardType P.depth t = false)
    (hx : Is (ev env x) (.agg (xs.map fun m => LV.raw (.int k (m : Nat))))) (hy : Is (ev env y) (.agg (ys.map fun m => LV.raw (.int k (m : Nat))))) (lx : xs.length = n) (ly : ys.length = n) :
    LU P env H ⟨d, .binOp .eql t x y t', ty, pos, af, g⟩ (.raw (.bool (decide (xs = ys)))) := LU.eqlA hx hy (RawL.map _) (RawL.map _) hg (by decide) (EqR.arr ht he hsz xs ys lx ly)
theorem LU.neqArr {x y : Operand} {t t' e : TypeId} {n : Nat} {k : IntKind} {xs ys : List Nat} (ht : P.underlying t = some (.array n e)) (he : P.underlying e = some (.int k)) (hsz : ∀ w, (sizeOf e).run P w = .ok 1 w) (hg : P.eqGuardType P.depth t = false)
    (hx : Is (ev env x) (.agg (xs.map fun m => LV.raw (.int k (m : Nat))))) (hy : Is (ev env y) (.agg (ys.map fun m => LV.raw (.int k (m : Nat))))) (lx : xs.length = n) (ly : ys.length = n) :
    LU P env H ⟨d, .binOp .neq t x y t', ty, pos, af, g⟩ (.raw (.bool (!decide (xs = ys)))) := LU.neqA hx hy (RawL.map _) (RawL.map _) hg (by decide) (EqR.arr ht he hsz xs ys lx ly)
def xor8 (a b : Nat) : Nat := (a ^^^ b) % 256
def and8 (a b : Nat) : Nat := (a &&& b) % 256
def or8 (a b : Nat) : Nat := (a ||| b) % 256
theorem bits8 (op : BinOp) (a b : Nat) : bitsOf op .u8 a b = (((match op with | .and => BitVec.ofNat 8 a &&& BitVec.ofNat 8 b | .or => BitVec.ofNat 8 a ||| BitVec.ofNat 8 b | .xor => BitVec.ofNat 8 a ^^^ BitVec.ofNat 8 b | _ => BitVec.ofNat 8 a &&& ~~~BitVec.ofNat 8 b : BitVec 8).toNat : Nat) : Int) := by
  have e : ∀ n : Nat, (BitVec.ofInt IntKind.u8.bits (n : Int)) = BitVec.ofNat 8 n := fun n => BitVec.ofInt_natCast _ _
  unfold bitsOf
  simp only [e]
  rw [wrapN8]
  congr 1
  apply Nat.mod_eq_of_lt
  exact BitVec.isLt _
theorem bits8_xor (a b : Nat) : bitsOf .xor .u8 a b = ((xor8 a b : Nat) : Int) := by
  rw [bits8]; simp [xor8, Nat.xor_mod_two_pow (n := 8)]
theorem bits8_and (a b : Nat) : bitsOf .and .u8 a b = ((and8 a b : Nat) : Int) := by
  rw [bits8]; simp [and8, Nat.and_mod_two_pow (n := 8)]
theorem bits8_or (a b : Nat) : bitsOf .or .u8 a b = ((or8 a b : Nat) : Int) := by
  rw [bits8]; simp [or8, Nat.or_mod_two_pow (n := 8)]
theorem LU.xor8 {x y : Operand} {t t' : TypeId} {a b : Nat} (hx : Is (ev env x) (u8 a)) (hy : Is (ev env y) (u8 b)) : LU P env H ⟨d, .binOp .xor t x y t', ty, pos, af, g⟩ (u8 (Go.L.xor8 a b)) := by
  have := LU.xor (P := P) (env := env) (H := H) (d := d) (ty := ty) (pos := pos) (af := af) (g := g) (t := t) (t' := t') hx hy
  rwa [bits8_xor] at this
theorem LU.and8 {x y : Operand} {t t' : TypeId} {a b : Nat} (hx : Is (ev env x) (u8 a)) (hy : Is (ev env y) (u8 b)) : LU P env H ⟨d, .binOp .and t x y t', ty, pos, af, g⟩ (u8 (Go.L.and8 a b)) := by
  have := LU.and (P := P) (env := env) (H := H) (d := d) (ty := ty) (pos := pos) (af := af) (g := g) (t := t) (t' := t') hx hy
  rwa [bits8_and] at this
theorem LU.or8 {x y : Operand} {t t' : TypeId} {a b : Nat} (hx : Is (ev env x) (u8 a)) (hy : Is (ev env y) (u8 b)) : LU P env H ⟨d, .binOp .or t x y t', ty, pos, af, g⟩ (u8 (Go.L.or8 a b)) := by
  have := LU.or (P := P) (env := env) (H := H) (d := d) (ty := ty) (pos := pos) (af := af) (g := g) (t := t) (t' := t') hx hy
  rwa [bits8_or] at this
end
theorem xor8_lt (a b : Nat) : xor8 a b < 256 := Nat.mod_lt _ (by decide)
theorem or8_lt (a b : Nat) : or8 a b < 256 := Nat.mod_lt _ (by decide)
theorem and8_lt (a b : Nat) : and8 a b < 256 := Nat.mod_lt _ (by decide)
theorem xor8_zero {a b : Nat} (ha : a < 256) (hb : b < 256) : xor8 a b = 0 ↔ a = b := by
  unfold xor8
  rw [Nat.mod_eq_of_lt (Nat.xor_lt_two_pow (n := 8) ha hb)]
  constructor
  · intro h
    have h1 : (a ^^^ b) ^^^ b = a := by rw [Nat.xor_assoc, Nat.xor_self, Nat.xor_zero]
    rw [h, Nat.zero_xor] at h1
    exact h1.symm
  · rintro rfl
    exact Nat.xor_self _
theorem or8_zero {a b : Nat} (ha : a < 256) (hb : b < 256) : or8 a b = 0 ↔ a = 0 ∧ b = 0 := by
  unfold or8
  rw [Nat.mod_eq_of_lt (Nat.or_lt_two_pow (n := 8) ha hb), Nat.or_eq_zero_iff]
theorem and8_15 (a : Nat) : and8 a 15 = a % 16 := by
  unfold and8
  rw [show (15 : Nat) = 2 ^ 4 - 1 from rfl, Nat.and_two_pow_sub_one_eq_mod]
  omega
/-! ### what is owned, from now on known -/
theorem Inv.addKnown {w0 : Base} {ph : PH} {w : World} {H : List Atom} {g : Nat} {xs : List LV} (h : Inv w0 ph w H) (hr : Rep ph (.pointer (some ⟨g, 0, none⟩)) (.pin xs)) : Inv w0 ph w (.known g xs :: H) := by
  obtain ⟨hb, hc, h1, F, hs, hF⟩ := h
  exact ⟨hb, hc, h1, F, ⟨fun _ _ => False, F, ⟨fun _ _ h => h, hr⟩, hs, fun b o => by simp, fun _ _ h => h.elim⟩, hF⟩
theorem Inv.know' {w0 : Base} {ph : PH} {w : World} {H : List Atom} {b : Nat} {t : TypeId} {xs : List LV} (h : Inv w0 ph w (.cells b t xs :: H)) : ∃ ph', PH.le ph ph' ∧ Inv w0 ph' w (.known b xs :: H) := by
  obtain ⟨cs, ph', hle, hi, hc, hsz, hp⟩ := h.freeze
  refine ⟨ph', hle, hi.addKnown ?_⟩
  have hlt : ∀ (j : Nat) (x : LV), xs[j]? = some x → j < cs.size := fun j x hx => by rw [hsz]; exact (List.getElem?_eq_some_iff.1 hx).1
  refine .pin xs _ (fun j => cs.getD j undef) (fun j x hx => ?_) (fun j x hx => ?_)
  · have := hlt j x hx
    rw [add_lit, Nat.zero_add, hp j this]
    simp [this]
  · have h1 := hlt j x hx
    simp only [Array.getD_eq_getD_getElem?, Array.getElem?_eq_getElem h1, Option.getD_some]
    exact hc.1.2 j _ _ (Array.getElem?_eq_getElem h1) hx
theorem Inv.knowAt {w0 : Base} {ph : PH} {w : World} {H : List Atom} {b : Nat} {t : TypeId} {xs : List LV} (k : Nat) (hk : H[k]? = some (.cells b t xs)) (h : Inv w0 ph w H) : ∃ ph', PH.le ph ph' ∧ Inv w0 ph' w (.known b xs :: H.eraseIdx k) := by
  have hinv := h.front k
  unfold L.front at hinv
  rw [hk] at hinv
  exact hinv.know'
theorem LW.know {P : Program} {n : NN} {env : List (Nat × LV)} {H : List Atom} {c : Code} {Q : Exit → LS → Prop} {b : Nat} {te : TypeId} {xs : List LV} (k : Nat) (hk : H[k]? = some (.cells b te xs)) (h : LW P c ⟨n, env, .known b xs :: H.eraseIdx k⟩ Q) : LW P c ⟨n, env, H⟩ Q := fun w0 ph a w r Q' q => by
  obtain ⟨ph', hle, hi⟩ := Inv.knowAt k hk r.inv
  exact h w0 ph' a w ⟨hi, r.defers, r.size, fun i => (r.tmps i).mono hle⟩ Q' fun e ph2 st2 a2 w2 hle2 r2 q2 => q e ph2 st2 a2 w2 (hle.trans hle2) r2 q2
theorem LL.know {P : Program} {n : NN} {env : List (Nat × LV)} {H : List Atom} {ops : Array Oper} {l : List Oper} {K : LS → Prop} {b : Nat} {te : TypeId} {xs : List LV} (k : Nat) (hk : H[k]? = some (.cells b te xs)) (h : LL P ops l ⟨n, env, .known b xs :: H.eraseIdx k⟩ K) : LL P ops l ⟨n, env, H⟩ K := fun w0 ph a w r Q q => by
  obtain ⟨ph', hle, hi⟩ := Inv.knowAt k hk r.inv
  exact h w0 ph' a w ⟨hi, r.defers, r.size, fun i => (r.tmps i).mono hle⟩ Q fun ph2 st2 a2 w2 hle2 r2 q2 => q ph2 st2 a2 w2 (hle.trans hle2) r2 q2
section
variable {P : Program} {env : List (Nat × LV)} {H : List Atom} {d : Option Tmp} {ty : TypeId} {pos : String} {af : Array Edge} {g : Option (Nat × Bool)}
abbrev singles (xs : List LV) : List (List LV) := xs.map fun x => [x]
theorem known_sl {w0 : Base} {ph : PH} {w : World} (hinv : Inv w0 ph w H) {k b off m c : Nat} {xs : List LV} {kk : Cap} (hk : H[k]? = some (.known b xs)) (hm : off + m ≤ xs.length) (hc : m ≤ c) (hcap : CapOk (some ⟨b, off, none⟩) m c 1 kk) : Rep ph (.slice (some ⟨b, off, none⟩) m c) (.sl 1 (singles ((xs.drop off).take m)) kk) := by
  obtain ⟨F, hF, hh⟩ := hinv.atom_at hk
  generalize hq : (Value.pointer (some ⟨b, 0, none⟩)) = q at hh
  cases hh with | pin _ ad uf hp hr =>
    cases hq
    have key : ∀ (i : Nat) (e : List LV) (j : Nat) (x : LV), (singles ((xs.drop off).take m))[i]? = some e → e[j]? = some x → j = 0 ∧ xs[off + i]? = some x := fun i e j x h1 h2 => by
      simp only [singles, List.getElem?_map, List.getElem?_take, List.getElem?_drop] at h1
      split at h1
      · cases hx : xs[off + i]? with
        | none => rw [hx] at h1; cases h1
        | some y =>
          rw [hx] at h1
          obtain rfl : [y] = e := by simpa using h1
          cases j with
          | zero => exact ⟨rfl, by simpa using h2⟩
          | succ j => simp at h2
      · cases h1
    refine .sl 1 _ kk _ m c ⟨b, off, none⟩ (fun j => uf (off + j)) (fun _ => rfl) (by simp; omega) hc (fun e he => ?_) hcap (fun i e j x h1 h2 => ?_) (fun i e j x h1 h2 => ?_)
    · obtain ⟨x, _, rfl⟩ := List.mem_map.1 he
      rfl
    · obtain ⟨rfl, h3⟩ := key i e j x h1 h2
      have := hp _ _ h3
      rw [add_lit] at this ⊢
      simpa using this
    · obtain ⟨rfl, h3⟩ := key i e j x h1 h2
      have := hr _ _ h3
      simpa using this
theorem LU.sliceKA {x : Operand} {t e : TypeId} {n b off : Nat} {xs : List LV} (k : Nat) (hk : H[k]? = some (.known b xs)) (ht : P.underlying t = some (.array n e)) (hs : ∀ w, (sizeOf e).run P w = .ok 1 w) (hx : Is (ev env x) (.raw (.pointer (some ⟨b, off, none⟩)))) (hm : off + n ≤ xs.length) :
    LU P env H ⟨d, .slice t x none none none, ty, pos, af, g⟩ (.sl 1 (singles ((xs.drop off).take n)) .full) := .of_run fun ph a hl w0 w hinv => by
  have h1 := (hx _ _ (hl x (by simp [Op.operands]))).rawE
  have hal : P.arrayLen t = n := by simp [Program.arrayLen, ht]
  have hel : P.elem t = e := by simp [Program.elem, ht]
  refine ⟨_, ?_, known_sl hinv hk hm (Nat.le_refl _) rfl⟩
  have := run_sliceAt_array_all (P := P) w t ⟨b, off, none⟩ (by rw [hal, hel]; exact ht)
  simp only [execOp, Option.map_none, h1, Sem.run_bind, this, hel, hs, Result.andThen_ok, hal, slicedAt, Sem.run_pure]
  have e1 : (0 : Nat) * 1 = 0 := rfl
  have e0 : (if n = 0 then (⟨b, off, none⟩ : Addr) else (⟨b, off, none⟩ : Addr).add (0 * 1)) = ⟨b, off, none⟩ := by split <;> simp [add_lit]
  rw [e0]
  simp
end
/-! ### texts as lists -/
section
variable {P : Program} {env : List (Nat × LV)} {H : List Atom} {d : Option Tmp} {ty : TypeId} {pos : String} {af : Array Edge} {g : Option (Nat × Bool)}
theorem strL (a : ByteArray) : (⟨a.data.toList.toArray⟩ : ByteArray) = a := by cases a; simp
theorem bytes_toList (l : List UInt8) : (⟨l.toArray⟩ : ByteArray).toList = l := by
  have : ∀ (a : ByteArray), a.toList = a.data.toList := fun a => ByteArray.toList_eq a
  rw [this]
theorem LU.streqN {x y : Operand} {t t' : TypeId} {a b : List UInt8} (hx : Is (ev env x) (Str a)) (hy : Is (ev env y) (Str b)) : LU P env H ⟨d, .binOp .eql t x y t', ty, pos, af, g⟩ (.raw (.bool (decide (a = b)))) := by
  have := LU.streq (P := P) (H := H) (d := d) (ty := ty) (pos := pos) (af := af) (g := g) (t := t) (t' := t') hx hy
  rwa [bytes_toList, bytes_toList, show (a == b) = decide (a = b) from by rw [Bool.eq_iff_iff]; simp] at this
theorem LU.strneN {x y : Operand} {t t' : TypeId} {a b : List UInt8} (hx : Is (ev env x) (Str a)) (hy : Is (ev env y) (Str b)) : LU P env H ⟨d, .binOp .neq t x y t', ty, pos, af, g⟩ (.raw (.bool (decide (a ≠ b)))) := by
  have := LU.strne (P := P) (H := H) (d := d) (ty := ty) (pos := pos) (af := af) (g := g) (t := t) (t' := t') hx hy
  rwa [bytes_toList, bytes_toList, show (!(a == b)) = decide (a ≠ b) from by rw [Bool.eq_iff_iff]; simp] at this
theorem LU.strcatN {x y : Operand} {t t' : TypeId} {a b : List UInt8} (hx : Is (ev env x) (Str a)) (hy : Is (ev env y) (Str b)) (hl : a.length + b.length ≤ 9223372036854775807) : LU P env H ⟨d, .binOp .add t x y t', ty, pos, af, g⟩ (Str (a ++ b)) := by
  have := LU.strcat (P := P) (H := H) (d := d) (ty := ty) (pos := pos) (af := af) (g := g) (t := t) (t' := t') hx hy (by simpa [ByteArray.size] using hl)
  rwa [show ((⟨a.toArray⟩ : ByteArray) ++ ⟨b.toArray⟩) = ⟨(a ++ b).toArray⟩ by apply ByteArray.ext; simp [ByteArray.data_append]] at this
theorem LU.stratN {x y : Operand} {t : TypeId} {l : List UInt8} {k : IntKind} {i : Int} (ht : P.underlying t = some .string) (hx : Is (ev env x) (Str l)) (hy : Is (ev env y) (.raw (.int k i))) (h0 : 0 ≤ i) (h1 : i.toNat < l.length) : LU P env H ⟨d, .index t x y, ty, pos, af, g⟩ (u8 (l.getD i.toNat 0).toNat) := by
  have := LU.strat (P := P) (H := H) (d := d) (ty := ty) (pos := pos) (af := af) (g := g) ht hx hy h0 (by simpa [ByteArray.size] using h1)
  rwa [show ((⟨l.toArray⟩ : ByteArray)[i.toNat]'(by simpa [ByteArray.size] using h1)) = l.getD i.toNat 0 by simp [ByteArray.getElem_eq_getElem_data, List.getD, h1]] at this
theorem LU.strsliceN {x : Operand} {t : TypeId} {s : List UInt8} {lo hi : Option Operand} {l h : Option Int} (ht : P.underlying t = some .string) (hl : optInt env lo l) (hh : optInt env hi h) (h0 : 0 ≤ l.getD 0) (h1 : l.getD 0 ≤ h.getD s.length) (h2 : h.getD s.length ≤ s.length) (hx : Is (ev env x) (Str s)) :
    LU P env H ⟨d, .slice t x lo hi none, ty, pos, af, g⟩ (Str ((s.drop (l.getD 0).toNat).take ((h.getD s.length).toNat - (l.getD 0).toNat))) := by
  have e : ((⟨s.toArray⟩ : ByteArray).size : Int) = s.length := by simp [ByteArray.size]
  have := LU.strslice (P := P) (H := H) (d := d) (ty := ty) (pos := pos) (af := af) (g := g) ht hl hh h0 (by rw [e]; exact h1) (by rw [e]; exact h2) hx
  rw [e] at this
  rwa [show (⟨s.toArray⟩ : ByteArray).extract (l.getD 0).toNat (h.getD s.length).toNat = ⟨((s.drop (l.getD 0).toNat).take ((h.getD s.length).toNat - (l.getD 0).toNat)).toArray⟩ by
    apply ByteArray.ext
    apply Array.ext'
    simp [ByteArray.data_extract, List.take_drop]] at this
end
end Go.L
