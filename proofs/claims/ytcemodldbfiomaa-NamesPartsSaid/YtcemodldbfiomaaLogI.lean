/- The logic's rules, in the forms that a printed walk uses. Plain theorems over any program. -/
import Derived.Test.YtcemodldbfiomaaLogH
import Derived.Laws.StructEq
import Derived.Laws.Small
set_option linter.unusedVariables false
set_option linter.unusedSimpArgs false
namespace Go.L
open Go.RowKit

theorem Is.whenN {b : Bool} {x : LV} (h : b = false) : Is (.when (!b) x) x := Is.whenE (by rw [h]; rfl)
theorem wrap_i64 {a : Int} (h0 : -9223372036854775808 ≤ a) (h1 : a < 9223372036854775808) : IntKind.i64.wrap a = a := by rw [IntKind.wrap_i64]; omega
theorem wrap_u64 {a : Int} (h0 : 0 ≤ a) (h1 : a < 18446744073709551616) : IntKind.u64.wrap a = a := by
  simp only [IntKind.wrap, IntKind.bits, IntKind.signed, Bool.false_and, Bool.false_eq_true, if_false]
  exact Int.emod_eq_of_lt h0 h1
theorem wrap_u32 {a : Int} (h0 : 0 ≤ a) (h1 : a < 4294967296) : IntKind.u32.wrap a = a := by
  simp only [IntKind.wrap, IntKind.bits, IntKind.signed, Bool.false_and, Bool.false_eq_true, if_false]
  exact Int.emod_eq_of_lt h0 h1
theorem wrap_u8 {a : Int} (h0 : 0 ≤ a) (h1 : a < 256) : IntKind.u8.wrap a = a := by
  simp only [IntKind.wrap, IntKind.bits, IntKind.signed, Bool.false_and, Bool.false_eq_true, if_false]
  exact Int.emod_eq_of_lt h0 h1
theorem ones {cs : Array Value} (h : cs.toList.all (·.oneCell') = true) : ∀ (i : Nat) (c : Value), cs[i]? = some c → c.oneCell' = true := fun i c hc => List.all_eq_true.1 h c (by simpa using Array.mem_of_getElem? hc)
theorem Part.whole {size : Nat} {cs : List LV} (h : cs.length = size) : Part size true cs 0 (.agg cs) := ⟨by omega, by rw [List.drop_zero, List.take_of_length_le (by omega)]⟩
theorem Part.sub {size off : Nat} {cs : List LV} (h : off + size ≤ cs.length) : Part size true cs off (.agg ((cs.drop off).take size)) := ⟨h, rfl⟩
theorem Part.one {size off : Nat} {cs : List LV} {v : LV} (h : cs[off]? = some v) : Part size false cs off v := h
theorem byteEls_length (l : List UInt8) : (byteEls l).length = l.length := by simp [byteEls]
theorem byteEls_append (l m : List UInt8) : byteEls (l ++ m) = byteEls l ++ byteEls m := by simp [byteEls]
theorem byteEls_at {l : List UInt8} {i : Int} (h0 : 0 ≤ i) (h : i.toNat < l.length) : (byteEls l)[i.toNat]? = some [.raw (.int .u8 (l[i.toNat].toNat))] := by simp [byteEls, h]
theorem byteEls_drop (l : List UInt8) (n : Nat) : (byteEls l).drop n = byteEls (l.drop n) := by simp [byteEls]
theorem byteEls_take (l : List UInt8) (n : Nat) : (byteEls l).take n = byteEls (l.take n) := by simp [byteEls]
/-- Whole numbers, as elements. -/
def intEls (l : List Int) : List (List LV) := l.map fun x => [.raw (.int .i64 x)]
abbrev Ints (l : List Int) (k : Cap) : LV := .sl 1 (intEls l) k
theorem intEls_length (l : List Int) : (intEls l).length = l.length := by simp [intEls]
theorem intEls_append (l m : List Int) : intEls (l ++ m) = intEls l ++ intEls m := by simp [intEls]
theorem intEls_at {l : List Int} {i : Int} (h0 : 0 ≤ i) (h : i.toNat < l.length) : (intEls l)[i.toNat]? = some [.raw (.int .i64 l[i.toNat])] := by simp [intEls, h]
theorem intEls_atN {l : List Int} {k : Nat} (h : k < l.length) : (intEls l)[((k : Nat) : Int).toNat]? = some [.raw (.int .i64 l[k])] := by simp [intEls, h]
theorem mapEls_at {α : Type} {l : List α} {f : α → List LV} {k : Nat} (h : k < l.length) : (l.map f)[((k : Nat) : Int).toNat]? = some (f l[k]) := by simp [h]
theorem intEls_drop (l : List Int) (n : Nat) : (intEls l).drop n = intEls (l.drop n) := by simp [intEls]
theorem intEls_take (l : List Int) (n : Nat) : (intEls l).take n = intEls (l.take n) := by simp [intEls]
theorem intEls_size (l : List Int) : ∀ e ∈ intEls l, e.length = 1 := fun e he => by
  obtain ⟨b, _, rfl⟩ := List.mem_map.1 he
  rfl
theorem raw_int {k : IntKind} {a b : Int} (h : a = b) : LV.raw (.int k a) = .raw (.int k b) := by rw [h]
section
variable {P : Program} {env : List (Nat × LV)} {H : List Atom} {d : Option Tmp} {ty : TypeId} {pos : String} {af : Array Edge} {g : Option (Nat × Bool)} {st : LS} {K : LS → Prop}
theorem LU.moveR {x : Operand} {v : Value} (h : Is (ev env x) (.raw v)) : LU P env H ⟨d, .move x, ty, pos, af, g⟩ (.raw v) := .move h
theorem LU.moveS {x : Operand} {s : Nat} {es : List (List LV)} {k : Cap} (h : Is (ev env x) (.sl s es k)) : LU P env H ⟨d, .move x, ty, pos, af, g⟩ (.sl s es k) := .move h
theorem LU.moveA {x : Operand} {cs : List LV} (h : Is (ev env x) (.agg cs)) : LU P env H ⟨d, .move x, ty, pos, af, g⟩ (.agg cs) := .move h
theorem LU.moveT {x : Operand} {cs : List LV} (h : Is (ev env x) (.tup cs)) : LU P env H ⟨d, .move x, ty, pos, af, g⟩ (.tup cs) := .move h
theorem LU.moveP {x : Operand} {cs : List LV} (h : Is (ev env x) (.pin cs)) : LU P env H ⟨d, .move x, ty, pos, af, g⟩ (.pin cs) := .move h
theorem LU.assignR {x : Operand} {v : Value} (h : Is (ev env x) (.raw v)) : LU P env H ⟨d, .assign x, ty, pos, af, g⟩ (.raw v) := .assign h
theorem LU.assignS {x : Operand} {s : Nat} {es : List (List LV)} {k : Cap} (h : Is (ev env x) (.sl s es k)) : LU P env H ⟨d, .assign x, ty, pos, af, g⟩ (.sl s es k) := .assign h
theorem LU.assignA {x : Operand} {cs : List LV} (h : Is (ev env x) (.agg cs)) : LU P env H ⟨d, .assign x, ty, pos, af, g⟩ (.agg cs) := .assign h
theorem LU.assignT {x : Operand} {cs : List LV} (h : Is (ev env x) (.tup cs)) : LU P env H ⟨d, .assign x, ty, pos, af, g⟩ (.tup cs) := .assign h
theorem LU.assignP {x : Operand} {cs : List LV} (h : Is (ev env x) (.pin cs)) : LU P env H ⟨d, .assign x, ty, pos, af, g⟩ (.pin cs) := .assign h
theorem LU.addN {x y : Operand} {t t' : TypeId} {k : IntKind} {a b c : Int} (hx : Is (ev env x) (.raw (.int k a))) (hy : Is (ev env y) (.raw (.int k b))) (hw : k.wrap (a + b) = c) : LU P env H ⟨d, .binOp .add t x y t', ty, pos, af, g⟩ (.raw (.int k c)) := hw ▸ .add hx hy
theorem LU.subN {x y : Operand} {t t' : TypeId} {k : IntKind} {a b c : Int} (hx : Is (ev env x) (.raw (.int k a))) (hy : Is (ev env y) (.raw (.int k b))) (hw : k.wrap (a - b) = c) : LU P env H ⟨d, .binOp .sub t x y t', ty, pos, af, g⟩ (.raw (.int k c)) := hw ▸ .sub hx hy
theorem LU.mulN {x y : Operand} {t t' : TypeId} {k : IntKind} {a b c : Int} (hx : Is (ev env x) (.raw (.int k a))) (hy : Is (ev env y) (.raw (.int k b))) (hw : k.wrap (a * b) = c) : LU P env H ⟨d, .binOp .mul t x y t', ty, pos, af, g⟩ (.raw (.int k c)) := hw ▸ .mul hx hy
theorem LU.convN {x : Operand} {s t : TypeId} {ds : TypeDesc} {k k' : IntKind} {a c : Int} (hs : P.underlying s = some ds) (ht : P.underlying t = some (.int k)) (hx : Is (ev env x) (.raw (.int k' a))) (hw : k.wrap a = c) : LU P env H ⟨d, .convert s t x, ty, pos, af, g⟩ (.raw (.int k c)) := hw ▸ .conv hs ht hx
theorem LU.lenN {x : Operand} {t e : TypeId} {size n : Nat} {es : List (List LV)} {k : Cap} (ht : P.underlying t = some (.slice e)) (hx : Is (ev env x) (.sl size es k)) (hn : es.length = n) : LU P env H ⟨d, .call { callee := .builtin .len, args := #[x], argTypes := #[t] }, ty, pos, af, g⟩ (.raw (.int .i64 n)) := hn ▸ .len ht hx
theorem LU.strlenN {x : Operand} {t : TypeId} {l : List UInt8} (ht : P.underlying t = some .string) (hx : Is (ev env x) (Str l)) : LU P env H ⟨d, .call { callee := .builtin .len, args := #[x], argTypes := #[t] }, ty, pos, af, g⟩ (.raw (.int .i64 l.length)) := by
  have := LU.strlen (P := P) (H := H) (d := d) (ty := ty) (pos := pos) (af := af) (g := g) ht hx
  simpa [ByteArray.size] using this
theorem LU.booleq {x y : Operand} {t t' : TypeId} {a b : Bool} (ht : P.underlying t = some .bool) (hx : Is (ev env x) (.raw (.bool a))) (hy : Is (ev env y) (.raw (.bool b))) : LU P env H ⟨d, .binOp .eql t x y t', ty, pos, af, g⟩ (.raw (.bool (a == b))) := .raw fun ac hl w => by
  have h1 := hl x (by simp [Op.operands]) _ hx
  have h2 := hl y (by simp [Op.operands]) _ hy
  have he : (Op.equal t (.bool a) (.bool b)).run P w = .ok (a == b) w := by
    rw [show Op.equal t (.bool a) (.bool b) = Op.equalIn (9999 + 1) t (.bool a) (.bool b) from rfl, Op.equalIn]
    rw [Sem.run_bind, run_underlying ht, Result.andThen_ok]
    rfl
  have hg : (eqGuard .eql t x y (.bool a) (.bool b)).run P w = .ok () w := by unfold eqGuard; simp
  have hb : binOp .eql t (.bool a) (.bool b) = (do pure (.bool (← Op.equal t (.bool a) (.bool b)))) := rfl
  simp only [execOp, h1, h2, Sem.run_bind, hg, Result.andThen_ok, hb, he, Sem.run_pure]
theorem LU.boolne {x y : Operand} {t t' : TypeId} {a b : Bool} (ht : P.underlying t = some .bool) (hx : Is (ev env x) (.raw (.bool a))) (hy : Is (ev env y) (.raw (.bool b))) : LU P env H ⟨d, .binOp .neq t x y t', ty, pos, af, g⟩ (.raw (.bool (!(a == b)))) := .raw fun ac hl w => by
  have h1 := hl x (by simp [Op.operands]) _ hx
  have h2 := hl y (by simp [Op.operands]) _ hy
  have he : (Op.equal t (.bool a) (.bool b)).run P w = .ok (a == b) w := by
    rw [show Op.equal t (.bool a) (.bool b) = Op.equalIn (9999 + 1) t (.bool a) (.bool b) from rfl, Op.equalIn]
    rw [Sem.run_bind, run_underlying ht, Result.andThen_ok]
    rfl
  have hg : (eqGuard .neq t x y (.bool a) (.bool b)).run P w = .ok () w := by unfold eqGuard; simp
  have hb : binOp .neq t (.bool a) (.bool b) = (do pure (.bool (!(← Op.equal t (.bool a) (.bool b))))) := rfl
  simp only [execOp, h1, h2, Sem.run_bind, hg, Result.andThen_ok, hb, he, Sem.run_pure]
/-- A slice of bytes, cut. -/
theorem LU.sliceB {x : Operand} {t e : TypeId} {l : List UInt8} {k : Cap} {lo hi : Option Operand} {i j : Option Int} {m : List UInt8} (hs : ∀ w, (sizeOf e).run P w = .ok 1 w) (ht : P.underlying t = some (.slice e)) (hx : Is (ev env x) (Bytes l k)) (hl : optInt env lo i) (hh : optInt env hi j)
    (h0 : 0 ≤ i.getD 0) (h1 : i.getD 0 ≤ j.getD l.length) (h2 : j.getD l.length ≤ l.length) (hm : (l.drop (i.getD 0).toNat).take ((j.getD l.length).toNat - (i.getD 0).toNat) = m) :
    LU P env H ⟨d, .slice t x lo hi none, ty, pos, af, g⟩ (Bytes m .unk) := by
  have := LU.slice (P := P) (H := H) (d := d) (ty := ty) (pos := pos) (af := af) (g := g) hs (by omega) ht hx hl hh h0 (by simpa [byteEls_length] using h1) (by simpa [byteEls_length] using h2) .unk (.inl rfl)
  rw [byteEls_length, byteEls_drop, byteEls_take, hm] at this
  exact this
/-- The elements of a literal, in their order. -/
def Elems (env : List (Nat × LV)) : Nat → List (Nat × Operand) → List (List LV) → Prop
  | _, [], [] => True
  | k, (i, x) :: ps, c :: es => i = k ∧ (∃ v, Is (ev env x) v ∧ Cells v c) ∧ Elems env (k + 1) ps es
  | _, _, _ => False
theorem LU.quoN {x y : Operand} {t t' : TypeId} {k : IntKind} {a b c : Int} (hx : Is (ev env x) (.raw (.int k a))) (hy : Is (ev env y) (.raw (.int k b))) (hb : b ≠ 0) (hw : k.wrap (a.tdiv b) = c) : LU P env H ⟨d, .binOp .quo t x y t', ty, pos, af, g⟩ (.raw (.int k c)) := hw ▸ .quo hx hy hb
theorem tdiv_i64 {a b : Int} (h0 : -9223372036854775808 ≤ a) (h1 : a < 9223372036854775808) (hb : 1 ≤ b) : IntKind.i64.wrap (a.tdiv b) = a.tdiv b := by
  have h2 : (a.tdiv b).natAbs ≤ a.natAbs := by rw [Int.natAbs_tdiv]; exact Nat.div_le_self _ _
  rw [IntKind.wrap_i64]
  have h3 : b = 1 ∨ 2 ≤ b := by omega
  rcases h3 with rfl | h3
  · rw [Int.tdiv_one]; omega
  · have h4 : (a.tdiv b).natAbs ≤ a.natAbs / 2 := by rw [Int.natAbs_tdiv]; exact Nat.div_le_div_left (by omega) (by omega)
    omega
/-- A call that reads what is owned. -/
theorem LU.call1 {f : FuncId} {fn : Func} {as : Array Operand} {ts : Array TypeId} {vs : List LV} {v : LV} {a : Atom} (k : Nat) (hk : H[k]? = some a) (hc : LCalls P f vs [a] (fun r H' => r = v ∧ H' = [a])) (hf : P.funcs[f]? = some fn) (hname : (fn.name == "runtime.NumGoroutine") = false) (hb : fn.body.isSome = true) (ha : Opds env as.toList vs) :
    LU P env H ⟨d, .call { callee := .value (.func f), args := as, argTypes := ts }, ty, pos, af, g⟩ v := fun w0 ph ac w hi hl N Q kk => by
  have hargs := ha.reps (a := ac) (ph := ph) (fun x hx => hl x (by simp only [Op.operands, Call.operands]; exact Array.mem_append.2 (.inr (by simpa using hx))))
  have hrun : (execOp ac.eval ⟨d, .call { callee := .value (.func f), args := as, argTypes := ts }, ty, pos, af, g⟩).run P w = .ok (.enter f (as.map ac.eval)) w := by
    simp [execOp, resolve, Deferred.ofValue, invoke, Act.eval, enters hf hname hb]
  unfold owp
  rw [hrun]
  refine upon_enter ?_
  have hfr : L.front k H = [a] ++ H.eraseIdx k := by unfold L.front; rw [hk]; rfl
  have hperm := front_perm k H
  rw [hfr] at hperm
  refine (hc (H.eraseIdx k) w0 ph w (as.map ac.eval) ((HSub.perm hperm).app hi) (by rw [map_arr ac.eval as]; exact hargs)).mono ?_
  rintro e w' ⟨u, ph', x, H', rfl, hle, hi', hx, rfl, rfl⟩
  exact kk ph' _ w' hle ((HSub.perm hperm.symm).app hi') hx
/-- The same of more things. -/
theorem LU.callP {f : FuncId} {fn : Func} {as : Array Operand} {ts : Array TypeId} {vs : List LV} {v : LV} {Hc R : List Atom} (hp : H.Perm (Hc ++ R)) (hc : LCalls P f vs Hc (fun r H' => r = v ∧ H' = Hc)) (hf : P.funcs[f]? = some fn) (hname : (fn.name == "runtime.NumGoroutine") = false) (hb : fn.body.isSome = true) (ha : Opds env as.toList vs) :
    LU P env H ⟨d, .call { callee := .value (.func f), args := as, argTypes := ts }, ty, pos, af, g⟩ v := fun w0 ph ac w hi hl N Q kk => by
  have hargs := ha.reps (a := ac) (ph := ph) (fun x hx => hl x (by simp only [Op.operands, Call.operands]; exact Array.mem_append.2 (.inr (by simpa using hx))))
  have hrun : (execOp ac.eval ⟨d, .call { callee := .value (.func f), args := as, argTypes := ts }, ty, pos, af, g⟩).run P w = .ok (.enter f (as.map ac.eval)) w := by
    simp [execOp, resolve, Deferred.ofValue, invoke, Act.eval, enters hf hname hb]
  unfold owp
  rw [hrun]
  refine upon_enter ?_
  refine (hc R w0 ph w (as.map ac.eval) ((HSub.perm hp).app hi) (by rw [map_arr ac.eval as]; exact hargs)).mono ?_
  rintro e w' ⟨u, ph', x, H', rfl, hle, hi', hx, rfl, rfl⟩
  exact kk ph' _ w' hle ((HSub.perm hp.symm).app hi') hx
theorem hsub_front {a : Atom} {k : Nat} (hk : H[k]? = some a) : HSub H ([a] ++ H.eraseIdx k) := by
  have hfr : L.front k H = [a] ++ H.eraseIdx k := by unfold L.front; rw [hk]; rfl
  have := front_perm k H
  rw [hfr] at this
  exact HSub.perm this
theorem LO.call1 {f : FuncId} {fn : Func} {as : Array Operand} {ts : Array TypeId} {vs : List LV} {post : LV → List Atom → Prop} {d : Tmp} {a : Atom} (k : Nat) (hk : st.heap[k]? = some a) (hc : LCalls P f vs [a] post) (hf : P.funcs[f]? = some fn) (hname : (fn.name == "runtime.NumGoroutine") = false) (hb : fn.body.isSome = true) (hd : Nat.blt d st.n.k = true) (ha : Opds st.env as.toList vs)
    (h : ∀ r H', post r H' → K ⟨st.n, (d, r) :: st.env, H' ++ st.heap.eraseIdx k⟩) : LO P ⟨some d, .call { callee := .value (.func f), args := as, argTypes := ts }, ty, pos, af, g⟩ st K := LO.call hc hf hname hb hd (hsub_front hk) ha h
theorem Elems.nil {k : Nat} : Elems env k [] [] := trivial
theorem Elems.cons {k : Nat} {x : Operand} {v : LV} {c : List LV} {ps : List (Nat × Operand)} {es : List (List LV)} (h : Is (ev env x) v) (hc : Cells v c) (r : Elems env (k + 1) ps es) : Elems env k ((k, x) :: ps) (c :: es) := ⟨rfl, ⟨v, h, hc⟩, r⟩
theorem Elems.laid {size : Nat} : ∀ {ps : List (Nat × Operand)} {es : List (List LV)} {k : Nat} {pre rest : List LV}, Elems env k ps es → (∀ e ∈ es, e.length = size) → pre.length = k * size → rest.length = es.length * size → ∃ qs, Parts env ps qs ∧ L.laid (fun i => some (i * size, size)) (pre ++ rest) qs = some (pre ++ es.flatten)
  | [], [], k, pre, rest, _, _, _, hr => ⟨[], trivial, by
      obtain rfl : rest = [] := List.eq_nil_of_length_eq_zero (by simpa using hr)
      simp [L.laid]⟩
  | (i, x) :: ps, c :: es, k, pre, rest, ⟨hik, hv, hE⟩, hs, hp, hr => by
    subst hik
    have hc := hs c (by simp)
    simp only [List.length_cons, Nat.succ_mul] at hr
    have hput : putAt (pre ++ rest) (i * size) c = (pre ++ c) ++ rest.drop size := by
      unfold putAt
      rw [List.take_append_of_le_length (by omega), List.take_of_length_le (by omega), List.drop_append]
      rw [List.drop_of_length_le (by omega), List.nil_append, hp, hc, Nat.add_sub_cancel_left]
    obtain ⟨qs, h1, h2⟩ := Elems.laid (pre := pre ++ c) (rest := rest.drop size) hE (fun e he => hs e (List.mem_cons_of_mem _ he)) (by rw [List.length_append, hp, hc, Nat.succ_mul]) (by rw [List.length_drop]; omega)
    refine ⟨(i, c) :: qs, ⟨rfl, hv, h1⟩, ?_⟩
    have hcond : (Nat.beq c.length size && Nat.ble (i * size + c.length) (pre ++ rest).length) = true := by
      rw [Bool.and_eq_true]
      exact ⟨by rw [hc]; exact Nat.beq_refl _, Nat.ble_eq_true_of_le (by rw [List.length_append]; omega)⟩
    simp only [L.laid, hcond, cond_true, hput]
    rw [h2, List.flatten_cons, List.append_assoc]
  | [], _ :: _, _, _, _, h, _, _, _ => h.elim
  | _ :: _, [], _, _, _, h, _, _, _ => h.elim
/-- []T{a, b, ..} -/
theorem LU.lits {t e : TypeId} {n size : Nat} {ps : Array (Nat × Operand)} {es : List (List LV)} {z : Value} (ht : P.underlying t = some (.slice e)) (hs : ∀ w, (sizeOf e).run P w = .ok size w) (hz : ∀ w, (zeroValue e).run P w = .ok z w) (hz1 : ∀ (i : Nat) (c : Value), z.cells[i]? = some c → c.oneCell' = true) (hzs : z.cells.size = size) (hs0 : 0 < size) (hn : n * size ≤ 16777216)
    (hp : Elems env 0 ps.toList es) (hes : ∀ e ∈ es, e.length = size) (hen : es.length = n) : LU P env H ⟨d, .buildSlice t n ps, ty, pos, af, g⟩ (.sl size es .full) := by
  have hzl : ((List.replicate n (raws z.cells.toList)).flatten).length = n * size := by simp [raws, hzs]
  obtain ⟨qs, h1, h2⟩ := Elems.laid (pre := []) (rest := (List.replicate n (raws z.cells.toList)).flatten) hp hes (by simp) (by rw [hzl, hen])
  have := LU.lit (P := P) (H := H) (d := d) (ty := ty) (pos := pos) (af := af) (g := g) ht hs hz hz1 hzs hs0 hn h1 h2
  rw [List.nil_append, ← List.append_nil es.flatten, chunks_flat size es n [] hen hes] at this
  exact this
theorem Opds.nil : Opds env [] [] := trivial
theorem Opds.cons {x : Operand} {v : LV} {xs : List Operand} {vs : List LV} (h : Is (ev env x) v) (k : Opds env xs vs) : Opds env (x :: xs) (v :: vs) := ⟨h, k⟩
theorem Parts.nil : Parts env [] [] := trivial
theorem Parts.cons {i : Nat} {x : Operand} {v : LV} {c : List LV} {ps : List (Nat × Operand)} {qs : List (Nat × List LV)} (h : Is (ev env x) v) (hc : Cells v c) (k : Parts env ps qs) : Parts env ((i, x) :: ps) ((i, c) :: qs) := ⟨rfl, ⟨v, h, hc⟩, k⟩
/-! ### composites compared -/
def EqR (P : Program) (n : Nat) (t : TypeId) (x y : Value) (b : Bool) : Prop := ∀ d w, (Op.equalIn (d + n) t x y).run P w = .ok b w
theorem EqR.int {t : TypeId} {k k' : IntKind} {a b : Int} (h : P.underlying t = some (.int k')) : EqR P 1 t (.int k a) (.int k b) (decide (a = b)) := fun d w => by rw [run_equalIn_int w d t k k' a b h, beq_dec]
theorem EqR.bool {t : TypeId} {a b : Bool} (h : P.underlying t = some .bool) : EqR P 1 t (.bool a) (.bool b) (a == b) := fun d w => run_equalIn_bool' w d t a b h
theorem EqR.string {t : TypeId} {a b : ByteArray} (h : P.underlying t = some .string) : EqR P 1 t (.string a) (.string b) (a.toList == b.toList) := fun d w => run_equalIn_string w d t a b h
theorem EqR.up {n : Nat} {t : TypeId} {x y : Value} {b : Bool} (k : Nat) (h : EqR P n t x y b) : EqR P (n + k) t x y b := fun d w => by
  rw [show d + (n + k) = (d + k) + n by omega]
  exact h _ w
inductive RawL : List LV → List Value → Prop where
  | nil : RawL [] []
  | cons {v : Value} {l : List LV} {vs : List Value} (h : RawL l vs) : RawL (.raw v :: l) (v :: vs)
theorem RawL.eq : ∀ {l : List LV} {vs : List Value}, RawL l vs → l = raws vs
  | _, _, .nil => rfl
  | _, _, .cons h => by rw [h.eq]; rfl
theorem RawL.raws : ∀ (vs : List Value), RawL (L.raws vs) vs
  | [] => .nil
  | v :: vs => .cons (RawL.raws vs)
inductive EqFs (P : Program) (n : Nat) (xs ys : Array Value) : List Field → Bool → Prop where
  | nil : EqFs P n xs ys [] true
  | one {f : Field} {u v : Value} {b : Bool} (hn : (f.name != "_") = true) (hu : ∀ w, (part f.type xs f.offset).run P w = .ok u w) (hv : ∀ w, (part f.type ys f.offset).run P w = .ok v w) (he : EqR P n f.type u v b) : EqFs P n xs ys [f] b
  | cons {f : Field} {fs : List Field} {u v : Value} {b c : Bool} (hn : (f.name != "_") = true) (hu : ∀ w, (part f.type xs f.offset).run P w = .ok u w) (hv : ∀ w, (part f.type ys f.offset).run P w = .ok v w) (he : EqR P n f.type u v b) (h : EqFs P n xs ys fs c) : EqFs P n xs ys (f :: fs) (b && c)
theorem EqFs.run {n : Nat} {xs ys : Array Value} : ∀ {fs : List Field} {b : Bool}, EqFs P n xs ys fs b → ∀ d w, (Op.eqFields (d + n) xs ys fs).run P w = .ok b w
  | _, _, .nil, d, w => rfl
  | _, _, .one (b := b) hn hu hv he, d, w => by
    have hn' := by simpa using hn
    simp only [Op.eqFields, ne_eq, hn', not_false_eq_true, if_true, Sem.run_bind, hu, hv, Result.andThen_ok, he d w]
    cases b <;> rfl
  | _, _, .cons (b := b) hn hu hv he h, d, w => by
    have hn' := by simpa using hn
    simp only [Op.eqFields, ne_eq, hn', not_false_eq_true, if_true, Sem.run_bind, hu, hv, Result.andThen_ok, he d w]
    cases b
    · rfl
    · simpa using EqFs.run h d w
theorem EqR.struct {n : Nat} {t : TypeId} {fs : Array Field} {xs ys : Array Value} {b : Bool} (ht : P.underlying t = some (.struct fs)) (hp : P.stoodInHeld t = false) (h : EqFs P n xs ys fs.toList b) : EqR P (n + 1) t (.agg xs) (.agg ys) b := fun d w => by
  have hf : P.fieldsOf t = fs := by simp [Program.fieldsOf, ht]
  rw [show d + (n + 1) = (d + n) + 1 by omega, run_equalIn_struct w (d + n) t xs ys (by rw [hf]; exact ht) hp, hf]
  exact h.run d w
theorem part_one {t : TypeId} (ht : ∀ w, (isAgg t).run P w = .ok false w) {cs : Array Value} {off : Nat} {v : Value} (h : cs[off]? = some v) (w : World) : (part t cs off).run P w = .ok v w := by
  obtain ⟨h1, h2⟩ := Array.getElem?_eq_some_iff.1 h
  simp [part, ht, h1, h2]
theorem part_agg {t : TypeId} {size : Nat} (hs : ∀ w, (sizeOf t).run P w = .ok size w) (ht : ∀ w, (isAgg t).run P w = .ok true w) {cs : Array Value} {off : Nat} {c : Array Value} (h : cs.extract off (off + size) = c) (w : World) : (part t cs off).run P w = .ok (.agg c) w := by
  simp [part, ht, hs, h]
theorem LU.eqlA {x y : Operand} {t t' : TypeId} {cs ds : List LV} {vs us : List Value} {n : Nat} {b : Bool} (hx : Is (ev env x) (.agg cs)) (hy : Is (ev env y) (.agg ds)) (rx : RawL cs vs) (ry : RawL ds us) (hg : P.eqGuardType P.depth t = false) (hn : Nat.ble n 10000 = true) (he : EqR P n t (.agg vs.toArray) (.agg us.toArray) b) : LU P env H ⟨d, .binOp .eql t x y t', ty, pos, af, g⟩ (.raw (.bool b)) := by
  rw [rx.eq] at hx
  rw [ry.eq] at hy
  exact .raw fun ac hl w => by
    have h1 := hl x (by simp [Op.operands]) _ (hx.trans Is.agg_raw)
    have h2 := hl y (by simp [Op.operands]) _ (hy.trans Is.agg_raw)
    have hn' := Nat.le_of_ble_eq_true hn
    have h3 := he (10000 - n) w
    rw [show 10000 - n + n = 10000 by omega] at h3
    simp only [execOp, h1, h2, Sem.run_bind, run_eqGuard_agg w .eql t x y _ _ hg, Result.andThen_ok, run_eql_struct, h3, Sem.run_pure]
theorem LU.neqA {x y : Operand} {t t' : TypeId} {cs ds : List LV} {vs us : List Value} {n : Nat} {b : Bool} (hx : Is (ev env x) (.agg cs)) (hy : Is (ev env y) (.agg ds)) (rx : RawL cs vs) (ry : RawL ds us) (hg : P.eqGuardType P.depth t = false) (hn : Nat.ble n 10000 = true) (he : EqR P n t (.agg vs.toArray) (.agg us.toArray) b) : LU P env H ⟨d, .binOp .neq t x y t', ty, pos, af, g⟩ (.raw (.bool (!b))) := by
  rw [rx.eq] at hx
  rw [ry.eq] at hy
  exact .raw fun ac hl w => by
    have h1 := hl x (by simp [Op.operands]) _ (hx.trans Is.agg_raw)
    have h2 := hl y (by simp [Op.operands]) _ (hy.trans Is.agg_raw)
    have hn' := Nat.le_of_ble_eq_true hn
    have h3 := he (10000 - n) w
    rw [show 10000 - n + n = 10000 by omega] at h3
    simp only [execOp, h1, h2, Sem.run_bind, run_eqGuard_agg w .neq t x y _ _ hg, Result.andThen_ok, run_neq_struct, h3, Sem.run_pure]
theorem LU.min2 {x y : Operand} {t t' : TypeId} {k : IntKind} {a b : Int} (hx : Is (ev env x) (.raw (.int k a))) (hy : Is (ev env y) (.raw (.int k b))) : LU P env H ⟨d, .call { callee := .builtin .min, args := #[x, y], argTypes := #[t, t'] }, ty, pos, af, g⟩ (.raw (.int k (min a b))) := .raw fun ac hl w => by
  have h1 := hl x (by simp [Op.operands, Call.operands]) _ hx
  have h2 := hl y (by simp [Op.operands, Call.operands]) _ hy
  have e : (if b < a then b else a) = min a b := by omega
  simp [execOp, resolve, invoke, builtin, h1, h2, run_min_int2, e]
theorem LU.max2 {x y : Operand} {t t' : TypeId} {k : IntKind} {a b : Int} (hx : Is (ev env x) (.raw (.int k a))) (hy : Is (ev env y) (.raw (.int k b))) : LU P env H ⟨d, .call { callee := .builtin .max, args := #[x, y], argTypes := #[t, t'] }, ty, pos, af, g⟩ (.raw (.int k (max a b))) := .raw fun ac hl w => by
  have h1 := hl x (by simp [Op.operands, Call.operands]) _ hx
  have h2 := hl y (by simp [Op.operands, Call.operands]) _ hy
  have e : (if a < b then b else a) = max a b := by omega
  simp [execOp, resolve, invoke, builtin, h1, h2, run_max_int2, e]
theorem LU.max3 {x y z : Operand} {t t' t'' : TypeId} {k : IntKind} {a b c : Int} (hx : Is (ev env x) (.raw (.int k a))) (hy : Is (ev env y) (.raw (.int k b))) (hz : Is (ev env z) (.raw (.int k c))) : LU P env H ⟨d, .call { callee := .builtin .max, args := #[x, y, z], argTypes := #[t, t', t''] }, ty, pos, af, g⟩ (.raw (.int k (max (max a b) c))) := .raw fun ac hl w => by
  have h1 := hl x (by simp [Op.operands, Call.operands]) _ hx
  have h2 := hl y (by simp [Op.operands, Call.operands]) _ hy
  have h3 := hl z (by simp [Op.operands, Call.operands]) _ hz
  have e : (Builtin.max_ #[t, t', t''] ty #[.int k a, .int k b, .int k c]).run P w = .ok (.int k (max (max a b) c)) w := by
    simp only [Builtin.max_, List.foldlM_cons, List.foldlM_nil, Builtin.max2, Sem.run_bind, Sem.run_pure, Result.andThen_ok]
    congr 2
    split <;> split <;> omega
  simp [execOp, resolve, invoke, builtin, h1, h2, h3, e]
/-- A result that lies in memory. -/
theorem Res.cell2 {a t : Tmp} {ta : TypeId} {st : LS} {b off : Nat} {tb : TypeId} {xs : List LV} {size : Nat} {agg : Bool} {v r s : LV} (k : Nat) (hk : st.heap[k]? = some (.cells b tb xs)) (ha : get st.env a = .raw (.pointer (some ⟨b, off, Option.none⟩))) (ht : Ty P ta size agg) (hv : Part size agg xs off v) (hr : Is v r) (hs : Is (get st.env t) s) : Res P #[.cell a ta, .tmp t] st (.tup [r, s]) := fun w0 ph ac w fn h rl => by
  obtain ⟨F, hF, cs, hh, hc⟩ := rl.inv.atom_at hk
  have h1 := rl.tmps a
  rw [ha] at h1
  obtain ⟨z, hrun, hrep⟩ := creps_part (P := P) hc ht hv (w := w) (b := b) (fun i c hi => by rw [cell_of_row w b i cs tb (0, 0) hh]; exact hi)
  refine ⟨.tuple #[z, ac.tmps.getD t undef], by
    have h2 := h1.rawE
    rw [Array.getD_eq_getD_getElem?] at h2
    simp [results, h, h2, asAddr, hrun], .tup _ _ rfl fun i c x h2 h3 => ?_⟩
  match i with
  | 0 => simp at h2 h3; subst h2; subst h3; exact hr _ _ hrep
  | 1 => simp at h2 h3; subst h2; subst h3; exact hs _ _ (by simpa using rl.tmps t)
  | k + 2 => simp at h2
theorem Res.cell1 {a : Tmp} {ta : TypeId} {st : LS} {b off : Nat} {tb : TypeId} {xs : List LV} {size : Nat} {agg : Bool} {v r : LV} (k : Nat) (hk : st.heap[k]? = some (.cells b tb xs)) (ha : get st.env a = .raw (.pointer (some ⟨b, off, Option.none⟩))) (ht : Ty P ta size agg) (hv : Part size agg xs off v) (hr : Is v r) : Res P #[.cell a ta] st r := fun w0 ph ac w fn h rl => by
  obtain ⟨F, hF, cs, hh, hc⟩ := rl.inv.atom_at hk
  have h1 := rl.tmps a
  rw [ha] at h1
  obtain ⟨z, hrun, hrep⟩ := creps_part (P := P) hc ht hv (w := w) (b := b) (fun i c hi => by rw [cell_of_row w b i cs tb (0, 0) hh]; exact hi)
  exact ⟨z, by
    have h2 := h1.rawE
    rw [Array.getD_eq_getD_getElem?] at h2
    simp [results, h, h2, asAddr, hrun], hr _ _ hrep⟩
/-- Quiet operations of a region that draws its order. -/
def QD (P : Program) (ops : Array Oper) (H : List Atom) (n : NN) (env : List (Nat × LV)) (l : List Oper) (K : List (Nat × LV) → Prop) : Prop := ∃ env', QC P ops H env l env' ∧ (l.all fun o => match o.dst with | some d => Nat.blt d n.k | none => false) = true ∧ K env'
theorem QD.nil {ops : Array Oper} {n : NN} {K : List (Nat × LV) → Prop} (h : K env) : QD P ops H n env [] K := ⟨env, .nil _, rfl, h⟩
theorem QD.q {ops : Array Oper} {n : NN} {K : List (Nat × LV) → Prop} {o : Oper} {l : List Oper} {v : LV} {d : Nat} (hq : LQ P ops env H o v) (hd : o.dst = some d) (hds : Nat.blt d n.k = true) (h : QD P ops H n ((d, v) :: env) l K) : QD P ops H n env (o :: l) K := by
  obtain ⟨e, h1, h2, h3⟩ := h
  exact ⟨e, .cons hq hd h1, by simp only [List.all_cons, hd, hds, h2, Bool.and_self], h3⟩
theorem QD.u {ops : Array Oper} {n : NN} {K : List (Nat × LV) → Prop} {l : List Oper} {v : LV} {d : Nat} {op : Op} (hq : LU P env H ⟨some d, op, ty, pos, af, none⟩ v) (hds : Nat.blt d n.k = true) (h : QD P ops H n ((d, v) :: env) l K) : QD P ops H n env (⟨some d, op, ty, pos, af, none⟩ :: l) K := .q (.plain rfl hq) rfl hds h
theorem QD.gT {ops : Array Oper} {n : NN} {K : List (Nat × LV) → Prop} {l : List Oper} {v : LV} {d j dj : Nat} {op : Op} {b : Bool} (hd : (ops[j]?).bind (·.dst) = some dj) (hb : get env dj = .raw (.bool b)) (hq : b = true → LU P env H ⟨some d, op, ty, pos, af, some (j, true)⟩ v) (hds : Nat.blt d n.k = true) (h : QD P ops H n ((d, .when b v) :: env) l K) : QD P ops H n env (⟨some d, op, ty, pos, af, some (j, true)⟩ :: l) K := .q (.guardT rfl hd hb hq) rfl hds h
theorem QD.gF {ops : Array Oper} {n : NN} {K : List (Nat × LV) → Prop} {l : List Oper} {v : LV} {d j dj : Nat} {op : Op} {b : Bool} (hd : (ops[j]?).bind (·.dst) = some dj) (hb : get env dj = .raw (.bool b)) (hq : b = false → LU P env H ⟨some d, op, ty, pos, af, some (j, false)⟩ v) (hds : Nat.blt d n.k = true) (h : QD P ops H n ((d, .when (!b) v) :: env) l K) : QD P ops H n env (⟨some d, op, ty, pos, af, some (j, false)⟩ :: l) K := .q (.guardF rfl hd hb hq) rfl hds h
theorem QD.gT2 {ops : Array Oper} {n : NN} {K : List (Nat × LV) → Prop} {l : List Oper} {v : LV} {d j dj : Nat} {op : Op} {b : Bool} {q : Bool} (hd : (ops[j]?).bind (·.dst) = some dj) (hb : get env dj = .when q (.raw (.bool b))) (hq : q = true → b = true → LU P env H ⟨some d, op, ty, pos, af, some (j, true)⟩ v) (hds : Nat.blt d n.k = true) (h : QD P ops H n ((d, .when (q && b) v) :: env) l K) : QD P ops H n env (⟨some d, op, ty, pos, af, some (j, true)⟩ :: l) K := .q (.guardT2 rfl hd hb hq) rfl hds h
theorem QD.gF2 {ops : Array Oper} {n : NN} {K : List (Nat × LV) → Prop} {l : List Oper} {v : LV} {d j dj : Nat} {op : Op} {b : Bool} {q : Bool} (hd : (ops[j]?).bind (·.dst) = some dj) (hb : get env dj = .when q (.raw (.bool b))) (hq : q = true → b = false → LU P env H ⟨some d, op, ty, pos, af, some (j, false)⟩ v) (hds : Nat.blt d n.k = true) (h : QD P ops H n ((d, .when (q && !b) v) :: env) l K) : QD P ops H n env (⟨some d, op, ty, pos, af, some (j, false)⟩ :: l) K := .q (.guardF2 rfl hd hb hq) rfl hds h
theorem LW.drawM (m : Nat) {id : Nat} {l : List Oper} {Q : Exit → LS → Prop} (hmo : P.follows .mixedOrders = true) (hok : drawOk l.toArray m = true) (hm : Nat.ble m l.length = true) (h : QD P l.toArray st.heap st.n st.env (l.take m) fun env' => LL P l.toArray (l.drop m) ⟨st.n, env', st.heap⟩ (fun s => Q .normal s)) (hnd : noDefer l = true := by kernel_rfl) : LW P (.region id l.toArray true) st Q := by
  obtain ⟨env', h1, h2, h3⟩ := h
  have hlen : (l.take m).length = m := by rw [List.length_take]; have := Nat.le_of_ble_eq_true hm; omega
  exact LW.draw hmo (List.take_append_drop m l).symm (by rw [hlen]; exact hok) h2 h1 h3 hnd
/-- How a body ends. -/
theorem Ends.ret {rs : Array ResultVar} {R H' : List Atom} {post : LV → List Atom → Prop} {r : LV} (hr : Res P rs st r) (hh : HSub st.heap (H' ++ R)) (hp : post r H') (hd : st.n.df = []) : Ends P rs R post .ret st := ⟨.inr rfl, .plain hd hr hh hp⟩
theorem Ends.normal {rs : Array ResultVar} {R H' : List Atom} {post : LV → List Atom → Prop} {r : LV} (hr : Res P rs st r) (hh : HSub st.heap (H' ++ R)) (hp : post r H') (hd : st.n.df = []) : Ends P rs R post .normal st := ⟨.inl rfl, .plain hd hr hh hp⟩
end
end Go.L
