/- The logic's rules of operations that make no memory. Plain theorems over any program. -/
import Derived.Test.YtcemodldbfiomaaLogB
import Derived.Laws.Entries
import Derived.Laws.Slices
import Derived.Laws.Cells
set_option linter.unusedVariables false
set_option linter.unusedSimpArgs false
namespace Go.L
open Go.RowKit

theorem Is.of {x y : LV} (h : x = y) : Is x y := h ▸ Is.rfl'
theorem Is.trans {x y z : LV} (h : Is x y) (k : Is y z) : Is x z := fun ph u r => k ph u (h ph u r)
theorem Is.whenE {b : Bool} {x : LV} (h : b = true) : Is (.when b x) x := fun ph u r => by cases r with | when _ _ _ k _ => exact k h
theorem Is.any {x : LV} : Is x .any := fun ph u _ => .any u
theorem Is.unk {size : Nat} {es : List (List LV)} {k : Cap} : Is (.sl size es k) (.sl size es .unk) := fun ph u r => by
  cases r with | sl _ _ _ A n c ad u hA hn hnc hs hcap hp hr => exact .sl size es .unk A n c ad u hA hn hnc hs trivial hp hr
theorem Is.nil (size : Nat) : Is (.raw (.slice none 0 0)) (.sl size [] .full) := fun ph u r => by
  cases r.rawE
  exact .sl size [] .full none 0 0 ⟨0, 0, none⟩ (fun _ => undef) (by simp) rfl (Nat.le_refl _) (by simp) rfl (by simp) (by simp)
theorem Is.full_tok {size : Nat} {es : List (List LV)} (b o : Nat) : Is (.sl size es .full) (.sl size es (.tok b o o)) := fun ph u r => by
  cases r with | sl _ _ _ A n c ad u hA hn hnc hs hcap hp hr => exact .sl size es (.tok b o o) A n c ad u hA hn hnc hs (.inl ⟨hcap, rfl⟩) hp hr
theorem Is.agg {xs ys : List LV} (hl : xs.length = ys.length) (h : ∀ (i : Nat) (x y : LV), xs[i]? = some x → ys[i]? = some y → Is x y) : Is (.agg xs) (.agg ys) := fun ph u r => by
  cases r with | agg cs _ hc ho hr =>
    refine .agg cs ys (hc.trans hl) ho fun i c y hi hy => ?_
    have hlt : i < xs.length := hl ▸ (List.getElem?_eq_some_iff.1 hy).1
    exact h i xs[i] y (List.getElem?_eq_getElem hlt) hy ph c (hr i c _ hi (List.getElem?_eq_getElem hlt))
theorem Is.tup {xs ys : List LV} (hl : xs.length = ys.length) (h : ∀ (i : Nat) (x y : LV), xs[i]? = some x → ys[i]? = some y → Is x y) : Is (.tup xs) (.tup ys) := fun ph u r => by
  cases r with | tup cs _ hc hr =>
    refine .tup cs ys (hc.trans hl) fun i c y hi hy => ?_
    have hlt : i < xs.length := hl ▸ (List.getElem?_eq_some_iff.1 hy).1
    exact h i xs[i] y (List.getElem?_eq_getElem hlt) hy ph c (hr i c _ hi (List.getElem?_eq_getElem hlt))
/-- A composite by its cells. -/
def raws (vs : List Value) : List LV := vs.map .raw
theorem Is.agg_raw {vs : List Value} : Is (.agg (raws vs)) (.raw (.agg vs.toArray)) := fun ph u r => by
  cases r with | agg cs _ hc ho hr =>
    have : cs = vs.toArray := by
      apply Array.ext
      · simpa [raws] using hc
      · intro i h1 h2
        have h2' : i < vs.length := by simpa using h2
        have := hr i cs[i] (.raw vs[i]) (Array.getElem?_eq_getElem h1) (by simp [raws, List.getElem?_eq_getElem h2'])
        simpa using this.rawE
    rw [this]
    exact .raw _
theorem Is.raw_agg {vs : List Value} (h1 : ∀ v ∈ vs, v.oneCell' = true) : Is (.raw (.agg vs.toArray)) (.agg (raws vs)) := fun ph u r => by
  cases r.rawE
  refine .agg _ _ (by simp [raws]) (fun i c hc => h1 c (by simpa using List.mem_of_getElem? (by simpa using hc))) fun i c x h1 h2 => ?_
  simp [raws] at h1 h2
  obtain ⟨v, hv, rfl⟩ := h2
  rw [hv] at h1
  injection h1 with h1
  subst h1
  exact .raw _

section
variable {P : Program} {env : List (Nat × LV)} {H : List Atom} {d : Option Tmp} {ty : TypeId} {pos : String} {af : Array Edge} {g : Option (Nat × Bool)}

theorem LU.of_run {o : Oper} {v : LV} (h : ∀ ph (a : Act), (∀ x ∈ o.op.operands, Rep ph (a.eval x) (ev env x)) → ∀ w0 w, Inv w0 ph w H → ∃ u, (execOp a.eval o).run P w = .ok (.value u) w ∧ Rep ph u v) : LU P env H o v := fun w0 ph a w hi hl N Q k => by
  obtain ⟨u, hr, hv⟩ := h ph a hl w0 w hi
  unfold owp
  rw [hr]
  exact k ph u w (PH.le.refl _) hi hv
theorem LU.of_run' {o : Oper} {v : LV} (h : ∀ ph (a : Act), (∀ x ∈ o.op.operands, Rep ph (a.eval x) (ev env x)) → ∀ w0 w, Inv w0 ph w H → ∃ u w' ph', (execOp a.eval o).run P w = .ok (.value u) w' ∧ PH.le ph ph' ∧ Inv w0 ph' w' H ∧ Rep ph' u v) : LU P env H o v := fun w0 ph a w hi hl N Q k => by
  obtain ⟨u, w', ph', hr, hle, hi', hv⟩ := h ph a hl w0 w hi
  unfold owp
  rw [hr]
  exact k ph' u w' hle hi' hv
theorem LU.weak {o : Oper} {v v' : LV} (h : LU P env H o v) (hv : Is v v') : LU P env H o v' := fun w0 ph a w hi hl N Q k => h w0 ph a w hi hl N Q fun ph' u w' hle hi' hr => k ph' u w' hle hi' (hv _ _ hr)
/-- Operations whose operands are told outright. -/
theorem LU.raw {op : Op} {v : Value} (h : ∀ (a : Act), (∀ x ∈ op.operands, ∀ u, Is (ev env x) (.raw u) → a.eval x = u) → ∀ w, (execOp a.eval ⟨d, op, ty, pos, af, g⟩).run P w = .ok (.value v) w) : LU P env H ⟨d, op, ty, pos, af, g⟩ (.raw v) :=
  .of_run fun ph a hl w0 w hi => ⟨v, h a (fun x hx u hu => (hu _ _ (hl x hx)).rawE) w, .raw v⟩

theorem LU.move {x : Operand} {v : LV} (h : Is (ev env x) v) : LU P env H ⟨d, .move x, ty, pos, af, g⟩ v := .of_run fun ph a hl w0 w hi => ⟨_, rfl, h _ _ (hl x (by simp [Op.operands]))⟩
theorem LU.assign {x : Operand} {v : LV} (h : Is (ev env x) v) : LU P env H ⟨d, .assign x, ty, pos, af, g⟩ v := .of_run fun ph a hl w0 w hi => ⟨_, rfl, h _ _ (hl x (by simp [Op.operands]))⟩
theorem LU.pick {c x y : Operand} {b : Bool} {v : LV} (hc : Is (ev env c) (.raw (.bool b))) (hx : b = true → Is (ev env x) v) (hy : b = false → Is (ev env y) v) : LU P env H ⟨d, .pick c x y, ty, pos, af, g⟩ v := .of_run fun ph a hl w0 w hi => by
  have h1 := (hc _ _ (hl c (by simp [Op.operands]))).rawE
  cases b with
  | true => exact ⟨a.eval x, by simp [execOp, h1, asBool], hx rfl _ _ (hl x (by simp [Op.operands]))⟩
  | false => exact ⟨a.eval y, by simp [execOp, h1, asBool], hy rfl _ _ (hl y (by simp [Op.operands]))⟩
/-- a || b -/
theorem LU.pickOr {c x y : Operand} {b e : Bool} (hc : Is (ev env c) (.raw (.bool b))) (hx : Is (ev env x) (.raw (.bool true))) (hy : b = false → Is (ev env y) (.raw (.bool e))) : LU P env H ⟨d, .pick c x y, ty, pos, af, g⟩ (.raw (.bool (b || e))) :=
  LU.pick hc (fun h => by subst h; exact hx) (fun h => by subst h; exact hy rfl)
/-- a && b -/
theorem LU.pickAnd {c x y : Operand} {b e : Bool} (hc : Is (ev env c) (.raw (.bool b))) (hx : b = true → Is (ev env x) (.raw (.bool e))) (hy : Is (ev env y) (.raw (.bool false))) : LU P env H ⟨d, .pick c x y, ty, pos, af, g⟩ (.raw (.bool (b && e))) :=
  LU.pick hc (fun h => by subst h; exact hx rfl) (fun h => by subst h; exact hy)

/-! ### numbers -/
theorem LU.bin {op : BinOp} {x y : Operand} {t t' : TypeId} {k k' : IntKind} {a b : Int} {r : Value} (hx : Is (ev env x) (.raw (.int k a))) (hy : Is (ev env y) (.raw (.int k' b)))
    (hr : ∀ w, (binOp op t (.int k a) (.int k' b)).run P w = .ok r w) : LU P env H ⟨d, .binOp op t x y t', ty, pos, af, g⟩ (.raw r) := .raw fun ac hl w => by
  have h1 := hl x (by simp [Op.operands]) _ hx
  have h2 := hl y (by simp [Op.operands]) _ hy
  have hg : (eqGuard op t x y (.int k a) (.int k' b)).run P w = .ok () w := by unfold eqGuard; cases op <;> simp
  simp only [execOp, h1, h2, Sem.run_bind, hg, Result.andThen_ok, hr, Sem.run_pure]
theorem LU.add {x y : Operand} {t t' : TypeId} {k : IntKind} {a b : Int} (hx : Is (ev env x) (.raw (.int k a))) (hy : Is (ev env y) (.raw (.int k b))) : LU P env H ⟨d, .binOp .add t x y t', ty, pos, af, g⟩ (.raw (.int k (k.wrap (a + b)))) := .bin hx hy fun w => by simp [binOp, Op.intArith]
theorem LU.sub {x y : Operand} {t t' : TypeId} {k : IntKind} {a b : Int} (hx : Is (ev env x) (.raw (.int k a))) (hy : Is (ev env y) (.raw (.int k b))) : LU P env H ⟨d, .binOp .sub t x y t', ty, pos, af, g⟩ (.raw (.int k (k.wrap (a - b)))) := .bin hx hy fun w => by simp [binOp, Op.intArith]
theorem LU.mul {x y : Operand} {t t' : TypeId} {k : IntKind} {a b : Int} (hx : Is (ev env x) (.raw (.int k a))) (hy : Is (ev env y) (.raw (.int k b))) : LU P env H ⟨d, .binOp .mul t x y t', ty, pos, af, g⟩ (.raw (.int k (k.wrap (a * b)))) := .bin hx hy fun w => by simp [binOp, Op.intArith]
theorem LU.quo {x y : Operand} {t t' : TypeId} {k : IntKind} {a b : Int} (hx : Is (ev env x) (.raw (.int k a))) (hy : Is (ev env y) (.raw (.int k b))) (hb : b ≠ 0) : LU P env H ⟨d, .binOp .quo t x y t', ty, pos, af, g⟩ (.raw (.int k (k.wrap (a.tdiv b)))) := .bin hx hy fun w => by simp [binOp, Op.intDiv, hb]
theorem LU.rem {x y : Operand} {t t' : TypeId} {k : IntKind} {a b : Int} (hx : Is (ev env x) (.raw (.int k a))) (hy : Is (ev env y) (.raw (.int k b))) (hb : b ≠ 0) : LU P env H ⟨d, .binOp .rem t x y t', ty, pos, af, g⟩ (.raw (.int k (a.tmod b))) := .bin hx hy fun w => by simp [binOp, Op.intDiv, hb]
theorem LU.lss {x y : Operand} {t t' : TypeId} {k : IntKind} {a b : Int} (hx : Is (ev env x) (.raw (.int k a))) (hy : Is (ev env y) (.raw (.int k b))) : LU P env H ⟨d, .binOp .lss t x y t', ty, pos, af, g⟩ (.raw (.bool (decide (a < b)))) := .bin hx hy fun w => by simp [binOp, Op.intCmp]
theorem LU.leq {x y : Operand} {t t' : TypeId} {k : IntKind} {a b : Int} (hx : Is (ev env x) (.raw (.int k a))) (hy : Is (ev env y) (.raw (.int k b))) : LU P env H ⟨d, .binOp .leq t x y t', ty, pos, af, g⟩ (.raw (.bool (decide (a ≤ b)))) := .bin hx hy fun w => by simp [binOp, Op.intCmp]
theorem LU.gtr {x y : Operand} {t t' : TypeId} {k : IntKind} {a b : Int} (hx : Is (ev env x) (.raw (.int k a))) (hy : Is (ev env y) (.raw (.int k b))) : LU P env H ⟨d, .binOp .gtr t x y t', ty, pos, af, g⟩ (.raw (.bool (decide (b < a)))) := .bin hx hy fun w => by simp [binOp, Op.intCmp]
theorem LU.geq {x y : Operand} {t t' : TypeId} {k : IntKind} {a b : Int} (hx : Is (ev env x) (.raw (.int k a))) (hy : Is (ev env y) (.raw (.int k b))) : LU P env H ⟨d, .binOp .geq t x y t', ty, pos, af, g⟩ (.raw (.bool (decide (b ≤ a)))) := .bin hx hy fun w => by simp [binOp, Op.intCmp]
theorem beq_dec (a b : Int) : (a == b) = decide (a = b) := by rw [Bool.eq_iff_iff]; simp
theorem LU.eql {x y : Operand} {t t' : TypeId} {k : IntKind} {a b : Int} (hx : Is (ev env x) (.raw (.int k a))) (hy : Is (ev env y) (.raw (.int k b))) : LU P env H ⟨d, .binOp .eql t x y t', ty, pos, af, g⟩ (.raw (.bool (decide (a = b)))) := .bin hx hy fun w => by simp [binOp, Op.intCmp, beq_dec]
theorem LU.neq {x y : Operand} {t t' : TypeId} {k : IntKind} {a b : Int} (hx : Is (ev env x) (.raw (.int k a))) (hy : Is (ev env y) (.raw (.int k b))) : LU P env H ⟨d, .binOp .neq t x y t', ty, pos, af, g⟩ (.raw (.bool (!decide (a = b)))) := .bin hx hy fun w => by simp [binOp, Op.intCmp, bne, beq_dec]
/-- Bits. -/
def bitsOf (op : BinOp) (k : IntKind) (a b : Int) : Int :=
  let x := BitVec.ofInt k.bits a
  let y := BitVec.ofInt k.bits b
  k.wrap ((match op with | .and => x &&& y | .or => x ||| y | .xor => x ^^^ y | _ => x &&& ~~~y : BitVec k.bits).toNat : Int)
theorem LU.and {x y : Operand} {t t' : TypeId} {k : IntKind} {a b : Int} (hx : Is (ev env x) (.raw (.int k a))) (hy : Is (ev env y) (.raw (.int k b))) : LU P env H ⟨d, .binOp .and t x y t', ty, pos, af, g⟩ (.raw (.int k (bitsOf .and k a b))) := .bin hx hy fun w => by simp [binOp, Op.intBits, bitsOf]
theorem LU.or {x y : Operand} {t t' : TypeId} {k : IntKind} {a b : Int} (hx : Is (ev env x) (.raw (.int k a))) (hy : Is (ev env y) (.raw (.int k b))) : LU P env H ⟨d, .binOp .or t x y t', ty, pos, af, g⟩ (.raw (.int k (bitsOf .or k a b))) := .bin hx hy fun w => by simp [binOp, Op.intBits, bitsOf]
theorem LU.xor {x y : Operand} {t t' : TypeId} {k : IntKind} {a b : Int} (hx : Is (ev env x) (.raw (.int k a))) (hy : Is (ev env y) (.raw (.int k b))) : LU P env H ⟨d, .binOp .xor t x y t', ty, pos, af, g⟩ (.raw (.int k (bitsOf .xor k a b))) := .bin hx hy fun w => by simp [binOp, Op.intBits, bitsOf]
theorem LU.andNot {x y : Operand} {t t' : TypeId} {k : IntKind} {a b : Int} (hx : Is (ev env x) (.raw (.int k a))) (hy : Is (ev env y) (.raw (.int k b))) : LU P env H ⟨d, .binOp .andNot t x y t', ty, pos, af, g⟩ (.raw (.int k (bitsOf .andNot k a b))) := .bin hx hy fun w => by simp [binOp, Op.intBits, bitsOf]
theorem LU.shl {x y : Operand} {t t' : TypeId} {k k' : IntKind} {a b : Int} (hx : Is (ev env x) (.raw (.int k a))) (hy : Is (ev env y) (.raw (.int k' b))) (hb : 0 ≤ b) : LU P env H ⟨d, .binOp .shl t x y t', ty, pos, af, g⟩ (.raw (.int k (k.wrap (a * 2 ^ (min b.toNat k.bits))))) := .bin hx hy fun w => by
  have : ¬ b < 0 := by omega
  simp [binOp, Op.shift, this]
theorem LU.shr {x y : Operand} {t t' : TypeId} {k k' : IntKind} {a b : Int} (hx : Is (ev env x) (.raw (.int k a))) (hy : Is (ev env y) (.raw (.int k' b))) (hb : 0 ≤ b) : LU P env H ⟨d, .binOp .shr t x y t', ty, pos, af, g⟩ (.raw (.int k (a.fdiv (2 ^ (min b.toNat k.bits))))) := .bin hx hy fun w => by
  have : ¬ b < 0 := by omega
  simp [binOp, Op.shift, this]
theorem LU.neg {x : Operand} {t : TypeId} {k : IntKind} {a : Int} (hx : Is (ev env x) (.raw (.int k a))) : LU P env H ⟨d, .unOp .neg t x, ty, pos, af, g⟩ (.raw (.int k (k.wrap (0 - a)))) := .raw fun ac hl w => by
  have h1 := hl x (by simp [Op.operands]) _ hx
  simp [execOp, h1, Op.unary, Op.intArith]
theorem LU.compl {x : Operand} {t : TypeId} {k : IntKind} {a : Int} (hx : Is (ev env x) (.raw (.int k a))) : LU P env H ⟨d, .unOp .xor t x, ty, pos, af, g⟩ (.raw (.int k (bitsOf .xor k (if k.signed then -1 else k.max) a))) := .raw fun ac hl w => by
  have h1 := hl x (by simp [Op.operands]) _ hx
  simp [execOp, h1, Op.unary, Op.intBits, bitsOf]
theorem LU.not {x : Operand} {t : TypeId} {b : Bool} (hx : Is (ev env x) (.raw (.bool b))) : LU P env H ⟨d, .unOp .not t x, ty, pos, af, g⟩ (.raw (.bool (!b))) := .raw fun ac hl w => by
  have h1 := hl x (by simp [Op.operands]) _ hx
  simp [execOp, h1, Op.unary]
theorem LU.conv {x : Operand} {s t : TypeId} {ds : TypeDesc} {k k' : IntKind} {a : Int} (hs : P.underlying s = some ds) (ht : P.underlying t = some (.int k)) (hx : Is (ev env x) (.raw (.int k' a))) : LU P env H ⟨d, .convert s t x, ty, pos, af, g⟩ (.raw (.int k (k.wrap a))) := .raw fun ac hl w => by
  have h1 := hl x (by simp [Op.operands]) _ hx
  simp [execOp, h1, convert, run_underlying hs, run_underlying ht, Conv.intToInt]

/-! ### strings -/
theorem LU.strbin {op : BinOp} {x y : Operand} {t t' : TypeId} {a b : ByteArray} {r : Value} (hx : Is (ev env x) (.raw (.string a))) (hy : Is (ev env y) (.raw (.string b)))
    (hr : ∀ w, (Op.stringOp op a b).run P w = .ok r w) : LU P env H ⟨d, .binOp op t x y t', ty, pos, af, g⟩ (.raw r) := .raw fun ac hl w => by
  have h1 := hl x (by simp [Op.operands]) _ hx
  have h2 := hl y (by simp [Op.operands]) _ hy
  have hg : (eqGuard op t x y (.string a) (.string b)).run P w = .ok () w := by unfold eqGuard; cases op <;> simp
  have hb : binOp op t (.string a) (.string b) = Op.stringOp op a b := by cases op <;> rfl
  simp only [execOp, h1, h2, Sem.run_bind, hg, Result.andThen_ok, hb, hr, Sem.run_pure]
theorem LU.streq {x y : Operand} {t t' : TypeId} {a b : ByteArray} (hx : Is (ev env x) (.raw (.string a))) (hy : Is (ev env y) (.raw (.string b))) : LU P env H ⟨d, .binOp .eql t x y t', ty, pos, af, g⟩ (.raw (.bool (a.toList == b.toList))) := .strbin hx hy fun w => by simp [Op.stringOp]
theorem LU.strne {x y : Operand} {t t' : TypeId} {a b : ByteArray} (hx : Is (ev env x) (.raw (.string a))) (hy : Is (ev env y) (.raw (.string b))) : LU P env H ⟨d, .binOp .neq t x y t', ty, pos, af, g⟩ (.raw (.bool (!(a.toList == b.toList)))) := .strbin hx hy fun w => by simp [Op.stringOp]
theorem LU.strlt {x y : Operand} {t t' : TypeId} {a b : ByteArray} (hx : Is (ev env x) (.raw (.string a))) (hy : Is (ev env y) (.raw (.string b))) : LU P env H ⟨d, .binOp .lss t x y t', ty, pos, af, g⟩ (.raw (.bool (Op.bytesLess a.toList b.toList))) := .strbin hx hy fun w => by simp [Op.stringOp]
theorem LU.strcat {x y : Operand} {t t' : TypeId} {a b : ByteArray} (hx : Is (ev env x) (.raw (.string a))) (hy : Is (ev env y) (.raw (.string b))) (hl : a.size + b.size ≤ 9223372036854775807) : LU P env H ⟨d, .binOp .add t x y t', ty, pos, af, g⟩ (.raw (.string (a ++ b))) := .strbin hx hy fun w => by
  have : ¬ (((a.size + b.size : Nat) : Int) > IntKind.i64.max) := by show ¬ ((a.size + b.size : Nat) : Int) > 9223372036854775807; omega
  simp only [Op.stringOp, this, if_false, Sem.run_pure]
theorem LU.strlen {x : Operand} {t : TypeId} {s : ByteArray} (ht : P.underlying t = some .string) (hx : Is (ev env x) (.raw (.string s))) : LU P env H ⟨d, .call { callee := .builtin .len, args := #[x], argTypes := #[t] }, ty, pos, af, g⟩ (.raw (.int .i64 s.size)) := .raw fun ac hl w => by
  have h1 := hl x (by simp [Op.operands, Call.operands]) _ hx
  simp [execOp, resolve, invoke, builtin, h1, Builtin.len_, run_underlying ht, goInt]
theorem LU.strat {x y : Operand} {t : TypeId} {s : ByteArray} {k : IntKind} {i : Int} (ht : P.underlying t = some .string) (hx : Is (ev env x) (.raw (.string s))) (hy : Is (ev env y) (.raw (.int k i))) (h0 : 0 ≤ i) (h1 : i.toNat < s.size) : LU P env H ⟨d, .index t x y, ty, pos, af, g⟩ (.raw (.int .u8 (s[i.toNat].toNat))) := .raw fun ac hl w => by
  have e1 := hl x (by simp [Op.operands]) _ hx
  have e2 := hl y (by simp [Op.operands]) _ hy
  simp [execOp, e1, e2, Instr.index, asIntOf, run_underlying ht, h0, h1]
def optInt (env : List (Nat × LV)) : Option Operand → Option Int → Prop
  | none, none => True
  | some x, some i => ∃ k, Is (ev env x) (.raw (.int k i))
  | _, _ => False
theorem LU.strslice {x : Operand} {t : TypeId} {s : ByteArray} {lo hi : Option Operand} {l h : Option Int} (ht : P.underlying t = some .string) (hl : optInt env lo l) (hh : optInt env hi h) (h0 : 0 ≤ l.getD 0) (h1 : l.getD 0 ≤ h.getD s.size) (h2 : h.getD s.size ≤ s.size) (hx : Is (ev env x) (.raw (.string s))) :
    LU P env H ⟨d, .slice t x lo hi none, ty, pos, af, g⟩ (.raw (.string (s.extract (l.getD 0).toNat (h.getD s.size).toNat))) := .raw fun ac hc w => by
  have e1 := hc x (by simp [Op.operands]) _ hx
  have eh : ∀ q : Int, 0 ≤ q → (q.toNat : Int) = q := fun q hq => Int.toNat_of_nonneg hq
  cases lo <;> cases l <;> simp only [optInt] at hl <;> cases hi <;> cases h <;> simp only [optInt] at hh
  · simp [execOp, e1, run_sliceAt_string w t _ _ _ _ ht, Instr.slice, run_underlying ht, Instr.sliceBounds]
  · rename_i y i
    obtain ⟨k, hk⟩ := hh
    have e2 := hc y (by simp [Op.operands]) _ hk
    simp only [Option.getD_none, Option.getD_some] at h0 h1 h2
    simp [execOp, e1, e2, run_sliceAt_string w t _ _ _ _ ht, Instr.slice, run_underlying ht, Instr.sliceBounds, run_sliceBound, h1, h2]
  · rename_i y i
    obtain ⟨k, hk⟩ := hl
    have e2 := hc y (by simp [Op.operands]) _ hk
    simp only [Option.getD_none, Option.getD_some] at h0 h1 h2
    simp [execOp, e1, e2, run_sliceAt_string w t _ _ _ _ ht, Instr.slice, run_underlying ht, Instr.sliceBounds, run_sliceBound, h0, h1]
  · rename_i y i z j
    obtain ⟨k, hk⟩ := hl
    obtain ⟨k', hk'⟩ := hh
    have e2 := hc y (by simp [Op.operands]) _ hk
    have e3 := hc z (by simp [Op.operands]) _ hk'
    simp only [Option.getD_some] at h0 h1 h2
    have h3 : 0 ≤ j := by omega
    simp [execOp, e1, e2, e3, run_sliceAt_string w t _ _ _ _ ht, Instr.slice, run_underlying ht, Instr.sliceBounds, run_sliceBound, h0, h1, h2, h3, eh j h3]

/-! ### composites -/
theorem LU.extract {x : Operand} {vs : List LV} {i : Nat} {v : LV} (hx : Is (ev env x) (.tup vs)) (hi : vs[i]? = some v) : LU P env H ⟨d, .extract x i, ty, pos, af, g⟩ v := .of_run fun ph a hl w0 w hinv => by
  have h1 := hx _ _ (hl x (by simp [Op.operands]))
  generalize hu : a.eval x = u at h1
  cases h1 with | tup cs _ hc hr =>
    have hlt : i < cs.size := by rw [hc]; exact (List.getElem?_eq_some_iff.1 hi).1
    refine ⟨cs[i], ?_, hr i _ _ (Array.getElem?_eq_getElem hlt) hi⟩
    simp [execOp, hu, Instr.extract, hlt]
/-- What a type's values are: how many cells; are they composites. -/
structure Ty (P : Program) (t : TypeId) (size : Nat) (agg : Bool) : Prop where
  size : ∀ w, (sizeOf t).run P w = .ok size w
  agg : ∀ w, (isAgg t).run P w = .ok agg w
/-- A part of a composite's cells. -/
def Part (size : Nat) (agg : Bool) (cs : List LV) (off : Nat) (v : LV) : Prop := match agg with
  | true => off + size ≤ cs.length ∧ v = .agg ((cs.drop off).take size)
  | false => cs[off]? = some v
theorem Part.run {t : TypeId} {size : Nat} {agg : Bool} (ht : Ty P t size agg) {cs : List LV} {off : Nat} {v : LV} (hp : Part size agg cs off v) {ph : PH} {vs : Array Value} (hcr : CReps ph vs cs) (w : World) : ∃ u, (part t vs off).run P w = .ok u w ∧ Rep ph u v := by
  obtain ⟨hr, ho⟩ := hcr
  cases agg with
  | true =>
    obtain ⟨h1, rfl⟩ := hp
    refine ⟨.agg (vs.extract off (off + size)), by simp [part, ht.agg, ht.size], .agg _ _ ?_ (fun i c hc => ?_) fun i c x hc hx => ?_⟩
    · simp [hr.1]; omega
    · rw [Array.getElem?_extract] at hc
      split at hc
      · exact ho _ c hc
      · cases hc
    · rw [List.getElem?_take] at hx
      split at hx
      · rw [List.getElem?_drop] at hx
        refine hr.2 (off + i) c x ?_ hx
        rw [Array.getElem?_extract] at hc
        split at hc
        · exact hc
        · cases hc
      · cases hx
  | false =>
    have hp : cs[off]? = some v := hp
    have hlt : off < vs.size := by rw [hr.1]; exact (List.getElem?_eq_some_iff.1 hp).1
    exact ⟨vs[off], by simp [part, ht.agg, hlt], hr.2 off _ _ (Array.getElem?_eq_getElem hlt) hp⟩
theorem LU.field {x : Operand} {t : TypeId} {fs : Array Field} {i : Nat} {f : Field} {cs : List LV} {size : Nat} {agg : Bool} {v : LV} (ht : P.underlying t = some (.struct fs)) (hf : fs[i]? = some f) (hty : Ty P f.type size agg) (hx : Is (ev env x) (.agg cs)) (hp : Part size agg cs f.offset v) :
    LU P env H ⟨d, .field t x i, ty, pos, af, g⟩ v := .of_run fun ph a hl w0 w hinv => by
  have h1 := hx _ _ (hl x (by simp [Op.operands]))
  generalize hu : a.eval x = u at h1
  cases h1 with | agg vs _ hc ho hr =>
    obtain ⟨u, hrun, hrep⟩ := hp.run hty ⟨⟨hc, hr⟩, ho⟩ w
    exact ⟨u, by simp [execOp, hu, Instr.field, run_underlying ht, hf, asAgg, hrun], hrep⟩
theorem LU.indexA {x y : Operand} {t e : TypeId} {n : Nat} {cs : List LV} {size : Nat} {agg : Bool} {k : IntKind} {i : Int} {v : LV} (ht : P.underlying t = some (.array n e)) (hty : Ty P e size agg) (hx : Is (ev env x) (.agg cs)) (hy : Is (ev env y) (.raw (.int k i))) (h0 : 0 ≤ i) (h1 : i < n) (hp : Part size agg cs (i.toNat * size) v) :
    LU P env H ⟨d, .index t x y, ty, pos, af, g⟩ v := .of_run fun ph a hl w0 w hinv => by
  have h2 := hx _ _ (hl x (by simp [Op.operands]))
  have h3 := (hy _ _ (hl y (by simp [Op.operands]))).rawE
  generalize hu : a.eval x = u at h2
  cases h2 with | agg vs _ hc ho hr =>
    obtain ⟨u, hrun, hrep⟩ := hp.run hty ⟨⟨hc, hr⟩, ho⟩ w
    exact ⟨u, by simp [execOp, hu, h3, Instr.index, asIntOf, run_underlying ht, h0, h1, hty.size, hrun], hrep⟩

/-! ### slices that are read -/
theorem LU.len {x : Operand} {t e : TypeId} {size : Nat} {es : List (List LV)} {k : Cap} (ht : P.underlying t = some (.slice e)) (hx : Is (ev env x) (.sl size es k)) : LU P env H ⟨d, .call { callee := .builtin .len, args := #[x], argTypes := #[t] }, ty, pos, af, g⟩ (.raw (.int .i64 es.length)) := .of_run fun ph a hl w0 w hinv => by
  have h1 := hx _ _ (hl x (by simp [Op.operands, Call.operands]))
  generalize hu : a.eval x = u at h1
  cases h1 with | sl _ _ _ A n c ad u hA hn hnc hs hcap hp hr =>
    refine ⟨.int .i64 es.length, ?_, .raw _⟩
    simp [execOp, resolve, invoke, builtin, hu, Builtin.len_, run_underlying ht, goInt, hn]
theorem add_add (ad : Addr) (m n : Nat) (h : ad.spot = none) : (ad.add m).add n = ad.add (m + n) := by
  cases ad with | mk b o s =>
    simp only at h
    subst h
    unfold Addr.add
    by_cases hm : m = 0 <;> by_cases hn : n = 0 <;> simp [hm, hn, Nat.add_assoc]
theorem Inv.spot {w0 : Base} {ph : PH} {w : World} (h : Inv w0 ph w H) {a : Addr} {u : Value} (ha : ph a = some u) : a.spot = none := by
  have hcu := h.cell a u ha
  cases hs : a.spot with
  | none => rfl
  | some s => simp [World.cell?, hs] at hcu; split at hcu <;> cases hcu
/-- The address of an element. -/
theorem LU.at {x y : Operand} {t e : TypeId} {size : Nat} {es : List (List LV)} {k : Cap} {ki : IntKind} {i : Int} {el : List LV} {agg : Bool} (ht : P.underlying t = some (.slice e)) (hty : Ty P e size agg) (hx : Is (ev env x) (.sl size es k)) (hy : Is (ev env y) (.raw (.int ki i))) (h0 : 0 ≤ i) (hi : es[i.toNat]? = some el) (hne : el ≠ []) :
    LU P env H ⟨d, .indexAddr t x y, ty, pos, af, g⟩ (.pin el) := .of_run fun ph a hl w0 w hinv => by
  have h1 := hx _ _ (hl x (by simp [Op.operands]))
  have h2 := (hy _ _ (hl y (by simp [Op.operands]))).rawE
  generalize hu : a.eval x = u at h1
  cases h1 with | sl _ _ _ A n c ad uf hA hn hnc hs hcap hp hr =>
    have hlt : i.toNat < es.length := (List.getElem?_eq_some_iff.1 hi).1
    obtain rfl := hA (by omega)
    have hsp : ad.spot = none ∨ i.toNat * size ≠ 0 := by
      by_cases hz : i.toNat * size = 0
      · left
        obtain ⟨x0, hx0⟩ : ∃ x0, el[0]? = some x0 := by cases el with | nil => exact absurd rfl hne | cons a b => exact ⟨a, rfl⟩
        have := hp i.toNat el 0 x0 hi hx0
        have := hinv.spot this
        unfold Addr.add at this
        rw [if_pos (by omega)] at this
        exact this
      · exact .inr hz
    have hadd : ∀ j, (ad.add (i.toNat * size)).add j = ad.add (i.toNat * size + j) := fun j => by
      rcases hsp with h | h
      · exact add_add ad _ _ h
      · unfold Addr.add
        by_cases hj : j = 0 <;> simp [h, hj, Nat.add_assoc]
    have hlt2 : i < (n : Int) := by omega
    refine ⟨.pointer (some (ad.add (i.toNat * size))), ?_, .pin el _ (fun j => uf (i.toNat * size + j)) (fun j x hj => by rw [hadd]; exact hp i.toNat el j x hi hj) (fun j x hj => hr i.toNat el j x hi hj)⟩
    simp [execOp, hu, h2, Instr.indexAt, asIntOf, run_underlying ht, h0, hlt2, hty.size]
theorem pin_load {ph : PH} {cs : List LV} {ad : Addr} {u : Nat → Value} (hp : ∀ (j : Nat) (x : LV), cs[j]? = some x → ph (ad.add j) = some (u j)) (hr : ∀ (j : Nat) (x : LV), cs[j]? = some x → Rep ph (u j) x) {w0 : Base} {w : World} (hinv : Inv w0 ph w H) {t : TypeId} {size : Nat} {agg : Bool} (ht : Ty P t size agg) {v : LV} (hl : cs.length = size) (hv : Part size agg cs 0 v) :
    ∃ z, (loadVar t ad).run P w = .ok z w ∧ Rep ph z v := by
  have hc : ∀ j, j < cs.length → w.cell? (ad.add j) = some (u j) := fun j hj => hinv.cell _ _ (hp j _ (List.getElem?_eq_getElem hj))
  cases agg with
  | true =>
    obtain ⟨h1, rfl⟩ := hv
    have hrun := run_loadCells (P := P) w ad size u (fun j hj => hc j (by omega))
    refine ⟨.agg ((List.range size).map u).toArray, by simp [loadVar, ht.agg, ht.size, hrun], .agg _ _ (by simp; omega) (fun i c hi => ?_) fun i c x hi hx => ?_⟩
    · simp at hi
      obtain ⟨m, hm, rfl⟩ := hi
      obtain ⟨h3, rfl⟩ := List.getElem?_eq_some_iff.1 hm
      simp only [List.getElem_range]
      have hlt : i < cs.length := by simp at h3; omega
      exact hinv.one _ _ (hp i _ (List.getElem?_eq_getElem hlt))
    simp [List.getElem?_take] at hi hx
    obtain ⟨m, hm, rfl⟩ := hi
    obtain ⟨h3, rfl⟩ := List.getElem?_eq_some_iff.1 hm
    simp only [List.getElem_range]
    exact hr i x hx.2
  | false =>
    have hv : cs[0]? = some v := hv
    have h0 : 0 < cs.length := (List.getElem?_eq_some_iff.1 hv).1
    have := hc 0 h0
    rw [show ad.add 0 = ad from rfl] at this
    exact ⟨u 0, by simp [loadVar, ht.agg, load, Sem.run, this], hr 0 v hv⟩
theorem LU.load {x : Operand} {t : TypeId} {size : Nat} {agg : Bool} {cs : List LV} {v : LV} (ht : Ty P t size agg) (hx : Is (ev env x) (.pin cs)) (hl' : cs.length = size) (hv : Part size agg cs 0 v) : LU P env H ⟨d, .load t x, ty, pos, af, g⟩ v := .of_run fun ph a hl w0 w hinv => by
  have h1 := hx _ _ (hl x (by simp [Op.operands]))
  generalize hu : a.eval x = u at h1
  cases h1 with | pin _ ad uf hp hr =>
    obtain ⟨z, hrun, hrep⟩ := pin_load (P := P) hp hr hinv ht hl' hv
    exact ⟨z, by simp [execOp, hu, Instr.loadAt, Instr.sureAddr, hrun], hrep⟩
theorem LU.fieldP {x : Operand} {t : TypeId} {fs : Array Field} {i : Nat} {f : Field} {cs : List LV} {size : Nat} {agg : Bool} (ht : P.underlying t = some (.struct fs)) (hf : fs[i]? = some f) (hty : Ty P f.type size agg) (hs0 : 0 < size) (hx : Is (ev env x) (.pin cs)) (hlen : f.offset + size ≤ cs.length) :
    LU P env H ⟨d, .fieldAddr t x i, ty, pos, af, g⟩ (.pin ((cs.drop f.offset).take size)) := .of_run fun ph a hl w0 w hinv => by
  have h1 := hx _ _ (hl x (by simp [Op.operands]))
  generalize hu : a.eval x = u at h1
  cases h1 with | pin _ ad uf hp hr =>
    have hc0 : 0 < cs.length := by omega
    have hsp : ad.spot = none := hinv.spot (hp 0 _ (List.getElem?_eq_getElem hc0))
    have hget : ∀ (j : Nat) (x : LV), ((cs.drop f.offset).take size)[j]? = some x → cs[f.offset + j]? = some x := fun j x h => by
      rw [List.getElem?_take] at h
      split at h
      · rwa [List.getElem?_drop] at h
      · cases h
    refine ⟨.pointer (some (ad.add f.offset)), ?_, .pin _ _ (fun j => uf (f.offset + j)) (fun j x hj => by rw [add_add _ _ _ hsp]; exact hp _ x (hget j x hj)) (fun j x hj => hr _ x (hget j x hj))⟩
    have : size ≠ 0 := by omega
    simp [execOp, hu, Instr.fieldAt, run_underlying ht, hf, Instr.sureAddr, fieldPlace, hty.size, this]
end
end Go.L
