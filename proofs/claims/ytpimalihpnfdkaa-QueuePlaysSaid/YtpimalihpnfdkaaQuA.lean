/- The merge queue: who waits, as lists. -/
import Derived.Test.YtpimalihpnfdkaaLogIn
import Derived.Test.YtpimalihpnfdkaaProg
set_option linter.unusedVariables false
set_option linter.unusedSimpArgs false
namespace Go.Proofs.Ytpimalihpnfdkaa
open Go.RowKit Go.L
attribute [local irreducible] LL LW LO
abbrev i64 (n : Int) : LV := .raw (.int .i64 n)
abbrev bl (b : Bool) : LV := .raw (.bool b)
abbrev pt (g : Nat) : LV := .raw (.pointer (some ⟨g, 0, none⟩))
abbrev Ints (l : List Int) (k : Cap) : LV := .sl 1 (intEls l) k
/-- What has ended. -/
abbrev Ed := Int × Int × Int
abbrev edL (e : Ed) : List LV := [i64 e.1, i64 e.2.1, i64 e.2.2]
abbrev eds (l : List Ed) : List (List LV) := l.map edL
theorem eds_size (l : List Ed) : ∀ e ∈ eds l, e.length = 3 := fun e he => by
  obtain ⟨x, _, rfl⟩ := List.mem_map.1 he
  rfl
abbrev qa (g : Nat) (ws : List Int) (es : List Ed) (tv : Value) (b o c b2 o2 c2 : Nat) : Atom := .cells g 77 [Ints ws (.tok b o c), .sl 3 (eds es) (.tok b2 o2 c2), .raw tv, bl true]
theorem at_lt {α : Type} {l : List α} {i : Nat} (h : i < l.length) : ∃ x, l[i]? = some x := ⟨_, List.getElem?_eq_getElem h⟩
theorem ints_at {l : List Int} {i : Nat} {x : Int} (h : l[i]? = some x) : (intEls l)[(i : Int).toNat]? = some [i64 x] := by
  rw [Int.toNat_natCast]; simp [intEls, h]
def idx (l : List Int) (v : Int) : Int := match (List.range l.length).find? (fun i => decide (v = l.getD i 0)) with
  | some i => i
  | none => -1
theorem idx_some {l : List Int} {v : Int} {i : Nat} (hi : i < l.length) (h1 : ∀ j, j < i → v ≠ l.getD j 0) (h2 : v = l.getD i 0) : idx l v = i := by
  have : (List.range l.length).find? (fun i => decide (v = l.getD i 0)) = some i := by
    rw [List.find?_range_eq_some]
    exact ⟨decide_eq_true h2, List.mem_range.2 hi, fun j hj => by simpa using h1 j hj⟩
  unfold idx; rw [this]
theorem idx_none {l : List Int} {v : Int} (h1 : ∀ j, j < l.length → v ≠ l.getD j 0) : idx l v = -1 := by
  have : (List.range l.length).find? (fun i => decide (v = l.getD i 0)) = none := by
    rw [List.find?_eq_none]
    intro j hj
    simpa using h1 j (List.mem_range.1 hj)
  unfold idx; rw [this]
theorem idx_range (l : List Int) (v : Int) : -1 ≤ idx l v ∧ idx l v < l.length := by
  unfold idx
  cases hf : (List.range l.length).find? (fun i => decide (v = l.getD i 0)) with
  | none => exact ⟨Int.le_refl _, by show (-1 : Int) < _; omega⟩
  | some i =>
    have := (List.find?_range_eq_some.1 hf).2.1
    have := List.mem_range.1 this
    show (-1 : Int) ≤ (i : Int) ∧ (i : Int) < l.length
    omega
set_option maxRecDepth 100000 in
theorem none_calls21 (g : Nat) (ws : List Int) (es : List Ed) (tv : Value) (b o c b2 o2 c2 : Nat) : LCalls Try.prog 57 [pt g] [qa g ws es tv b o c b2 o2 c2] (fun r H' => r = bl false ∧ H' = [qa g ws es tv b o c b2 o2 c2]) := by
  refine LCalls.of Try.func57 rfl Try.ntmps57 Try.results57 rfl (fun Rf => ?_)
  refine LW.seq ?_
  refine LW.region ?_
  refine X.u (LU.assignR Is.rfl') rfl ?_
  refine LL.nil (after_code ?_)
  refine LW.seq ?_
  refine LW.region ?_
  refine X.u (LU.moveR Is.rfl') rfl ?_
  refine X.u (LU.nilEqS Try.underlying51 Is.rfl' Is.rfl') rfl ?_
  refine X.u (LU.moveR Is.rfl') rfl ?_
  refine X.doF rfl rfl (LU.moveR (by exact Is.rfl')) rfl ?_
  refine X.doF rfl rfl (LU.nilCheck (by exact Is.rfl')) rfl ?_
  refine X.doF rfl rfl (LU.fieldO Try.underlying77 rfl Try.sizeOf4 (by decide) (by exact Is.rfl')) rfl ?_
  refine X.doF rfl rfl (LU.loadO 0 rfl ⟨Try.sizeOf4, Try.isAgg4⟩ (by exact Is.rfl') (Part.one rfl)) rfl ?_
  refine X.doF rfl rfl (LU.not (by exact Is.rfl')) rfl ?_
  refine X.u (LU.pickF Is.rfl' (by exact Is.rfl')) rfl ?_
  refine X.u (LU.assignR Is.rfl') rfl ?_
  refine LL.nil (after_code ?_)
  refine LW.ret (after_end ?_)
  refine X.ret (H' := [qa g ws es tv b o c b2 o2 c2]) (Res.one (by exact IsR rfl)) (by repeat (exact HSub.refl _)) ?_
  exact ⟨rfl, rfl⟩
set_option maxRecDepth 100000 in
theorem index_calls (l : List Int) (k : Cap) (v : Int) (hl : l.length < 9223372036854775807) : LCalls Try.prog 62 [Ints l k, i64 v] [] (fun r H' => r = i64 (idx l v) ∧ H' = []) := by
  refine LCalls.of Try.func62 rfl Try.ntmps62 Try.results62 rfl (fun Rf => ?_)
  refine LW.seq ?_
  refine LW.region ?_
  refine X.u (LU.assignR Is.rfl') rfl ?_
  refine LL.nil (after_code ?_)
  refine LW.seq ?_
  refine LW.seq ?_
  refine LW.region ?_
  refine X.u (LU.moveS Is.rfl') rfl ?_
  refine X.u (LU.lenN Try.underlying24 Is.rfl' (by (simp only [Option.getD_some, Option.getD_none, byteEls_length, intEls_length, List.length_append, List.length_cons, List.length_nil, List.length_map, List.length_drop, List.length_take, Int.toNat_natCast]; rfl))) rfl ?_
  refine X.u (LU.moveR Is.rfl') rfl ?_
  refine LL.nil (after_code ?_)
  refine LW.block ?_
  refine X.loopK (α := Nat) (fun i => [(8, i64 i)]) [0, 1, 7] (fun _ => _) (fun i => i ≤ l.length ∧ ∀ j, j < i → v ≠ l.getD j 0) (fun i => l.length - i) (0) (EnvLe.cons (by rfl) (EnvLe.nil)) (HSub.refl _) ?_ ?_
  · exact ⟨Nat.zero_le _, fun j hj => by omega⟩
  · rintro i hI
    obtain ⟨hi, hf⟩ := hI
    refine LW.seq ?_
    refine LW.region ?_
    refine X.u (LU.lss Is.rfl' Is.rfl') rfl ?_
    refine LL.nil (after_code ?_)
    refine LW.seq ?_
    refine X.cond rfl (fun h2 => ?_) (fun h2 => ?_)
    · try have h2 := of_decide_eq_true h2
      refine LW.skip (after_code ?_)
      refine LW.seq ?_
      refine LW.block ?_
      refine LW.seq ?_
      refine LW.region ?_
      refine X.u (LU.moveR Is.rfl') rfl ?_
      refine X.u (LU.assignR Is.rfl') rfl ?_
      refine LL.nil (after_code ?_)
      refine LW.seq ?_
      obtain ⟨x, hx⟩ := at_lt (show i < l.length by omega)
      refine LW.region ?_
      refine X.u (LU.moveR Is.rfl') rfl ?_
      refine X.u (LU.moveS Is.rfl') rfl ?_
      refine X.u (LU.moveR Is.rfl') rfl ?_
      refine X.u (LU.at Try.underlying24 ⟨Try.sizeOf3, Try.isAgg3⟩ Is.rfl' Is.rfl' (by omega) (ints_at hx) (by simp)) rfl ?_
      refine X.u (LU.load ⟨Try.sizeOf3, Try.isAgg3⟩ Is.rfl' (by (simp; done)) (Part.one rfl)) rfl ?_
      refine X.u (LU.eql Is.rfl' Is.rfl') rfl ?_
      refine LL.nil (after_code ?_)
      refine X.cond rfl (fun h4 => ?_) (fun h4 => ?_)
      · have hne : v = x := by simpa using h4
        refine LW.seq ?_
        refine LW.region ?_
        refine X.u (LU.moveR Is.rfl') rfl ?_
        refine X.u (LU.assignR Is.rfl') rfl ?_
        refine LL.nil (after_code ?_)
        refine LW.ret (ret_blk (ret_code (ret_rnd (ret_blk (ret_code (after_end ?_))))))
        refine X.ret (H' := []) (Res.one (by exact IsR rfl)) (by repeat (exact HSub.refl _)) ?_
        exact ⟨by rw [idx_some (by omega) hf (by rw [List.getD_eq_getElem?_getD, hx]; exact hne)]; try rfl, rfl⟩
      · have hne : v ≠ x := by simpa using h4
        refine LW.skip (after_blk (after_code ?_))
        refine LW.region ?_
        refine X.u (LU.addN Is.rfl' Is.rfl' (wrap_i64 (by omega) (by omega))) rfl ?_
        refine X.u (LU.moveR Is.rfl') rfl ?_
        refine LL.nil (after_rnd ?_)
        refine X.next (i + 1) rfl (EnvLe.cons (by rfl) (EnvLe.nil)) (Keeps.cons (by exact Eq.trans (b := .sl _ _ _) rfl rfl) (Keeps.cons (by exact Eq.trans (b := .raw _) rfl rfl) (Keeps.cons (by exact Eq.trans (b := .raw _) rfl rfl) (Keeps.nil)))) (HSub.refl _) ?_ ?_
        · refine ⟨by omega, fun j hj => ?_⟩
          by_cases hji : j = i
          · rw [hji, List.getD_eq_getElem?_getD, hx]; exact hne
          · exact hf j (by omega)
        · omega
    · try have h2 := of_decide_eq_false h2
      refine LW.exit (exit_code (exit_rnd (exit_blk (after_code ?_))))
      refine LW.seq ?_
      refine LW.region ?_
      refine X.u (LU.assignR Is.rfl') rfl ?_
      refine LL.nil (after_code ?_)
      refine LW.ret (after_end ?_)
      refine X.ret (H' := []) (Res.one (by exact IsR rfl)) (by repeat (exact HSub.refl _)) ?_
      exact ⟨by rw [idx_none fun j hj => hf j (by omega)]; try rfl, rfl⟩
set_option maxRecDepth 100000 in
theorem contains_calls (l : List Int) (k : Cap) (v : Int) (hl : l.length < 9223372036854775807) : LCalls Try.prog 58 [Ints l k, i64 v] [] (fun r H' => r = bl (decide (0 ≤ idx l v)) ∧ H' = []) := by
  refine LCalls.of Try.func58 rfl Try.ntmps58 Try.results58 rfl (fun Rf => ?_)
  refine LW.seq ?_
  refine LW.region ?_
  refine X.u (LU.assignR Is.rfl') rfl ?_
  refine LL.nil (after_code ?_)
  refine LW.seq ?_
  refine LW.region ?_
  refine X.u (LU.moveS Is.rfl') rfl ?_
  refine X.u (LU.moveR Is.rfl') rfl ?_
  refine X.u (LU.call (index_calls l k v hl) Try.func62 rfl rfl (Opds.cons Is.rfl' (Opds.cons Is.rfl' Opds.nil))) rfl ?_
  refine X.u (LU.geq Is.rfl' Is.rfl') rfl ?_
  refine X.u (LU.assignR Is.rfl') rfl ?_
  refine LL.nil (after_code ?_)
  refine LW.ret (after_end ?_)
  refine X.ret (H' := []) (Res.one (by exact IsR rfl)) (by repeat (exact HSub.refl _)) ?_
  exact ⟨rfl, rfl⟩
set_option maxRecDepth 100000 in
theorem clone_calls (l : List Int) (k : Cap) (hl : l.length < 1099511627776) : LCalls Try.prog 59 [Ints l k] [] (fun r H' => r = Ints l .unk ∧ H' = []) := by
  refine LCalls.of Try.func59 rfl Try.ntmps59 Try.results59 rfl (fun Rf => ?_)
  refine LW.seq ?_
  refine LW.region ?_
  refine X.u (LU.assign (Is.nil 1)) rfl ?_
  refine LL.nil (after_code ?_)
  refine LW.seq ?_
  refine LW.seq ?_
  refine LW.region ?_
  refine X.u (LU.moveS Is.rfl') rfl ?_
  refine X.act (LO.nilSl (st := ⟨_, _, _⟩) rfl Try.underlying24 Is.rfl' Is.rfl' (fun bb hbb => ?_))
  refine LL.nil (after_code ?_)
  refine X.cond rfl (fun h1 => ?_) (fun h1 => ?_)
  · try have h1 := of_decide_eq_true h1
    refine LW.seq ?_
    refine LW.region ?_
    refine X.u (LU.assign (Is.nil 1)) rfl ?_
    refine LL.nil (after_code ?_)
    refine LW.ret (ret_code (after_end ?_))
    refine X.ret (H' := []) (Res.one (by exact IsS rfl)) (by repeat (exact HSub.refl _)) ?_
    exact ⟨by unfold Ints; rw [hbb h1], rfl⟩
  · try have h1 := of_decide_eq_false h1
    refine LW.skip (after_code ?_)
    refine LW.seq ?_
    refine LW.region ?_
    refine X.u (LU.lits Try.underlying24 Try.sizeOf3 Try.zeroValue3 (ones rfl) rfl (by decide) (by decide) Elems.nil (by intro e he; cases he) rfl) rfl ?_
    refine X.u (LU.moveS Is.rfl') rfl ?_
    refine X.u (LU.weak (LU.append Try.underlying24 (El.of (P := Try.prog) (z := (.int .i64 0)) (size := 1) (bytes := 8) rfl rfl rfl) Is.rfl' Is.rfl' (SrcL.slice Try.underlying24 (by decide) (by exact intEls_size _)) (by simp only [Option.getD_some, Option.getD_none, byteEls_length, intEls_length, List.length_append, List.length_cons, List.length_nil, List.length_map, List.length_drop, List.length_take, Int.toNat_natCast]; omega) (by simp only [Option.getD_some, Option.getD_none, byteEls_length, intEls_length, List.length_append, List.length_cons, List.length_nil, List.length_map, List.length_drop, List.length_take, Int.toNat_natCast]; omega)) (Is.of (y := Ints l .unk) (rfl))) rfl ?_
    refine X.u (LU.assignS Is.rfl') rfl ?_
    refine LL.nil (after_code ?_)
    refine LW.ret (after_end ?_)
    refine X.ret (H' := []) (Res.one (by exact IsS rfl)) (by repeat (exact HSub.refl _)) ?_
    exact ⟨rfl, rfl⟩
end Go.Proofs.Ytpimalihpnfdkaa
