/- A map's keys in order; names told once. -/
import Derived.Test.YtmaeepckfbnpjaaDpE
set_option linter.unusedVariables false
set_option linter.unusedSimpArgs false
namespace Go.Proofs.Ytmaeepckfbnpjaa
open Go.RowKit Go.L Go.Lib Go.Shelf Go.Sort
attribute [local irreducible] LL LW LO
theorem tls_drop : ∀ (N : List (Hs × Gr)) (R : List Atom), HSub (tls N ++ R) R
  | [], R => HSub.refl _
  | p :: r, R => HSub.drop (tls_drop r R)
set_option maxRecDepth 100000 in
theorem once_calls (l : List It) (k : Cap) (hl : l.length < 140737488355328) (hd : totalD l ≤ 1000000) : LCalls Try.prog 23 [.sl 33 (its l) k] [] (fun r H' => r = bl (decide (names l).Nodup) ∧ H' = []) := by
  refine LCalls.of Try.func23 rfl Try.ntmps23 Try.results23 rfl (fun Rf => ?_)
  refine LW.seq ?_
  refine LW.region ?_
  refine X.u (LU.assignR Is.rfl') rfl ?_
  refine LL.nil (after_code ?_)
  refine LW.seq ?_
  refine LW.region ?_
  refine X.u (LU.moveS Is.rfl') rfl ?_
  refine X.act (X.call (table_calls l _ hl hd) Try.func29 rfl rfl rfl (HSub.refl _) (Opds.cons Is.rfl' Opds.nil) ?_)
  rintro r H' ⟨m1, m2, M, N, rfl, rfl, hM, hN⟩
  refine X.u (LU.moveT Is.rfl') rfl ?_
  refine X.u (LU.extract Is.rfl' rfl) rfl ?_
  refine X.u (LU.extract Is.rfl' rfl) rfl ?_
  refine X.u (LU.assignR Is.rfl') rfl ?_
  refine X.u (LU.assignR Is.rfl') rfl ?_
  refine LL.nil (after_code ?_)
  refine LW.seq ?_
  refine LW.region ?_
  refine X.u (LU.moveR Is.rfl') rfl ?_
  refine X.u (LU.lenMap 0 rfl Try.underlying43 Is.rfl') rfl ?_
  refine X.u (LU.moveS Is.rfl') rfl ?_
  refine X.u (LU.lenN Try.underlying22 Is.rfl' (by (simp only [Option.getD_some, Option.getD_none, byteEls_length, intEls_length, List.length_append, List.length_cons, List.length_nil, List.length_map, List.length_drop, List.length_take, Int.toNat_natCast]; rfl))) rfl ?_
  refine X.u (LU.eql Is.rfl' Is.rfl') rfl ?_
  refine X.u (LU.assignR Is.rfl') rfl ?_
  refine LL.nil (after_code ?_)
  refine LW.ret (after_end ?_)
  refine X.ret (H' := []) (Res.one (by exact IsR rfl)) (HSub.drop (HSub.drop (tls_drop N Rf))) ?_
  refine ⟨?_, rfl⟩
  have h := hM.len
  congr 2
  rw [Bool.eq_iff_iff]
  simp only [decide_eq_true_eq, List.length_map] at h ⊢
  rw [← h]
  omega
theorem sortN_calls (es : List Hs) (A : Option Nat) (te : TypeId) (off n c : Nat) (xs : List LV) (ow : OwnS 32 (hss es) A off n c xs) (hn : n < 4611686018427387904) : LCalls Try.prog 24 [ownV A off n c, .raw (.func (.func 25) #[] #[])] (ownA A te xs) (fun r H' => r = .raw (.tuple #[]) ∧ ∃ xs', H' = ownA A te xs' ∧ OwnS 32 (hss (sortH es)) A off n c xs') := by
  cases A with
  | some b => exact sort_calls es b off n c te xs ow hn
  | none =>
    have hc := ow.nil rfl
    have h0 : n = 0 := by have := ow.le; omega
    have he : es = [] := List.eq_nil_of_length_eq_zero (by have := ow.cnt; rw [List.length_map] at this; omega)
    subst hc; subst h0; subst he
    exact (LCalls.quiet (vs := [.slice none 0 0, .func (.func 25) #[] #[]]) (v := .tuple #[]) fun w => AnyF.slices_SortFunc_none Try.sortL none 0 _ w).mono fun r H' ⟨h1, h2⟩ => ⟨h1, xs, h2, by
      have : sortH [] = [] := List.eq_nil_of_length_eq_zero (sortH_len [])
      rw [this]; exact ow⟩
theorem Is.rawhk (a : Hs) : Is (.raw (hsKey a)) (.agg (hsL a)) := by
  have := Is.raw_agg (vs := a.1.map fun b => Value.int .u8 b.toNat) (fun v hv => by obtain ⟨x, _, rfl⟩ := List.mem_map.1 hv; rfl)
  rwa [raws, List.map_map] at this
def pickK (K : List Hs) (seen : List Nat) : List Hs := seen.map fun i => K.getD i default
theorem pickK_snoc {K : List Hs} {seen : List Nat} {i : Nat} {a : Hs} (h : K[i]? = some a) : pickK K (seen ++ [i]) = pickK K seen ++ [a] := by
  unfold pickK
  rw [List.map_append]
  simp [h]
theorem pickK_mem {K : List Hs} {seen : List Nat} (hs : ∀ i ∈ seen, i < K.length) (hall : ∀ i, i < K.length → i ∈ seen) (x : Hs) : x ∈ pickK K seen ↔ x ∈ K := by
  unfold pickK
  rw [List.mem_map]
  constructor
  · rintro ⟨i, hi, rfl⟩
    have := hs i hi
    rw [List.getD_eq_getElem?_getD, List.getElem?_eq_getElem this]
    exact List.getElem_mem this
  · intro hx
    obtain ⟨i, hi, rfl⟩ := List.getElem_of_mem hx
    exact ⟨i, hall i hi, by rw [List.getD_eq_getElem?_getD, List.getElem?_eq_getElem hi]; rfl⟩
theorem pickK_nodup {K : List Hs} (hK : K.Nodup) : ∀ {seen : List Nat}, seen.Nodup → (∀ i ∈ seen, i < K.length) → (pickK K seen).Nodup
  | [], _, _ => List.nodup_nil
  | i :: s, hn, hs => by
    obtain ⟨h1, h2⟩ := List.nodup_cons.1 hn
    have hi := hs i (by simp)
    refine List.nodup_cons.2 ⟨fun hm => ?_, pickK_nodup hK h2 fun j hj => hs j (List.mem_cons_of_mem _ hj)⟩
    obtain ⟨j, hj, e⟩ := List.mem_map.1 hm
    have e : K.getD j default = K.getD i default := e
    have hjl := hs j (List.mem_cons_of_mem _ hj)
    rw [List.getD_eq_getElem?_getD, List.getElem?_eq_getElem hjl, List.getD_eq_getElem?_getD, List.getElem?_eq_getElem hi] at e
    have : j = i := (List.getElem_inj hK).1 e
    exact h1 (this ▸ hj)
end Go.Proofs.Ytmaeepckfbnpjaa
