/- What a hash needs. -/
import Derived.Test.YtmaeepckfbnpjaaDpU
set_option linter.unusedVariables false
set_option linter.unusedSimpArgs false
namespace Go.Proofs.Ytmaeepckfbnpjaa
open Go.RowKit Go.L Go.Lib
attribute [local irreducible] LL LW LO
def allD (l : List It) : List Hs := l.flatMap (·.deps)
theorem allD_len (l : List It) : (allD l).length = totalD l := by unfold allD totalD; rw [List.length_flatMap]
theorem depsOf_mem {l : List It} {h d : Hs} : d ∈ depsOf l h ↔ ∃ x ∈ l, x.name = h ∧ d ∈ x.deps := by
  unfold depsOf
  simp only [List.mem_flatMap, List.mem_filter, decide_eq_true_eq]
  exact ⟨fun ⟨x, ⟨a, b⟩, c⟩ => ⟨x, a, b, c⟩, fun ⟨x, a, b, c⟩ => ⟨x, ⟨a, b⟩, c⟩⟩
theorem depsOf_all {l : List It} {h d : Hs} (hd : d ∈ depsOf l h) : d ∈ allD l := by
  obtain ⟨x, a, _, c⟩ := depsOf_mem.1 hd
  exact List.mem_flatMap.2 ⟨x, a, c⟩
def byOf (l : List It) (d : Hs) : List Hs := l.flatMap fun x => (x.deps.filter fun y => y = d).map fun _ => x.name
theorem byOf_mem {l : List It} {h d : Hs} : h ∈ byOf l d ↔ d ∈ depsOf l h := by
  rw [depsOf_mem]
  unfold byOf
  simp only [List.mem_flatMap, List.mem_map, List.mem_filter, decide_eq_true_eq]
  constructor
  · rintro ⟨x, a, y, ⟨b, c⟩, e⟩; exact ⟨x, a, e, c ▸ b⟩
  · rintro ⟨x, a, b, c⟩; exact ⟨x, a, d, ⟨c, rfl⟩, b⟩
theorem rch_by {l : List It} {h x : Hs} : Rch (byOf l) h x ↔ Rch (depsOf l) x h :=
  ⟨Rch.flip fun _ _ hy => byOf_mem.1 hy, Rch.flip fun _ _ hy => byOf_mem.2 hy⟩
/-- In order, each once, and just those. -/
def Just (ks : List Hs) (S : Hs → Prop) : Prop := ks = sortU ks ∧ ∀ x, x ∈ ks ↔ S x
theorem Just.of {k : List Hs} {S : Hs → Prop} (hk : k.Nodup) (h : ∀ x, x ∈ k ↔ S x) : Just (sortH k) S := by
  have h0 : sortH k = sortU k := sortU_of hk fun x => Iff.rfl
  exact ⟨by rw [h0]; exact (sortU_congr fun x => sortU_mem).symm, fun x => by rw [sortH_mem]; exact h x⟩
theorem Just.ofU {k : List Hs} {S : Hs → Prop} (h : ∀ x, x ∈ k ↔ S x) : Just (sortU k) S := ⟨(sortU_congr fun x => sortU_mem).symm, fun x => by rw [sortU_mem]; exact h x⟩
theorem Just.uniq {a b : List Hs} {S : Hs → Prop} (ha : Just a S) (hb : Just b S) : a = b := by rw [ha.1, hb.1]; exact sortU_congr fun x => by rw [ha.2, hb.2]
theorem Just.congr {a : List Hs} {S T : Hs → Prop} (ha : Just a S) (h : ∀ x, S x ↔ T x) : Just a T := ⟨ha.1, fun x => by rw [ha.2, h]⟩
theorem Just.ex {S : Hs → Prop} (T : List Hs) (hT : ∀ x, S x → x ∈ T) : ∃ ks, Just ks S := by
  classical
  exact ⟨_, Just.ofU (k := T.filter fun x => decide (S x)) fun x => by rw [List.mem_filter, decide_eq_true_eq]; exact ⟨And.right, fun h => ⟨hT x h, h⟩⟩⟩
def IsN (l : List It) (h : Hs) (ks : List Hs) : Prop := (256 < l.length → ks = []) ∧ (l.length ≤ 256 → Just ks (Rch (depsOf l) h))
def IsA (l : List It) (h : Hs) (ks : List Hs) : Prop := (256 < l.length → ks = []) ∧ (l.length ≤ 256 → Just ks (fun x => Rch (depsOf l) x h))
theorem isN_ex (l : List It) (h : Hs) : ∃ ks, IsN l h ks := by
  by_cases c : 256 < l.length
  · exact ⟨[], fun _ => rfl, fun e => absurd c (by omega)⟩
  · obtain ⟨ks, hk⟩ := Just.ex (S := Rch (depsOf l) h) (allD l) fun x hx => by obtain ⟨y, hy⟩ := hx.last; exact depsOf_all hy
    exact ⟨ks, fun e => absurd e c, fun _ => hk⟩
theorem isA_ex (l : List It) (h : Hs) : ∃ ks, IsA l h ks := by
  by_cases c : 256 < l.length
  · exact ⟨[], fun _ => rfl, fun e => absurd c (by omega)⟩
  · obtain ⟨ks, hk⟩ := Just.ex (S := fun x => Rch (depsOf l) x h) (names l) fun x hx => by
      have hx := rch_by.2 hx
      obtain ⟨y, hy⟩ := hx.last
      obtain ⟨z, a, b, _⟩ := depsOf_mem.1 (byOf_mem.1 hy)
      exact List.mem_map.2 ⟨z, a, b⟩
    exact ⟨ks, fun e => absurd e c, fun _ => hk⟩
theorem IsN.uniq {l : List It} {h : Hs} {a b : List Hs} (ha : IsN l h a) (hb : IsN l h b) : a = b := by
  by_cases c : 256 < l.length
  · rw [ha.1 c, hb.1 c]
  · exact (ha.2 (by omega)).uniq (hb.2 (by omega))
theorem IsA.uniq {l : List It} {h : Hs} {a b : List Hs} (ha : IsA l h a) (hb : IsA l h b) : a = b := by
  by_cases c : 256 < l.length
  · rw [ha.1 c, hb.1 c]
  · exact (ha.2 (by omega)).uniq (hb.2 (by omega))
theorem tls_pull (a : Atom) (R : List Atom) : ∀ N : List (Hs × Gr), HSub (tls N ++ (a :: R)) (a :: (tls N ++ R))
  | [] => HSub.refl _
  | p :: r => HSub.trans (HSub.cons (tls_pull a R r)) (HSub.pick 1 rfl (HSub.refl _))
theorem tls_push (a : Atom) (R : List Atom) : ∀ N : List (Hs × Gr), HSub (a :: (tls N ++ R)) (tls N ++ (a :: R))
  | [] => HSub.refl _
  | p :: r => HSub.trans (HSub.pick 1 rfl (HSub.refl _)) (HSub.cons (tls_push a R r))
set_option maxHeartbeats 1000000 in
set_option maxRecDepth 100000 in
theorem needs_calls (l : List It) (h : Hs) (ks : List Hs) (k : Cap) (hl : l.length < 140737488355328) (hd : totalD l ≤ 1000000) (hks : IsN l h ks) : LCalls Try.prog 14 [.sl 33 (its l) k, .agg (hsL h)] [] (fun r H' => r = .sl 32 (hss ks) .unk ∧ H' = []) := by
  have hx2 : h.1.length = 32 := h.2
  refine LCalls.of Try.func14 rfl Try.ntmps14 Try.results14 rfl (fun Rf => ?_)
  refine LW.seq ?_
  refine LW.region ?_
  refine X.act (X.box rfl Is.rfl' (by exact Cells.agg) (fun b3 => ?_))
  refine X.u (LU.assign (Is.nil 32)) rfl ?_
  refine LL.nil (after_code ?_)
  refine LW.seq ?_
  refine LW.seq ?_
  refine LW.region ?_
  refine X.u (LU.moveS Is.rfl') rfl ?_
  refine X.u (LU.lenN Try.underlying22 Is.rfl' (by (simp only [Option.getD_some, Option.getD_none, byteEls_length, intEls_length, List.length_append, List.length_cons, List.length_nil, List.length_map, List.length_drop, List.length_take, Int.toNat_natCast]; rfl))) rfl ?_
  refine X.u (LU.gtr Is.rfl' Is.rfl') rfl ?_
  refine LL.nil (after_code ?_)
  refine X.cond rfl (fun h1 => ?_) (fun h1 => ?_)
  · have h1 : 256 < l.length := by have := of_decide_eq_true h1; omega
    refine LW.seq ?_
    refine LW.region ?_
    refine X.u (LU.assign (Is.nil 32)) rfl ?_
    refine LL.nil (after_code ?_)
    refine LW.ret (ret_code (after_end ?_))
    refine X.ret (H' := []) (Res.one Is.unk) (by repeat (first | exact HSub.refl _ | refine HSub.drop ?_)) ?_
    refine ⟨?_, rfl⟩
    rw [hks.1 h1]; rfl
  · have h1 : ¬ 256 < l.length := by have := of_decide_eq_false h1; omega
    refine LW.skip (after_code ?_)
    refine LW.seq ?_
    refine LW.region ?_
    refine X.u (LU.moveS Is.rfl') rfl ?_
    refine X.act (X.call (table_calls l _ hl hd) Try.func29 rfl rfl rfl (HSub.refl _) (Opds.cons Is.rfl' Opds.nil) ?_)
    rintro r H' ⟨m1, m2, M, N, rfl, rfl, hM, hN⟩
    refine X.u (LU.moveT Is.rfl') rfl ?_
    refine X.u (LU.extract Is.rfl' rfl) rfl ?_
    refine X.u (LU.extract Is.rfl' rfl) rfl ?_
    refine X.u (LU.assignR Is.rfl') rfl ?_
    refine X.u (LU.assignR Is.rfl') rfl ?_
    refine LL.nil (after_code ?_)
    refine LW.seq ?_
    have hre := reach_calls m2 N h (allD l) (fun x d hd => by rw [show fN N x = depsOf l x from hN x] at hd; exact depsOf_all hd) (by rw [allD_len]; exact hd) (fun x => by rw [hN x]; have := depsOf_len l x; omega)
    refine X.wghost (H' := .cells b3 34 (hsL h) :: .map m2 (mp hsKey (nV N)) :: (tls N ++ Rf)) (HSub.trans (HSub.drop (HSub.cons (tls_pull _ Rf N))) (HSub.pick 1 rfl (HSub.refl _))) ?_
    refine LW.region ?_
    refine X.u (LU.moveR Is.rfl') rfl ?_
    refine X.u (LU.weak (LU.loadO 0 rfl ⟨Try.sizeOf34, Try.isAgg34⟩ Is.rfl' (Part.sub (by (simp; omega)))) (Is.of (y := .agg (hsL h)) (hs_whole h))) rfl ?_
    refine X.act (X.call (hre) Try.func30 rfl rfl rfl (HSub.drop (HSub.refl _)) (Opds.cons Is.rfl' (Opds.cons Is.rfl' Opds.nil)) ?_)
    rintro r H' ⟨k0, rfl, rfl, hk0, hk1⟩
    refine X.u (LU.assignS Is.rfl') rfl ?_
    refine LL.nil (after_code ?_)
    refine LW.ret (after_end ?_)
    refine X.ret (H' := []) (Res.one (by exact IsS rfl)) (by repeat (exact HSub.refl _)) ?_
    have hf : fN N = depsOf l := funext hN
    rw [hf] at hk1
    have hj := (Just.of hk0 hk1).uniq (hks.2 (by omega))
    exact ⟨by rw [hj], rfl⟩
end Go.Proofs.Ytmaeepckfbnpjaa
