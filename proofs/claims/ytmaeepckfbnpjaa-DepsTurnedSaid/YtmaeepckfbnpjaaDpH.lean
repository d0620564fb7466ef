/- One order of the same hashes. -/
import Derived.Test.YtmaeepckfbnpjaaDpG
set_option linter.unusedVariables false
set_option linter.unusedSimpArgs false
namespace Go.Proofs.Ytmaeepckfbnpjaa
open Go.RowKit Go.L Go.Lib
attribute [local irreducible] LL LW LO
theorem sorted_eq : ∀ {l1 l2 : List Hs}, l1.Perm l2 → l1.Pairwise (fun x y => ltH y x = false) → l2.Pairwise (fun x y => ltH y x = false) → l1 = l2
  | [], l2, p, _, _ => (List.Perm.nil_eq p)
  | a :: l1, [], p, _, _ => by have := p.length_eq; simp at this
  | a :: l1, b :: l2, p, h1, h2 => by
    obtain ⟨a1, a2⟩ := List.pairwise_cons.1 h1
    obtain ⟨b1, b2⟩ := List.pairwise_cons.1 h2
    have hab : a = b := by
      rcases List.mem_cons.1 (p.mem_iff.1 (List.mem_cons_self : a ∈ a :: l1)) with e | e
      · exact e
      · rcases List.mem_cons.1 (p.mem_iff.2 (List.mem_cons_self : b ∈ b :: l2)) with f | f
        · exact f.symm
        · exact ltH_total (b1 a e) (a1 b f)
    subst hab
    rw [sorted_eq (p.cons_inv) a2 b2]
theorem sortH_sorted (l : List Hs) : (sortH l).Pairwise (fun x y => ltH y x = false) := by
  have := List.pairwise_mergeSort (le := fun x y => !(ltH y x)) (fun a b c h1 h2 => by
    simp only [Bool.not_eq_true'] at h1 h2 ⊢
    exact ltH_swo.ntrans c b a h2 h1) (fun a b => by
    cases h : ltH b a with
    | false => rfl
    | true =>
      cases h2 : ltH a b with
      | false => rfl
      | true => have := ltH_trans h h2; rw [ltH_irrefl] at this; cases this) l
  exact this.imp fun h => by simpa using h
theorem sortH_perm_eq {k l : List Hs} (h : k.Perm l) : sortH k = sortH l := sorted_eq ((sortH_perm k).trans (h.trans (sortH_perm l).symm)) (sortH_sorted k) (sortH_sorted l)
theorem same_perm {k l : List Hs} (hk : k.Nodup) (hl : l.Nodup) (h : ∀ x, x ∈ k ↔ x ∈ l) : k.Perm l := (List.perm_ext_iff_of_nodup hk hl).2 h
def uniq : List Hs → List Hs
  | [] => []
  | a :: l => if a ∈ uniq l then uniq l else a :: uniq l
theorem uniq_nodup : ∀ l : List Hs, (uniq l).Nodup
  | [] => List.nodup_nil
  | a :: l => by
    rw [uniq]
    split
    · exact uniq_nodup l
    · rename_i h; exact List.nodup_cons.2 ⟨h, uniq_nodup l⟩
theorem uniq_mem : ∀ {l : List Hs} {x : Hs}, x ∈ uniq l ↔ x ∈ l
  | [], x => Iff.rfl
  | a :: l, x => by
    rw [uniq]
    split
    · rename_i h
      rw [uniq_mem, List.mem_cons]
      exact ⟨.inr, fun e => e.elim (fun e => by rw [e]; exact uniq_mem.1 h) id⟩
    · rw [List.mem_cons, List.mem_cons, uniq_mem]
/-- The members of a list, each once, in order. -/
def sortU (l : List Hs) : List Hs := sortH (uniq l)
theorem sortU_of {k l : List Hs} (hk : k.Nodup) (h : ∀ x, x ∈ k ↔ x ∈ l) : sortH k = sortU l := sortH_perm_eq (same_perm hk (uniq_nodup l) (fun x => by rw [h, uniq_mem]))
theorem sortU_mem {l : List Hs} {x : Hs} : x ∈ sortU l ↔ x ∈ l := by unfold sortU; rw [sortH_mem, uniq_mem]
theorem sortU_congr {k l : List Hs} (h : ∀ x, x ∈ k ↔ x ∈ l) : sortU k = sortU l := sortU_of (uniq_nodup k) (fun x => by rw [uniq_mem, h])
end Go.Proofs.Ytmaeepckfbnpjaa
