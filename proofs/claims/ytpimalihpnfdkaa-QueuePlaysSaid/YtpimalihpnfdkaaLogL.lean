/- A region's operations, first in any order, by a statement over what is done, stores among them; then in the one order that is left. Plain theorems over any program. -/
import Derived.Test.YtpimalihpnfdkaaLogY
set_option linter.unusedVariables false
set_option linter.unusedSimpArgs false
namespace Go.L
open Go.RowKit
def drawOkB (ops : Array Oper) (m : Nat) : Bool :=
  let B := Region.before ops
  let n := ops.size
  (List.range n).all fun i =>
    (direct ops i).all (fun j => Nat.blt j i) &&
    (List.range n).all (fun k => !(B.getD i 0).testBit k || (direct ops i).contains k || (direct ops i).any fun e => (B.getD e 0).testBit k) &&
    (Nat.blt i m || (List.range i).all fun k => (B.getD i 0).testBit k)
section
variable {P : Program} {ops : Array Oper} {K : LS → Prop}
structure DrawOkB (ops : Array Oper) (m : Nat) : Prop where
  less : ∀ i, i < ops.size → ∀ j ∈ direct ops i, j < i
  clo : ∀ i k, i < ops.size → k < ops.size → ((Region.before ops).getD i 0).testBit k = true → k ∈ direct ops i ∨ ∃ e ∈ direct ops i, ((Region.before ops).getD e 0).testBit k = true
  last : ∀ i k, i < ops.size → m ≤ i → k < i → ((Region.before ops).getD i 0).testBit k = true
theorem DrawOkB.of {m : Nat} (h : drawOkB ops m = true) : DrawOkB ops m := by
  unfold drawOkB at h
  simp only [List.all_eq_true, List.mem_range, Bool.and_eq_true] at h
  refine ⟨fun i hi j hj => ?_, fun i k hi hk hb => ?_, fun i k hi hm hk => ?_⟩
  · obtain ⟨⟨h1, _⟩, _⟩ := h i hi
    simpa [Nat.blt_eq] using h1 j hj
  · obtain ⟨⟨_, h1⟩, _⟩ := h i hi
    have := h1 k hk
    simp only [Bool.or_eq_true, hb, Bool.not_true, Bool.false_eq_true, false_or, List.contains_iff_mem, List.any_eq_true] at this
    exact this
  · obtain ⟨⟨_, _⟩, h1⟩ := h i hi
    rcases Bool.or_eq_true _ _ |>.mp h1 with h1 | h1
    · have : i < m := by simpa [Nat.blt_eq] using h1
      omega
    · exact List.all_eq_true.1 h1 k (List.mem_range.2 hk)
theorem clo_downB {m : Nat} (hok : DrawOkB ops m) {S : Array Bool} (hd : Down ops S) : ∀ i k, i < ops.size → k < ops.size → ((Region.before ops).getD i 0).testBit k = true → (∀ j ∈ direct ops i, S.getD j false = true) → S.getD k false = true := by
  intro i
  induction i using Nat.strongRecOn with
  | _ i ih =>
    intro k hi hk hb hs
    rcases hok.clo i k hi hk hb with h | ⟨e, he, hb'⟩
    · exact hs k h
    · have hlt := hok.less i hi e he
      exact ih e hlt k (by omega) hk hb' (hd e (hs e he))
theorem oany_tailB {m : Nat} {Q : Exit → Act → World → Prop} (hok : DrawOkB ops m) : ∀ (l : List Oper) (k : Nat) (fuel : Nat) (S : Array Bool) (a : Act) (w : World), m ≤ k → k + l.length = ops.size → (∀ j, j < l.length → ops[k + j]? = l[j]?) → S.size = ops.size → (∀ j, j < ops.size → (S.getD j true = true ↔ j < k)) → l.length ≤ fuel →
    olist P ops Q l a w → oany P .any ops Q fuel S a w
  | [], k, fuel, S, a, w, hm, hk, hl, hS, hs, hf, h => by
    refine oany_done ?_ h fuel
    cases hr : Region.ready .any ops S with
    | nil => rfl
    | cons i r =>
      have : i ∈ Region.ready .any ops S := by rw [hr]; simp
      obtain ⟨h1, h2, _⟩ := ready_iff.1 this
      have := (hs i h2).2 (by simp at hk; omega)
      rw [h1] at this
      cases this
  | o :: l, k, 0, S, a, w, hm, hk, hl, hS, hs, hf, h => by simp at hf
  | o :: l, k, fuel + 1, S, a, w, hm, hk, hl, hS, hs, hf, h => by
    simp only [List.length_cons] at hk hf
    have hks : k < ops.size := by omega
    have hkk : ops[k]? = some o := by have := hl 0 (by simp); simpa using this
    have hfalse : S.getD k true = false := by
      cases hb : S.getD k true with
      | false => rfl
      | true => have := (hs k hks).1 hb; omega
    have hset : ∀ j, j < ops.size → ((S.setIfInBounds k true).getD j true = true ↔ j < k + 1) := fun j hj => by
      rw [getD_set (by omega)]
      by_cases hjk : j = k
      · simp [hjk]
      · rw [if_neg hjk, hs j hj]
        omega
    have hgd : ∀ j, j < ops.size → S.getD j false = S.getD j true := fun j hj => by
      simp [show j < S.size by omega]
    refine ⟨fun hr => ?_, fun i hi => ?_⟩
    · have : k ∈ Region.ready .any ops S := ready_iff.2 ⟨hfalse, hks, fun j hj => by
        have := hok.less k hks j hj
        rw [hgd j (by omega)]
        exact (hs j (by omega)).2 this⟩
      rw [hr] at this
      cases this
    · obtain ⟨h1, h2, h3⟩ := ready_iff.1 hi
      have hik : i = k := by
        have hge : ¬ i < k := fun hlt => by
          have := (hs i h2).2 hlt
          rw [h1] at this
          cases this
        rcases Nat.lt_or_ge k i with hlt | hle
        · have hb := hok.last i k h2 (by omega) hlt
          have hdown : Down ops S := fun x hx j hj => by
            have hxs : x < ops.size := by
              rcases Nat.lt_or_ge x ops.size with h | h
              · exact h
              · rw [show S.getD x false = false by simp [show ¬ x < S.size by omega]] at hx
                cases hx
            have hlt2 := hok.less x hxs j hj
            rw [hgd j (by omega)]
            rw [hgd x hxs] at hx
            have := (hs x hxs).1 hx
            exact (hs j (by omega)).2 (by omega)
          have := clo_downB hok hdown i k h2 hks hb h3
          rw [hgd k hks, hfalse] at this
          cases this
        · omega
      subst hik
      have hrec := fun (a' : Act) (w' : World) (h' : olist P ops Q l a' w') => oany_tailB hok l (i + 1) fuel (S.setIfInBounds i true) a' w' (by omega) (by omega) (fun j hj => by
        have := hl (j + 1) (by simp; omega)
        rw [show i + 1 + j = i + (j + 1) by omega, this, List.getElem?_cons_succ]) (by simp [hS]) hset (by omega) h'
      unfold olist at h
      unfold oop
      simp only [hkk]
      split
      · rename_i hw
        rw [if_pos hw] at h
        exact owp_mono (fun a' w' h' => hrec a' w' h') h
      · rename_i hw
        rw [if_neg hw] at h
        exact hrec _ _ h
theorem LA.invB {m : Nat} (hok : DrawOkB ops m) (hm : m ≤ ops.size) {I : Array Bool → LS → Prop} (l2 : List Oper) (hl2 : m + l2.length = ops.size) (hget : ∀ j, j < l2.length → ops[m + j]? = l2[j]?)
    (step : ∀ S st i, I S st → S.size = ops.size → Down ops S → i < m → i ∈ Region.ready .any ops S → ∃ o, ops[i]? = some o ∧ LP P ops o st (fun s => I (S.setIfInBounds i true) s))
    (fin : ∀ S st, I S st → (∀ j, j < m → S.getD j true = true) → LL P ops l2 st K) :
    ∀ fuel S st, S.size = ops.size → Down ops S → (∀ i, m ≤ i → i < ops.size → S.getD i true = false) → left S (List.range ops.size) ≤ fuel → I S st → LA P ops fuel S st K
  | fuel, S, st, hs, hd, hz, hf, hI => by
    by_cases hall : ∀ j, j < m → S.getD j true = true
    · intro w0 ph a w r Q kk
      refine oany_tailB hok l2 m fuel S a w (Nat.le_refl _) hl2 hget hs (fun j hj => ⟨fun h => ?_, hall j⟩) ?_ (fin S st hI hall w0 ph a w r Q kk)
      · by_cases hjm : j < m
        · exact hjm
        · rw [hz j (by omega) hj] at h; cases h
      · have : ∀ (k : Nat) (l : List Nat), (∀ i ∈ l, S.getD i true = false) → l.length ≤ left S l := fun k l => by
          induction l with
          | nil => intro _; simp [left]
          | cons x l ih =>
            intro h
            have h1 := ih fun i hi => h i (by simp [hi])
            have h2 := h x (by simp)
            simp only [left, h2, List.length_cons]
            simp
            omega
        have hsplit : ∀ (a b : List Nat), left S (a ++ b) = left S a + left S b := fun a b => by
          induction a with
          | nil => simp [left]
          | cons x a ih => simp only [List.cons_append, left, ih]; omega
        have e : List.range ops.size = List.range m ++ (List.range l2.length).map (m + ·) := by rw [← hl2, List.range_add]
        rw [e, hsplit] at hf
        have h3 := this 0 ((List.range l2.length).map (m + ·)) fun i hi => by
          obtain ⟨q, hq, rfl⟩ := List.mem_map.1 hi
          exact hz _ (by omega) (by have := List.mem_range.1 hq; omega)
        simp only [List.length_map, List.length_range] at h3
        omega
    · cases hr : Region.ready .any ops S with
      | nil =>
        refine absurd (fun j hj => ?_) hall
        have hlt : ((List.range ops.size).all fun i => (direct ops i).all fun j => Nat.blt j i) = true := List.all_eq_true.2 fun i hi => List.all_eq_true.2 fun j hj => Nat.ble_eq_true_of_le (hok.less i (List.mem_range.1 hi) j hj)
        exact all_done hs hlt hr j
      | cons i rs =>
        have hmem : ∀ j ∈ i :: rs, j ∈ Region.ready .any ops S := fun j hj => by rw [hr]; exact hj
        have hlm : ∀ j ∈ Region.ready .any ops S, j < m := fun j hj => by
          obtain ⟨h1, h2, h3⟩ := ready_iff.1 hj
          by_cases hjm : j < m
          · exact hjm
          · refine absurd (fun k hk => ?_) hall
            exact getD_tf (clo_downB hok hd j k h2 (by omega) (hok.last j k h2 (by omega) (by omega)) h3)
        obtain ⟨h1, h2, _⟩ := ready_iff.1 (hmem i (by simp))
        have hpos := left_set h2 h1
        cases fuel with
        | zero => omega
        | succ n =>
          refine LA.step hr ?_
          have all : ∀ l : List Nat, (∀ j ∈ l, j ∈ Region.ready .any ops S) → LAs P ops n S st K l := by
            intro l
            induction l with
            | nil => intro _; exact .nil
            | cons j l ih =>
              intro hl
              have hj := hl j (by simp)
              obtain ⟨o, ho, hp⟩ := step S st j hI hs hd (hlm j hj) hj
              obtain ⟨g1, g2, g3⟩ := ready_iff.1 hj
              have hlt := left_set g2 g1
              have hjm := hlm j hj
              refine .cons ho rfl (fun w0 ph a w r N Q k => hp w0 ph a w r N Q fun ph' st' a' w' hle r' q => k ph' st' a' w' hle r' (LA.invB hok hm l2 hl2 hget step fin n _ st' (by simp [hs]) ?_ ?_ (by omega) q)) (ih fun q hq => hl q (by simp [hq]))
              · intro x hx y hy
                rw [getD_set (by omega)] at hx ⊢
                by_cases hyj : y = j
                · rw [if_pos hyj]
                · rw [if_neg hyj]
                  by_cases hxj : x = j
                  · subst hxj; exact g3 y hy
                  · rw [if_neg hxj] at hx; exact hd x hx y hy
              · intro x hx hxs
                rw [getD_set (by omega), if_neg (by omega)]
                exact hz x hx hxs
          exact all _ hmem
theorem LW.invB {id m : Nat} {n : NN} {env : List (Nat × LV)} {H : List Atom} {l : List Oper} {Q : Exit → LS → Prop} {γ : Type} (sl : List (Nat × Nat)) (val : γ → Nat → LV) (hp : γ → (Nat → Bool) → List Atom) (g0 : γ)
    (hmo : P.follows .mixedOrders = true) (hok : drawOkB l.toArray m = true) (hm : Nat.ble m l.length = true) (hsl : (sl.all fun p => Nat.blt p.1 m) = true)
    (init : HSub H (hp g0 fun j => (Array.replicate l.length false).getD j true))
    (each : ∀ i, i < m → ∀ f g, f i = false → (∀ j ∈ direct l.toArray i, f j = true) → (∀ j, j < m → f j = true → ∀ k ∈ direct l.toArray j, f k = true) → ∃ o, l.toArray[i]? = some o ∧ LP P l.toArray o ⟨n, envS sl (val g) f env, hp g f⟩ (fun s => ∃ g', Weaker s ⟨n, envS sl (val g') (upd f i) env, hp g' (upd f i)⟩))
    (fin : ∀ g f, (∀ j, j < m → f j = true) → LL P l.toArray (l.drop m) ⟨n, envS sl (val g) (fun _ => true) env, hp g f⟩ (fun s => Q .normal s)) (hnd : noDefer l = true := by kernel_rfl) : LW P (.region id l.toArray true) ⟨n, env, H⟩ Q := by
  have hm' : m ≤ l.length := Nat.le_of_ble_eq_true hm
  have hO := DrawOkB.of hok
  have hsz : l.toArray.size = l.length := by simp
  refine LW.all hmo (LA.invB hO (by omega) (I := fun S s => ∃ g, Weaker s ⟨n, envS sl (val g) (fun j => S.getD j true) env, hp g (fun j => S.getD j true)⟩) (l.drop m) (by simp; omega) (fun j hj => by simp) ?_ ?_ l.toArray.size _ _ (by simp) ?_ ?_ ?_ ?_) hnd
  · rintro S st i ⟨g, hw⟩ hs hd him hi
    obtain ⟨h1, h2, h3⟩ := ready_iff.1 hi
    obtain ⟨o, ho, hlp⟩ := each i him (fun j => S.getD j true) g h1 (fun j hj => getD_tf (h3 j hj)) (fun j hj hf k hk => getD_tf (hd j (getD_ft (by omega) hf) k hk))
    refine ⟨o, ho, hw.lp fun w0 ph a w r N Q' k => hlp w0 ph a w r N Q' fun ph' st' a' w' hle r' q => k ph' st' a' w' hle r' ?_⟩
    rw [getD_upd (by omega)]; exact q
  · rintro S st ⟨g, hw⟩ hall
    have e := envS_all (val := val g) (f := fun j => S.getD j true) (env := env) (sl := sl) fun p hp' => hall p.1 (Nat.le_of_ble_eq_true (List.all_eq_true.1 hsl p hp'))
    rw [e] at hw
    intro w0 ph a w r Q' kk
    exact fin g _ hall w0 ph a w (hw.rels r) Q' kk
  · intro i hi
    simp [Array.getD_eq_getD_getElem?, Array.getElem?_replicate] at hi
    split at hi <;> simp_all
  · intro i hi1 hi2
    rw [Array.getD_eq_getD_getElem?, Array.getElem?_replicate, if_pos hi2]; rfl
  · have : ∀ (S : Array Bool) (l : List Nat), left S l ≤ l.length := fun S l => by
      induction l with
      | nil => simp [left]
      | cons a l ih => simp only [left, List.length_cons]; split <;> omega
    have := this (Array.replicate l.toArray.size false) (List.range l.toArray.size)
    simpa using this
  · have hz : ∀ p ∈ sl, (Array.replicate l.toArray.size false).getD p.1 true = false := fun p hp' => by
      have := Nat.le_of_ble_eq_true (List.all_eq_true.1 hsl p hp')
      rw [Array.getD_eq_getD_getElem?, Array.getElem?_replicate, if_pos (by omega)]; rfl
    refine ⟨g0, rfl, envS_start (val g0) (fun j => (Array.replicate l.toArray.size false).getD j true) env sl hz, ?_⟩
    rw [hsz]
    exact init
end
end Go.L
