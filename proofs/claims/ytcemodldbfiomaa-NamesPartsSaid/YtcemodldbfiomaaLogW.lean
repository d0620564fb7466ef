/- A region that draws its order, by a statement over what is done: each operation once. Plain theorems over any program. -/
import Derived.Test.YtcemodldbfiomaaLogV
set_option linter.unusedVariables false
set_option linter.unusedSimpArgs false
namespace Go.L
open Go.RowKit
section
variable {P : Program} {ops : Array Oper} {K : LS → Prop}
theorem left_set {S : Array Bool} {i : Nat} (hi : i < ops.size) (h : S.getD i true = false) : left (S.setIfInBounds i true) (List.range ops.size) < left S (List.range ops.size) := by
  have hi2 : i < S.size := by
    by_cases hlt : i < S.size
    · exact hlt
    · rw [Array.getD_eq_getD_getElem?, Array.getElem?_eq_none (by omega)] at h; cases h
  refine left_lt hi2 ?_ _ (List.mem_range.2 hi)
  rw [Array.getD_eq_getD_getElem?, Array.getElem?_eq_getElem hi2] at h ⊢
  exact h
/-- What each operation keeps, whatever is done already, holds at the end. -/
theorem LA.inv {I : Array Bool → LS → Prop} (step : ∀ S st i, I S st → i ∈ Region.ready .any ops S → ∃ o, ops[i]? = some o ∧ LP P ops o st (fun s => I (S.setIfInBounds i true) s)) (fin : ∀ S st, I S st → Region.ready .any ops S = [] → K st) :
    ∀ fuel S st, left S (List.range ops.size) ≤ fuel → I S st → LA P ops fuel S st K
  | fuel, S, st, hf, hI => by
    cases hr : Region.ready .any ops S with
    | nil => exact LA.done hr (fin S st hI hr)
    | cons i rs =>
      have hmem : ∀ j ∈ i :: rs, j ∈ Region.ready .any ops S := fun j hj => by rw [hr]; exact hj
      obtain ⟨h1, h2, _⟩ := ready_iff.1 (hmem i (by simp))
      have hpos := left_set h2 h1
      cases fuel with
      | zero => omega
      | succ n =>
        refine LA.step hr ?_
        have all : ∀ l : List Nat, (∀ j ∈ l, j ∈ Region.ready .any ops S) → LAs P ops n S st K l := by
          intro l
          induction l with
          | nil => intro _; exact .nil
          | cons j l ih =>
            intro hl
            obtain ⟨o, ho, hp⟩ := step S st j hI (hl j (by simp))
            obtain ⟨g1, g2, _⟩ := ready_iff.1 (hl j (by simp))
            have hlt := left_set g2 g1
            refine .cons ho rfl (fun w0 ph a w r N Q k => hp w0 ph a w r N Q fun ph' st' a' w' hle r' q => k ph' st' a' w' hle r' (LA.inv step fin n _ st' (by omega) q)) (ih fun q hq => hl q (by simp [hq]))
        exact all _ hmem
/-- What is known at a state is known at another one. -/
def Weaker (s t : LS) : Prop := s.n = t.n ∧ (∀ d, Is (get s.env d) (get t.env d)) ∧ HSub s.heap t.heap
theorem Weaker.rels {s t : LS} (h : Weaker s t) {w0 : Base} {ph : PH} {a : Act} {w : World} (r : Rels w0 ph s a w) : Rels w0 ph t a w := by
  obtain ⟨h1, h2, h3⟩ := h
  obtain ⟨r1, r2, r3, r4⟩ := r
  exact ⟨h3.app r1, by rw [← h1]; exact r2, by rw [← h1]; exact r3, fun d => h2 d _ _ (r4 d)⟩
theorem Weaker.lp {o : Oper} {s t : LS} (h : Weaker s t) {K' : LS → Prop} (hp : LP P ops o t K') : LP P ops o s K' := fun w0 ph a w r N Q k => hp w0 ph a w (h.rels r) N Q k
/-- The slots of a drawn region's operations, as far as they are done. -/
def envS (sl : List (Nat × Nat)) (val : Nat → LV) (f : Nat → Bool) (env : List (Nat × LV)) : List (Nat × LV) := sl.map (fun p => (p.2, cond (f p.1) (val p.2) .any)) ++ env
def upd (f : Nat → Bool) (i j : Nat) : Bool := cond (Nat.beq j i) true (f j)
theorem cond_is {v : LV} (b : Bool) : Is v (cond b v .any) := by
  cases b
  · exact Is.any
  · exact fun _ _ h => h
theorem envS_start (val : Nat → LV) (f : Nat → Bool) (env : List (Nat × LV)) : ∀ (sl : List (Nat × Nat)), (∀ p ∈ sl, f p.1 = false) → ∀ d, Is (get env d) (get (envS sl val f env) d)
  | [], _, d => fun _ _ h => h
  | p :: sl, h, d => by
    show Is (get env d) (get ((p.2, cond (f p.1) (val p.2) .any) :: envS sl val f env) d)
    by_cases hd : p.2 = d
    · subst hd
      rw [get_same, h p (by simp)]
      exact Is.any
    · rw [get_other hd]
      exact envS_start val f env sl (fun q hq => h q (by simp [hq])) d
theorem getD_upd {S : Array Bool} {i : Nat} (hi : i < S.size) : (fun j => (S.setIfInBounds i true).getD j true) = upd (fun j => S.getD j true) i := by
  funext j
  rw [getD_set hi]
  unfold upd
  by_cases h : j = i
  · subst h; simp
  · have : Nat.beq j i = false := by
      cases hb : Nat.beq j i with
      | false => rfl
      | true => exact absurd (Nat.eq_of_beq_eq_true hb) h
    rw [if_neg h, this]; rfl
theorem all_done {S : Array Bool} (hs : S.size = ops.size) (hlt : ((List.range ops.size).all fun i => (direct ops i).all fun j => Nat.blt j i) = true) (hr : Region.ready .any ops S = []) : ∀ j, S.getD j true = true := by
  intro j
  induction j using Nat.strongRecOn with
  | _ j ih =>
    cases hj : S.getD j true with
    | true => rfl
    | false =>
      have hjs : j < ops.size := by
        by_cases h : j < ops.size
        · exact h
        · rw [Array.getD_eq_getD_getElem?, Array.getElem?_eq_none (by omega)] at hj; cases hj
      have : j ∈ Region.ready .any ops S := ready_iff.2 ⟨hj, hjs, fun k hk => by
        have h1 := List.all_eq_true.1 (List.all_eq_true.1 hlt j (List.mem_range.2 hjs)) k hk
        have hkj : k < j := Nat.le_of_ble_eq_true h1
        have h2 := ih k hkj
        rw [Array.getD_eq_getD_getElem?, Array.getElem?_eq_getElem (by omega)] at h2 ⊢
        exact h2⟩
      rw [hr] at this
      cases this
/-- A region that draws its order: each operation once, whatever else is done. -/
theorem LW.inv {id m : Nat} {n : NN} {env : List (Nat × LV)} {H : List Atom} {Q : Exit → LS → Prop} {γ : Type} (sl : List (Nat × Nat)) (val : γ → Nat → LV) (hp : γ → (Nat → Bool) → List Atom) (g0 : γ)
    (hmo : P.follows .mixedOrders = true) (hm : ops.size = m) (hsl : (sl.all fun p => Nat.blt p.1 m) = true) (hlt : ((List.range m).all fun i => (direct ops i).all fun j => Nat.blt j i) = true)
    (init : HSub H (hp g0 fun j => (Array.replicate m false).getD j true))
    (each : ∀ i, i < m → ∀ f g, f i = false → (∀ j ∈ direct ops i, f j = true) → (∀ j, j < m → f j = true → ∀ k ∈ direct ops j, f k = true) → ∃ o, ops[i]? = some o ∧ LP P ops o ⟨n, envS sl (val g) f env, hp g f⟩ (fun s => ∃ g', Weaker s ⟨n, envS sl (val g') (upd f i) env, hp g' (upd f i)⟩))
    (fin : ∀ g, Q .normal ⟨n, envS sl (val g) (fun _ => true) env, hp g (fun _ => true)⟩) (hfin : ∀ s t, Weaker s t → Q .normal t → Q .normal s) (hnd : noDefer ops.toList = true := by kernel_rfl) : LW P (.region id ops true) ⟨n, env, H⟩ Q := by
  subst hm
  refine LW.all hmo (LA.inv (I := fun S s => S.size = ops.size ∧ Down ops S ∧ ∃ g, Weaker s ⟨n, envS sl (val g) (fun j => S.getD j true) env, hp g (fun j => S.getD j true)⟩) ?_ ?_ ops.size _ _ ?_ ?_) hnd
  · rintro S st i ⟨hs, hd, g, hw⟩ hi
    obtain ⟨h1, h2, h3⟩ := ready_iff.1 hi
    have tf : ∀ j, S.getD j false = true → S.getD j true = true := fun j h => by
      by_cases hj : j < S.size
      · rw [Array.getD_eq_getD_getElem?, Array.getElem?_eq_getElem hj] at h ⊢; exact h
      · rw [Array.getD_eq_getD_getElem?, Array.getElem?_eq_none (by omega)]; rfl
    obtain ⟨o, ho, hlp⟩ := each i h2 (fun j => S.getD j true) g h1 (fun j hj => tf j (h3 j hj)) (fun j hj hf k hk => tf k (hd j (by rw [Array.getD_eq_getD_getElem?, Array.getElem?_eq_getElem (by omega)] at hf ⊢; exact hf) k hk))
    refine ⟨o, ho, hw.lp fun w0 ph a w r N Q' k => hlp w0 ph a w r N Q' fun ph' st' a' w' hle r' q => k ph' st' a' w' hle r' ⟨by simp [hs], fun j hj q' hq' => ?_, ?_⟩⟩
    · rw [getD_set (by omega)] at hj ⊢
      by_cases hqi : q' = i
      · rw [if_pos hqi]
      · rw [if_neg hqi]
        by_cases hji : j = i
        · subst hji; exact h3 q' hq'
        · rw [if_neg hji] at hj; exact hd j hj q' hq'
    · rw [getD_upd (by omega)]; exact q
  · rintro S st ⟨hs, hd, g, hw⟩ hr
    have hall := all_done hs hlt hr
    have e : (fun j => S.getD j true) = fun _ => true := funext hall
    rw [e] at hw
    exact hfin _ _ hw (fin g)
  · have : ∀ (S : Array Bool) (l : List Nat), left S l ≤ l.length := fun S l => by
      induction l with
      | nil => simp [left]
      | cons a l ih => simp only [left, List.length_cons]; split <;> omega
    have := this (Array.replicate ops.size false) (List.range ops.size)
    simpa using this
  · have hz : ∀ p ∈ sl, (Array.replicate ops.size false).getD p.1 true = false := fun p hp' => by
      have := Nat.le_of_ble_eq_true (List.all_eq_true.1 hsl p hp')
      rw [Array.getD_eq_getD_getElem?, Array.getElem?_replicate, if_pos (by omega)]; rfl
    refine ⟨by simp, fun i hi => by simp [Array.getD_eq_getD_getElem?, Array.getElem?_replicate] at hi; split at hi <;> simp_all, g0, rfl, ?_, init⟩
    exact envS_start (val g0) (fun j => (Array.replicate ops.size false).getD j true) env sl hz
theorem LP.weak {n : NN} {env : List (Nat × LV)} {H : List Atom} {o : Oper} {t : Nat} {v : LV} (hs : Is (get env t) v) (h : LP P ops o ⟨n, (t, v) :: env, H⟩ K) : LP P ops o ⟨n, env, H⟩ K :=
  Weaker.lp (s := ⟨n, env, H⟩) (t := ⟨n, (t, v) :: env, H⟩) ⟨rfl, fun d => by
    show Is (get env d) (get ((t, v) :: env) d)
    by_cases hd : t = d
    · subst hd; rw [get_same]; exact hs
    · rw [get_other hd]; exact fun _ _ h => h, HSub.refl _⟩ h
theorem LP.ghost {n : NN} {env : List (Nat × LV)} {H H' : List Atom} {o : Oper} (hs : HSub H H') (h : LP P ops o ⟨n, env, H'⟩ K) : LP P ops o ⟨n, env, H⟩ K :=
  Weaker.lp (s := ⟨n, env, H⟩) (t := ⟨n, env, H'⟩) ⟨rfl, fun d _ _ h => h, hs⟩ h
theorem envS_get {val : Nat → LV} {f : Nat → Bool} {env : List (Nat × LV)} : ∀ {sl : List (Nat × Nat)} {j d : Nat}, (sl.find? fun p => Nat.beq p.2 d) = some (j, d) → get (envS sl val f env) d = cond (f j) (val d) .any
  | [], j, d, h => by cases h
  | p :: sl, j, d, h => by
    show get ((p.2, cond (f p.1) (val p.2) .any) :: envS sl val f env) d = _
    rw [List.find?_cons] at h
    cases hb : Nat.beq p.2 d with
    | true =>
      rw [hb] at h
      have := Nat.eq_of_beq_eq_true hb
      simp at h
      subst h
      rw [get_same]
    | false =>
      rw [hb] at h
      rw [get_other (fun e => by rw [e, Nat.beq_refl] at hb; cases hb)]
      exact envS_get h
/-- A slot whose operation is done. -/
theorem envS_is {val : Nat → LV} {f : Nat → Bool} {env : List (Nat × LV)} {sl : List (Nat × Nat)} {j d : Nat} (hs : (sl.find? fun p => Nat.beq p.2 d) = some (j, d)) (hf : f j = true) : Is (get (envS sl val f env) d) (val d) := by
  rw [envS_get hs, hf]; exact fun _ _ h => h
theorem envS_next {val val' : Nat → LV} {f : Nat → Bool} {i di : Nat} {env : List (Nat × LV)} : ∀ {sl : List (Nat × Nat)}, (∀ p ∈ sl, p.2 ≠ di → Nat.beq p.1 i = false ∧ val' p.2 = val p.2) → ∀ d, d ≠ di → Is (get (envS sl val f env) d) (get (envS sl val' (upd f i) env) d)
  | [], _, d, _ => fun _ _ h => h
  | p :: sl, h, d, hd => by
    show Is (get ((p.2, cond (f p.1) (val p.2) .any) :: envS sl val f env) d) (get ((p.2, cond (upd f i p.1) (val' p.2) .any) :: envS sl val' (upd f i) env) d)
    by_cases hp : p.2 = d
    · subst hp
      obtain ⟨h1, h2⟩ := h p (by simp) hd
      rw [get_same, get_same, h2]
      unfold upd
      rw [h1]
      exact fun _ _ h => h
    · rw [get_other hp, get_other hp]
      exact envS_next (fun q hq => h q (by simp [hq])) d hd
/-- Behind an operation: its slot is written, the overrides are as they were. -/
theorem env_back {di : Nat} {v : LV} {pre l l' : List (Nat × LV)} (hv : Is v (get l' di)) (hp : ∀ p ∈ pre, p.1 ≠ di → Is p.2 (get l' p.1)) (hl : ∀ d, d ≠ di → Is (get l d) (get l' d)) : ∀ d, Is (get ((di, v) :: (pre ++ l)) d) (get l' d) := fun d => by
  by_cases hd : di = d
  · subst hd; rw [get_same]; exact hv
  · rw [get_other hd]
    have : ∀ q : List (Nat × LV), (∀ p ∈ q, p.1 ≠ di → Is p.2 (get l' p.1)) → Is (get (q ++ l) d) (get l' d) := fun q hq => by
      induction q with
      | nil => exact hl d (fun e => hd e.symm)
      | cons p q ih =>
        show Is (get ((p.1, p.2) :: (q ++ l)) d) (get l' d)
        by_cases hpd : p.1 = d
        · subst hpd; rw [get_same]; exact hq p (by simp) (fun e => hd e.symm)
        · rw [get_other hpd]; exact ih fun r hr => hq r (by simp [hr])
    exact this pre hp
theorem envS_hit {v : LV} {val : Nat → LV} {f : Nat → Bool} {env : List (Nat × LV)} {sl : List (Nat × Nat)} {j d : Nat} (hs : (sl.find? fun p => Nat.beq p.2 d) = some (j, d)) (hv : Is v (val d)) : Is v (get (envS sl val f env) d) := by
  rw [envS_get hs]
  cases f j
  · exact Is.any
  · exact hv
theorem env_back0 {di : Nat} {v : LV} {l l' : List (Nat × LV)} (hv : Is v (get l' di))  (hl : ∀ d, d ≠ di → Is (get l d) (get l' d)) : ∀ d, Is (get ((di, v) :: l) d) (get l' d) :=
  env_back (pre := []) hv (fun p hp _ => by cases hp) hl
theorem env_back1 {di : Nat} {v : LV} {l l' : List (Nat × LV)} {d0 : Nat} {v0 : LV} (hv : Is v (get l' di)) (h0 : Is v0 (get l' d0)) (hl : ∀ d, d ≠ di → Is (get l d) (get l' d)) : ∀ d, Is (get ((di, v) :: (d0, v0) :: l) d) (get l' d) :=
  env_back (pre := [(d0, v0)]) hv (fun p hp _ => by
    simp only [List.mem_cons, List.not_mem_nil, or_false] at hp
    rcases hp with rfl <;> assumption) hl
theorem env_back2 {di : Nat} {v : LV} {l l' : List (Nat × LV)} {d0 d1 : Nat} {v0 v1 : LV} (hv : Is v (get l' di)) (h0 : Is v0 (get l' d0)) (h1 : Is v1 (get l' d1)) (hl : ∀ d, d ≠ di → Is (get l d) (get l' d)) : ∀ d, Is (get ((di, v) :: (d0, v0) :: (d1, v1) :: l) d) (get l' d) :=
  env_back (pre := [(d0, v0), (d1, v1)]) hv (fun p hp _ => by
    simp only [List.mem_cons, List.not_mem_nil, or_false] at hp
    rcases hp with rfl | rfl <;> assumption) hl
theorem env_back3 {di : Nat} {v : LV} {l l' : List (Nat × LV)} {d0 d1 d2 : Nat} {v0 v1 v2 : LV} (hv : Is v (get l' di)) (h0 : Is v0 (get l' d0)) (h1 : Is v1 (get l' d1)) (h2 : Is v2 (get l' d2)) (hl : ∀ d, d ≠ di → Is (get l d) (get l' d)) : ∀ d, Is (get ((di, v) :: (d0, v0) :: (d1, v1) :: (d2, v2) :: l) d) (get l' d) :=
  env_back (pre := [(d0, v0), (d1, v1), (d2, v2)]) hv (fun p hp _ => by
    simp only [List.mem_cons, List.not_mem_nil, or_false] at hp
    rcases hp with rfl | rfl | rfl <;> assumption) hl
theorem env_back4 {di : Nat} {v : LV} {l l' : List (Nat × LV)} {d0 d1 d2 d3 : Nat} {v0 v1 v2 v3 : LV} (hv : Is v (get l' di)) (h0 : Is v0 (get l' d0)) (h1 : Is v1 (get l' d1)) (h2 : Is v2 (get l' d2)) (h3 : Is v3 (get l' d3)) (hl : ∀ d, d ≠ di → Is (get l d) (get l' d)) : ∀ d, Is (get ((di, v) :: (d0, v0) :: (d1, v1) :: (d2, v2) :: (d3, v3) :: l) d) (get l' d) :=
  env_back (pre := [(d0, v0), (d1, v1), (d2, v2), (d3, v3)]) hv (fun p hp _ => by
    simp only [List.mem_cons, List.not_mem_nil, or_false] at hp
    rcases hp with rfl | rfl | rfl | rfl <;> assumption) hl
theorem env_back5 {di : Nat} {v : LV} {l l' : List (Nat × LV)} {d0 d1 d2 d3 d4 : Nat} {v0 v1 v2 v3 v4 : LV} (hv : Is v (get l' di)) (h0 : Is v0 (get l' d0)) (h1 : Is v1 (get l' d1)) (h2 : Is v2 (get l' d2)) (h3 : Is v3 (get l' d3)) (h4 : Is v4 (get l' d4)) (hl : ∀ d, d ≠ di → Is (get l d) (get l' d)) : ∀ d, Is (get ((di, v) :: (d0, v0) :: (d1, v1) :: (d2, v2) :: (d3, v3) :: (d4, v4) :: l) d) (get l' d) :=
  env_back (pre := [(d0, v0), (d1, v1), (d2, v2), (d3, v3), (d4, v4)]) hv (fun p hp _ => by
    simp only [List.mem_cons, List.not_mem_nil, or_false] at hp
    rcases hp with rfl | rfl | rfl | rfl | rfl <;> assumption) hl
theorem env_back6 {di : Nat} {v : LV} {l l' : List (Nat × LV)} {d0 d1 d2 d3 d4 d5 : Nat} {v0 v1 v2 v3 v4 v5 : LV} (hv : Is v (get l' di)) (h0 : Is v0 (get l' d0)) (h1 : Is v1 (get l' d1)) (h2 : Is v2 (get l' d2)) (h3 : Is v3 (get l' d3)) (h4 : Is v4 (get l' d4)) (h5 : Is v5 (get l' d5)) (hl : ∀ d, d ≠ di → Is (get l d) (get l' d)) : ∀ d, Is (get ((di, v) :: (d0, v0) :: (d1, v1) :: (d2, v2) :: (d3, v3) :: (d4, v4) :: (d5, v5) :: l) d) (get l' d) :=
  env_back (pre := [(d0, v0), (d1, v1), (d2, v2), (d3, v3), (d4, v4), (d5, v5)]) hv (fun p hp _ => by
    simp only [List.mem_cons, List.not_mem_nil, or_false] at hp
    rcases hp with rfl | rfl | rfl | rfl | rfl | rfl <;> assumption) hl
theorem env_back7 {di : Nat} {v : LV} {l l' : List (Nat × LV)} {d0 d1 d2 d3 d4 d5 d6 : Nat} {v0 v1 v2 v3 v4 v5 v6 : LV} (hv : Is v (get l' di)) (h0 : Is v0 (get l' d0)) (h1 : Is v1 (get l' d1)) (h2 : Is v2 (get l' d2)) (h3 : Is v3 (get l' d3)) (h4 : Is v4 (get l' d4)) (h5 : Is v5 (get l' d5)) (h6 : Is v6 (get l' d6)) (hl : ∀ d, d ≠ di → Is (get l d) (get l' d)) : ∀ d, Is (get ((di, v) :: (d0, v0) :: (d1, v1) :: (d2, v2) :: (d3, v3) :: (d4, v4) :: (d5, v5) :: (d6, v6) :: l) d) (get l' d) :=
  env_back (pre := [(d0, v0), (d1, v1), (d2, v2), (d3, v3), (d4, v4), (d5, v5), (d6, v6)]) hv (fun p hp _ => by
    simp only [List.mem_cons, List.not_mem_nil, or_false] at hp
    rcases hp with rfl | rfl | rfl | rfl | rfl | rfl | rfl <;> assumption) hl
theorem env_back8 {di : Nat} {v : LV} {l l' : List (Nat × LV)} {d0 d1 d2 d3 d4 d5 d6 d7 : Nat} {v0 v1 v2 v3 v4 v5 v6 v7 : LV} (hv : Is v (get l' di)) (h0 : Is v0 (get l' d0)) (h1 : Is v1 (get l' d1)) (h2 : Is v2 (get l' d2)) (h3 : Is v3 (get l' d3)) (h4 : Is v4 (get l' d4)) (h5 : Is v5 (get l' d5)) (h6 : Is v6 (get l' d6)) (h7 : Is v7 (get l' d7)) (hl : ∀ d, d ≠ di → Is (get l d) (get l' d)) : ∀ d, Is (get ((di, v) :: (d0, v0) :: (d1, v1) :: (d2, v2) :: (d3, v3) :: (d4, v4) :: (d5, v5) :: (d6, v6) :: (d7, v7) :: l) d) (get l' d) :=
  env_back (pre := [(d0, v0), (d1, v1), (d2, v2), (d3, v3), (d4, v4), (d5, v5), (d6, v6), (d7, v7)]) hv (fun p hp _ => by
    simp only [List.mem_cons, List.not_mem_nil, or_false] at hp
    rcases hp with rfl | rfl | rfl | rfl | rfl | rfl | rfl | rfl <;> assumption) hl
theorem Weaker.mk' {n : NN} {e e' : List (Nat × LV)} {H H' : List Atom} (h : ∀ d, Is (get e d) (get e' d)) (k : HSub H H') : Weaker ⟨n, e, H⟩ ⟨n, e', H'⟩ := ⟨rfl, h, k⟩
theorem Weaker.lw {s t : LS} (h : Weaker s t) {c : Code} {Q : Exit → LS → Prop} (hl : LW P c t Q) : LW P c s Q := fun w0 ph a w r Q' k => hl w0 ph a w (h.rels r) Q' k
end
end Go.L
