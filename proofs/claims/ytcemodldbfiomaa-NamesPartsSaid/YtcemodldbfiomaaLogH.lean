/- The logic's rule of a region that draws its order: quiet operations in whatever order, then others in the one order that is left. Plain theorems over any program. -/
import Derived.Test.YtcemodldbfiomaaLogG
set_option linter.unusedVariables false
set_option linter.unusedSimpArgs false
namespace Go.L
open Go.RowKit

/-- Quiet operations, one after the other. -/
inductive QC (P : Program) (ops : Array Oper) (H : List Atom) : List (Nat × LV) → List Oper → List (Nat × LV) → Prop where
  | nil (env : List (Nat × LV)) : QC P ops H env [] env
  | cons {env env' : List (Nat × LV)} {o : Oper} {l : List Oper} {v : LV} {d : Nat} (hq : LQ P ops env H o v) (hd : o.dst = some d) (h : QC P ops H ((d, v) :: env) l env') : QC P ops H env (o :: l) env'

def dstOf (ops : Array Oper) (i : Nat) : Option Nat := (ops[i]?).bind (·.dst)
def who (ops : Array Oper) (d : Nat) : Option Nat := (List.range ops.size).find? fun i => dstOf ops i == some d
def direct (ops : Array Oper) (i : Nat) : List Nat := match ops[i]? with
  | some o => (o.after.toList.filter fun e => Region.binds .any e).map (·.on)
  | none => []
/-- Every slot that an operation looks at is written by what surely comes ahead of it, or surely behind it; each is written once; the last ones (from m on) come one after the other, behind all else. -/
def drawOk (ops : Array Oper) (m : Nat) : Bool :=
  let B := Region.before ops
  let n := ops.size
  (List.range n).all fun i =>
    (Nat.ble m i || ((match dstOf ops i with | some d => who ops d == some i | none => false) &&
      (match ops[i]? with
        | some o => (o.looksAt ops).all fun t => match who ops t with
          | none => true
          | some k => k == i || (Nat.blt k i && (B.getD i 0).testBit k) || (Nat.blt i k && (B.getD k 0).testBit i)
        | none => false))) &&
    (direct ops i).all (fun j => Nat.blt j i) &&
    (List.range n).all (fun k => !(B.getD i 0).testBit k || (direct ops i).contains k || (direct ops i).any fun e => (B.getD e 0).testBit k) &&
    (Nat.blt i m || (List.range i).all fun k => (B.getD i 0).testBit k)

section
variable {P : Program} {ops : Array Oper} {H : List Atom}
def envAt (ops : Array Oper) (vs : Nat → LV) (env : List (Nat × LV)) : Nat → List (Nat × LV)
  | 0 => env
  | i + 1 => match dstOf ops i with
    | some d => (d, vs i) :: envAt ops vs env i
    | none => envAt ops vs env i
theorem QC.values : ∀ (l : List Oper) {k : Nat} {env env' : List (Nat × LV)}, QC P ops H env l env' → (∀ j, j < l.length → ops[k + j]? = l[j]?) → ∀ vs0 : Nat → LV,
    ∃ vs : Nat → LV, (∀ i, i < k → vs i = vs0 i) ∧ ∀ env0, envAt ops vs0 env0 k = env → (∀ i o, k ≤ i → i < k + l.length → ops[i]? = some o → LQ P ops (envAt ops vs env0 i) H o (vs i)) ∧ envAt ops vs env0 (k + l.length) = env'
  | [], k, env, _, .nil _, _, vs0 => ⟨vs0, fun _ _ => rfl, fun env0 h => ⟨fun i o h1 h2 => by simp at h2; omega, by simpa using h⟩⟩
  | o :: l, k, env, env', .cons (v := v) (d := d) hq hd h, hl, vs0 => by
    have hk : ops[k]? = some o := by have := hl 0 (by simp); simpa using this
    have hdk : dstOf ops k = some d := by simp [dstOf, hk, hd]
    have hcong : ∀ (f g : Nat → LV) (env0 : List (Nat × LV)) (m : Nat), (∀ i, i < m → f i = g i) → envAt ops f env0 m = envAt ops g env0 m := by
      intro f g env0 m
      induction m with
      | zero => intro _; rfl
      | succ m ih =>
        intro hfg
        simp only [envAt]
        rw [ih (fun i hi => hfg i (by omega)), hfg m (by omega)]
    obtain ⟨vs, h1, h2⟩ := QC.values l (k := k + 1) h (fun j hj => by
      have := hl (j + 1) (by simp; omega)
      rw [show k + 1 + j = k + (j + 1) by omega, this, List.getElem?_cons_succ]) (fun i => if i = k then v else vs0 i)
    refine ⟨vs, fun i hi => by rw [h1 i (by omega), if_neg (by omega)], fun env0 he => ?_⟩
    have hvk : vs k = v := by rw [h1 k (by omega), if_pos rfl]
    have hek : envAt ops vs env0 k = env := by
      rw [← he]
      exact hcong _ _ _ _ (fun i hi => by rw [h1 i (by omega), if_neg (by omega)])
    obtain ⟨h3, h4⟩ := h2 env0 (by
      simp only [envAt, hdk, if_true]
      rw [← he]
      congr 1
      exact hcong _ _ _ _ (fun i hi => by simp [show i ≠ k by omega]))
    refine ⟨fun i o' hi1 hi2 ho => ?_, by rw [← h4]; simp only [List.length_cons]; congr 1; omega⟩
    by_cases hik : i = k
    · subst hik
      rw [hk] at ho
      injection ho with ho
      subst ho
      rw [hvk, hek]
      exact hq
    · exact h3 i o' (by omega) (by simp at hi2; omega) ho
theorem get_envAt (vs : Nat → LV) (env0 : List (Nat × LV)) (m : Nat) (hw : ∀ i, i < m → ∃ d, dstOf ops i = some d ∧ who ops d = some i) (t : Nat) : ∀ k, k ≤ m → get (envAt ops vs env0 k) t = match who ops t with
    | some j => if j < k then vs j else get env0 t
    | none => get env0 t := by
  intro k
  induction k with
  | zero => intro _; simp only [envAt]; split <;> simp
  | succ k ih =>
    intro hk
    obtain ⟨d, hd, hwd⟩ := hw k (by omega)
    simp only [envAt, hd]
    by_cases hdt : d = t
    · subst hdt
      rw [get_same, hwd]
      simp
    · rw [get_other hdt, ih (by omega)]
      split
      · rename_i j hj
        by_cases hjk : j = k
        · subst hjk
          have : dstOf ops j = some t := by
            have := List.find?_some hj
            simpa using this
          rw [hd] at this
          injection this with this
          exact (hdt this).elim
        · by_cases hlt : j < k
          · rw [if_pos hlt, if_pos (by omega)]
          · rw [if_neg hlt, if_neg (by omega)]
      · rfl
def slotAt (ops : Array Oper) (vs : Nat → LV) (env0 : List (Nat × LV)) (S : Array Bool) (t : Nat) : LV := match who ops t with
  | some j => if S.getD j false = true then vs j else get env0 t
  | none => get env0 t
structure DrawOk (ops : Array Oper) (m : Nat) : Prop where
  dst : ∀ i, i < ops.size → i < m → ∃ d, dstOf ops i = some d ∧ who ops d = some i
  looks : ∀ i o, i < m → ops[i]? = some o → ∀ t ∈ o.looksAt ops, ∀ k, who ops t = some k → k = i ∨ (k < i ∧ ((Region.before ops).getD i 0).testBit k = true) ∨ (i < k ∧ ((Region.before ops).getD k 0).testBit i = true)
  less : ∀ i, i < ops.size → ∀ j ∈ direct ops i, j < i
  clo : ∀ i k, i < ops.size → k < ops.size → ((Region.before ops).getD i 0).testBit k = true → k ∈ direct ops i ∨ ∃ e ∈ direct ops i, ((Region.before ops).getD e 0).testBit k = true
  last : ∀ i k, i < ops.size → m ≤ i → k < i → ((Region.before ops).getD i 0).testBit k = true
theorem DrawOk.of {m : Nat} (h : drawOk ops m = true) : DrawOk ops m := by
  unfold drawOk at h
  simp only [List.all_eq_true, List.mem_range, Bool.and_eq_true] at h
  refine ⟨fun i hi hm => ?_, fun i o hm ho t ht k hk => ?_, fun i hi j hj => ?_, fun i k hi hk hb => ?_, fun i k hi hm hk => ?_⟩
  · obtain ⟨⟨⟨h1, _⟩, _⟩, _⟩ := h i hi
    rcases Bool.or_eq_true _ _ |>.mp h1 with h1 | h1
    · exact absurd (Nat.le_of_ble_eq_true h1) (by omega)
    · have h1 := (Bool.and_eq_true _ _ |>.mp h1).1
      cases hd : dstOf ops i with
      | none => rw [hd] at h1; cases h1
      | some d => rw [hd] at h1; exact ⟨d, rfl, by simpa using h1⟩
  · have hi : i < ops.size := (Array.getElem?_eq_some_iff.1 ho).1
    obtain ⟨⟨⟨h1, _⟩, _⟩, _⟩ := h i hi
    rcases Bool.or_eq_true _ _ |>.mp h1 with h1 | h1
    · exact absurd (Nat.le_of_ble_eq_true h1) (by omega)
    · have h1 := (Bool.and_eq_true _ _ |>.mp h1).2
      rw [ho] at h1
      have h2 := List.all_eq_true.1 h1 t ht
      rw [hk] at h2
      simp only [Bool.or_eq_true, Bool.and_eq_true, beq_iff_eq, Nat.blt_eq] at h2
      rcases h2 with (h2 | h2) | h2
      · exact .inl h2
      · exact .inr (.inl h2)
      · exact .inr (.inr h2)
  · obtain ⟨⟨⟨_, h1⟩, _⟩, _⟩ := h i hi
    simpa [Nat.blt_eq] using h1 j hj
  · obtain ⟨⟨⟨_, _⟩, h1⟩, _⟩ := h i hi
    have := h1 k hk
    simp only [Bool.or_eq_true, hb, Bool.not_true, Bool.false_eq_true, false_or, List.contains_iff_mem, List.any_eq_true] at this
    exact this
  · obtain ⟨⟨⟨_, _⟩, _⟩, h1⟩ := h i hi
    rcases Bool.or_eq_true _ _ |>.mp h1 with h1 | h1
    · have : i < m := by simpa [Nat.blt_eq] using h1
      omega
    · exact List.all_eq_true.1 h1 k (List.mem_range.2 hk)
/-- The listed ones have all that comes ahead of them. -/
def Down (ops : Array Oper) (S : Array Bool) : Prop := ∀ i, S.getD i false = true → ∀ j ∈ direct ops i, S.getD j false = true
theorem clo_down {m : Nat} (hok : DrawOk ops m) {S : Array Bool} (hd : Down ops S) : ∀ i k, i < ops.size → k < ops.size → ((Region.before ops).getD i 0).testBit k = true → (∀ j ∈ direct ops i, S.getD j false = true) → S.getD k false = true := by
  intro i
  induction i using Nat.strongRecOn with
  | _ i ih =>
    intro k hi hk hb hs
    rcases hok.clo i k hi hk hb with h | ⟨e, he, hb'⟩
    · exact hs k h
    · have hlt := hok.less i hi e he
      exact ih e hlt k (by omega) hk hb' (hd e (hs e he))
theorem ready_iff {S : Array Bool} {i : Nat} : i ∈ Region.ready .any ops S ↔ S.getD i true = false ∧ i < ops.size ∧ ∀ j ∈ direct ops i, S.getD j false = true := by
  rw [mem_ready]
  constructor
  · rintro ⟨h1, o, ho, h2⟩
    refine ⟨h1, (Array.getElem?_eq_some_iff.1 ho).1, fun j hj => ?_⟩
    simp only [direct, ho, List.mem_map, List.mem_filter] at hj
    obtain ⟨e, ⟨he, hb⟩, rfl⟩ := hj
    exact h2 e (by simpa using he) hb
  · rintro ⟨h1, hi, h2⟩
    refine ⟨h1, ops[i], Array.getElem?_eq_getElem hi, fun e he hb => h2 e.on ?_⟩
    simp only [direct, Array.getElem?_eq_getElem hi, List.mem_map, List.mem_filter]
    exact ⟨e, ⟨by simpa using he, hb⟩, rfl⟩
theorem getD_set {S : Array Bool} {i : Nat} (hi : i < S.size) (j : Nat) (b : Bool) : (S.setIfInBounds i true).getD j b = if j = i then true else S.getD j b := by
  by_cases hij : i = j
  · subst hij
    simp [hi]
  · simp [Array.getElem?_setIfInBounds_ne hij, Ne.symm hij]
def left (S : Array Bool) : List Nat → Nat
  | [] => 0
  | i :: l => (if S.getD i true = true then 0 else 1) + left S l
theorem left_le {S : Array Bool} {i : Nat} (hi : i < S.size) : ∀ l, left (S.setIfInBounds i true) l ≤ left S l
  | [] => Nat.le_refl _
  | j :: l => by
    have := left_le hi l
    simp only [left, getD_set hi]
    by_cases hj : j = i
    · simp only [hj, if_true]
      omega
    · simp only [hj, if_false]
      omega
theorem left_lt {S : Array Bool} {i : Nat} (hi : i < S.size) (hf : S.getD i true = false) : ∀ l, i ∈ l → left (S.setIfInBounds i true) l < left S l
  | [], h => by cases h
  | j :: l, h => by
    have hle := left_le hi l
    simp only [left, getD_set hi]
    by_cases hj : j = i
    · subst hj
      simp only [if_true, hf, Bool.false_eq_true, if_false]
      omega
    · have := left_lt hi hf l (by rcases List.mem_cons.1 h with h | h; exact absurd h.symm hj; exact h)
      simp only [hj, if_false]
      omega
theorem left_zero {S : Array Bool} : ∀ l, left S l = 0 → ∀ i ∈ l, S.getD i true = true
  | [], _, _, h => by cases h
  | j :: l, h, i, hi => by
    simp only [left] at h
    have h1 : S.getD j true = true := by
      by_cases hj : S.getD j true = true
      · exact hj
      · rw [if_neg hj] at h; omega
    rcases List.mem_cons.1 hi with rfl | hi
    · exact h1
    · exact left_zero l (by omega) i hi
/-- The one order that is left. -/
theorem oany_tail {m : Nat} {Q : Exit → Act → World → Prop} (hok : DrawOk ops m) : ∀ (l : List Oper) (k : Nat) (fuel : Nat) (S : Array Bool) (a : Act) (w : World), m ≤ k → k + l.length = ops.size → (∀ j, j < l.length → ops[k + j]? = l[j]?) → S.size = ops.size → (∀ j, j < ops.size → (S.getD j true = true ↔ j < k)) → l.length ≤ fuel →
    olist P ops Q l a w → oany P .any ops Q fuel S a w
  | [], k, fuel, S, a, w, hm, hk, hl, hS, hs, hf, h => by
    refine oany_done ?_ h fuel
    cases hr : Region.ready .any ops S with
    | nil => rfl
    | cons i r =>
      have : i ∈ Region.ready .any ops S := by rw [hr]; simp
      obtain ⟨h1, h2, _⟩ := ready_iff.1 this
      have := (hs i h2).2 (by simp at hk; omega)
      rw [h1] at this
      cases this
  | o :: l, k, 0, S, a, w, hm, hk, hl, hS, hs, hf, h => by simp at hf
  | o :: l, k, fuel + 1, S, a, w, hm, hk, hl, hS, hs, hf, h => by
    simp only [List.length_cons] at hk hf
    have hks : k < ops.size := by omega
    have hkk : ops[k]? = some o := by have := hl 0 (by simp); simpa using this
    have hfalse : S.getD k true = false := by
      cases hb : S.getD k true with
      | false => rfl
      | true => have := (hs k hks).1 hb; omega
    have hset : ∀ j, j < ops.size → ((S.setIfInBounds k true).getD j true = true ↔ j < k + 1) := fun j hj => by
      rw [getD_set (by omega)]
      by_cases hjk : j = k
      · simp [hjk]
      · rw [if_neg hjk, hs j hj]
        omega
    have hgd : ∀ j, j < ops.size → S.getD j false = S.getD j true := fun j hj => by
      simp [show j < S.size by omega]
    refine ⟨fun hr => ?_, fun i hi => ?_⟩
    · have : k ∈ Region.ready .any ops S := ready_iff.2 ⟨hfalse, hks, fun j hj => by
        have := hok.less k hks j hj
        rw [hgd j (by omega)]
        exact (hs j (by omega)).2 this⟩
      rw [hr] at this
      cases this
    · obtain ⟨h1, h2, h3⟩ := ready_iff.1 hi
      have hik : i = k := by
        have hge : ¬ i < k := fun hlt => by
          have := (hs i h2).2 hlt
          rw [h1] at this
          cases this
        rcases Nat.lt_or_ge k i with hlt | hle
        · have hb := hok.last i k h2 (by omega) hlt
          have hdown : Down ops S := fun x hx j hj => by
            have hxs : x < ops.size := by
              rcases Nat.lt_or_ge x ops.size with h | h
              · exact h
              · rw [show S.getD x false = false by simp [show ¬ x < S.size by omega]] at hx
                cases hx
            have hlt2 := hok.less x hxs j hj
            rw [hgd j (by omega)]
            rw [hgd x hxs] at hx
            have := (hs x hxs).1 hx
            exact (hs j (by omega)).2 (by omega)
          have := clo_down hok hdown i k h2 hks hb h3
          rw [hgd k hks, hfalse] at this
          cases this
        · omega
      subst hik
      have hrec := fun (a' : Act) (w' : World) (h' : olist P ops Q l a' w') => oany_tail hok l (i + 1) fuel (S.setIfInBounds i true) a' w' (by omega) (by omega) (fun j hj => by
        have := hl (j + 1) (by simp; omega)
        rw [show i + 1 + j = i + (j + 1) by omega, this, List.getElem?_cons_succ]) (by simp [hS]) hset (by omega) h'
      unfold olist at h
      unfold oop
      simp only [hkk]
      split
      · rename_i hw
        rw [if_pos hw] at h
        exact owp_mono (fun a' w' h' => hrec a' w' h') h
      · rename_i hw
        rw [if_neg hw] at h
        exact hrec _ _ h
/-- Quiet operations in whatever order, then the others. -/
theorem oany_quiet {m : Nat} {N : NN} {Q : Exit → Act → World → Prop} (hok : DrawOk ops m) (hm : m ≤ ops.size) {vs : Nat → LV} {env0 : List (Nat × LV)} (hN : ∀ i, i < m → ∀ d, dstOf ops i = some d → d < N.k)
    (hv : ∀ i o, i < m → ops[i]? = some o → LQ P ops (envAt ops vs env0 i) H o (vs i)) {w0 : Base} {ph : PH} (l2 : List Oper) (hl2 : m + l2.length = ops.size) (hget : ∀ j, j < l2.length → ops[m + j]? = l2[j]?)
    (hend : ∀ ph' a w, PH.le ph ph' → Rels w0 ph' ⟨N, envAt ops vs env0 m, H⟩ a w → olist P ops Q l2 a w) :
    ∀ (fuel : Nat) (S : Array Bool) (a : Act) (w : World) (ph1 : PH), S.size = ops.size → Down ops S → (∀ i, m ≤ i → i < ops.size → S.getD i true = false) → left S (List.range ops.size) ≤ fuel → PH.le ph ph1 → Inv w0 ph1 w H → (a.defers = N.df ∧ (N.top = true → w0.ro = none)) → a.tmps.size = N.k → (∀ d, Rep ph1 (a.tmps.getD d undef) (slotAt ops vs env0 S d)) →
      oany P .any ops Q fuel S a w := by
  have hdst := fun i (hi : i < m) => hok.dst i (by omega) hi
  have hgd : ∀ {S : Array Bool}, S.size = ops.size → ∀ j, j < ops.size → S.getD j false = S.getD j true := fun hS j hj => by
    simp [show j < _ from hS ▸ hj]
  have full : ∀ (fuel : Nat) (S : Array Bool) (a : Act) (w : World) (ph1 : PH), S.size = ops.size → (∀ i, m ≤ i → i < ops.size → S.getD i true = false) → (∀ i, i < m → S.getD i true = true) → l2.length ≤ fuel → PH.le ph ph1 → Inv w0 ph1 w H → (a.defers = N.df ∧ (N.top = true → w0.ro = none)) → a.tmps.size = N.k → (∀ d, Rep ph1 (a.tmps.getD d undef) (slotAt ops vs env0 S d)) → oany P .any ops Q fuel S a w := by
    intro fuel S a w ph1 hS hlate hall hf hle hinv hd hsz hrep
    refine oany_tail (P := P) hok l2 m fuel S a w (Nat.le_refl _) hl2 hget hS (fun j hj => ⟨fun h => ?_, fun h => hall j h⟩) hf (hend ph1 a w hle ⟨hinv, hd, hsz, fun d => ?_⟩)
    · rcases Nat.lt_or_ge j m with h' | h'
      · exact h'
      · rw [hlate j h' hj] at h
        cases h
    · have := hrep d
      unfold slotAt at this
      rw [get_envAt vs env0 m hdst d m (Nat.le_refl _)]
      split
      · rename_i j hj
        rw [hj] at this
        simp only at this
        by_cases hjm : j < m
        · rw [if_pos hjm]
          have hjs : S.getD j false = true := by rw [hgd hS j (by omega)]; exact hall j hjm
          rw [if_pos hjs] at this
          exact this
        · rw [if_neg hjm]
          have hjn : j < ops.size := by
            have := List.mem_of_find?_eq_some hj
            simpa using this
          have hjs : ¬ S.getD j false = true := by rw [hgd hS j hjn, hlate j (by omega) hjn]; simp
          rw [if_neg hjs] at this
          exact this
      · rename_i hj
        rw [hj] at this
        exact this
  intro fuel
  induction fuel with
  | zero =>
    intro S a w ph1 hS hdn hlate hf hle hinv hd hsz hrep
    have hz := left_zero _ (Nat.le_zero.1 hf)
    have hall : ∀ i, i < ops.size → S.getD i true = true := fun i hi => hz i (List.mem_range.2 hi)
    have hl20 : l2.length = 0 := by
      rcases Nat.eq_zero_or_pos l2.length with h | h
      · exact h
      · have h1 := hall m (by omega)
        rw [hlate m (Nat.le_refl _) (by omega)] at h1
        cases h1
    exact full 0 S a w ph1 hS hlate (fun i hi => hall i (by omega)) (by omega) hle hinv hd hsz hrep
  | succ fuel ih =>
    intro S a w ph1 hS hdn hlate hf hle hinv hd hsz hrep
    by_cases hall : ∀ i, i < m → S.getD i true = true
    · have hcount : ∀ (l : List Nat), l.Nodup → (∀ i ∈ l, i < ops.size) → (l.filter fun i => decide (m ≤ i)).length ≤ left S l := by
        intro l
        induction l with
        | nil => intro _ _; simp
        | cons i l ihl =>
          intro hnd hlt
          have := ihl (List.nodup_cons.1 hnd).2 (fun j hj => hlt j (List.mem_cons_of_mem _ hj))
          simp only [left, List.filter_cons]
          by_cases him : m ≤ i
          · have := hlate i him (hlt i (by simp))
            simp only [him, decide_true, if_true, List.length_cons, this, Bool.false_eq_true, if_false]
            omega
          · simp only [him, decide_false, Bool.false_eq_true, if_false]
            omega
      have h1 := hcount (List.range ops.size) (List.nodup_range) (fun i hi => List.mem_range.1 hi)
      have h2 : ((List.range ops.size).filter fun i => decide (m ≤ i)).length = l2.length := by
        have : ∀ (n : Nat), ((List.range n).filter fun i => decide (m ≤ i)).length = n - m := by
          intro n
          induction n with
          | zero => simp
          | succ n ihn =>
            rw [List.range_succ, List.filter_append, List.length_append, ihn]
            by_cases h : m ≤ n
            · simp [h]; omega
            · simp [h]; omega
        rw [this]
        omega
      exact full (fuel + 1) S a w ph1 hS hlate hall (by omega) hle hinv hd hsz hrep
    · have hnone : ∃ i, i < m ∧ S.getD i true = false ∧ ∀ j, j < i → S.getD j true = true := by
        have hex : ∃ i, i < m ∧ S.getD i true = false := by
          refine Classical.byContradiction fun hn => hall fun i hi => ?_
          cases hb : S.getD i true with
          | true => rfl
          | false => exact (hn ⟨i, hi, hb⟩).elim
        obtain ⟨i, ⟨hi, hb⟩, hmin⟩ := exists_least hex
        refine ⟨i, hi, hb, fun j hj => ?_⟩
        cases hb' : S.getD j true with
        | true => rfl
        | false => have := hmin j ⟨by omega, hb'⟩; omega
      obtain ⟨i0, hi0, hb0, hmin⟩ := hnone
      refine ⟨fun hr => ?_, fun i hi => ?_⟩
      · have : i0 ∈ Region.ready .any ops S := ready_iff.2 ⟨hb0, by omega, fun j hj => by
          have := hok.less i0 (by omega) j hj
          rw [hgd hS j (by omega)]
          exact hmin j this⟩
        rw [hr] at this
        cases this
      · obtain ⟨h1, h2, h3⟩ := ready_iff.1 hi
        have him : i < m := by
          rcases Nat.lt_or_ge i m with h | h
          · exact h
          · have := clo_down hok hdn i i0 h2 (by omega) (hok.last i i0 h2 h (by omega)) h3
            rw [hgd hS i0 (by omega), hb0] at this
            cases this
        obtain ⟨d, hdi, hwd⟩ := hdst i him
        have hoi : ops[i]? = some ops[i] := Array.getElem?_eq_getElem h2
        have hq := hv i ops[i] him hoi
        have hdo : (ops[i]).dst = some d := by simpa [dstOf, hoi] using hdi
        have hSi : i < S.size := by omega
        have hlooks : ∀ t ∈ (ops[i]).looksAt ops, Rep ph1 (a.tmps.getD t undef) (get (envAt ops vs env0 i) t) := fun t ht => by
          have := hrep t
          unfold slotAt at this
          rw [get_envAt vs env0 m hdst t i (by omega)]
          split
          · rename_i k hk
            rw [hk] at this
            simp only at this
            have hkn : k < ops.size := by
              have := List.mem_of_find?_eq_some hk
              simpa using this
            rcases hok.looks i ops[i] him hoi t ht k hk with rfl | ⟨hlt, hb⟩ | ⟨hlt, hb⟩
            · rw [if_neg (by omega)]
              rwa [if_neg (by rw [hgd hS k h2, h1]; simp)] at this
            · rw [if_pos hlt]
              rwa [if_pos (clo_down hok hdn i k h2 hkn hb h3)] at this
            · rw [if_neg (by omega)]
              have hkf : ¬ S.getD k false = true := fun hkt => by
                have := clo_down hok hdn k i hkn h2 hb (hdn k hkt)
                rw [hgd hS i h2, h1] at this
                cases this
              rwa [if_neg hkf] at this
          · rename_i hk
            rw [hk] at this
            exact this
        have hstep : ∀ (ph2 : PH) (u : Value) (w' : World), PH.le ph1 ph2 → Inv w0 ph2 w' H → Rep ph2 u (vs i) → oany P .any ops Q fuel (S.setIfInBounds i true) (a.put (ops[i]).dst u) w' := fun ph2 u w' hle2 hinv2 hru => by
          refine ih (S.setIfInBounds i true) _ w' ph2 (by simp [hS]) (fun x hx j hj => ?_) (fun j hj1 hj2 => ?_) ?_ (hle.trans hle2) hinv2 (by rw [put_defers]; exact hd) (by rw [put_size]; exact hsz) (fun t => ?_)
          · rw [getD_set hSi] at hx ⊢
            by_cases hji : j = i
            · rw [if_pos hji]
            · rw [if_neg hji]
              by_cases hxi : x = i
              · subst hxi
                exact h3 j hj
              · rw [if_neg hxi] at hx
                exact hdn x hx j hj
          · rw [getD_set hSi, if_neg (by omega)]
            exact hlate j hj1 hj2
          · have := left_lt hSi h1 (List.range ops.size) (List.mem_range.2 h2)
            omega
          · rw [hdo]
            unfold slotAt
            by_cases htd : d = t
            · subst htd
              rw [hwd]
              simp only [getD_set hSi, if_true]
              have : d < a.tmps.size := by rw [hsz]; exact hN i him d hdi
              simpa [Act.put, this] using hru
            · have hr' := (hrep t).mono hle2
              have hput : (a.put (some d) u).tmps.getD t undef = a.tmps.getD t undef := by
                simp [Act.put, Array.getElem?_setIfInBounds_ne htd, Array.getD_eq_getD_getElem?]
              rw [hput]
              unfold slotAt at hr'
              split
              · rename_i k hk
                rw [hk] at hr'
                simp only at hr'
                rw [getD_set hSi]
                by_cases hki : k = i
                · subst hki
                  have : dstOf ops k = some t := by
                    have := List.find?_some hk
                    simpa using this
                  rw [hdi] at this
                  injection this with this
                  exact (htd this).elim
                · rw [if_neg hki]
                  exact hr'
              · rename_i hk
                rw [hk] at hr'
                exact hr'
        have hmain := hq w0 ph1 a w hinv hlooks (oany P .any ops Q fuel (S.setIfInBounds i true)) Q (fun ph2 u w' h1 h2 h3 => hstep ph2 u w' h1 h2 h3)
        unfold oop
        simp only [hoi]
        split
        · rename_i hw
          rw [if_pos hw] at hmain
          exact hmain
        · rename_i hw
          rw [if_neg hw] at hmain
          exact hmain
/-- A region that draws its order: l1 in whatever order, then l2. -/
theorem LW.draw {id : Nat} {l l1 l2 : List Oper} {st : LS} {env' : List (Nat × LV)} {Q : Exit → LS → Prop} (hmo : P.follows .mixedOrders = true) (hl : l = l1 ++ l2) (hok : drawOk l.toArray l1.length = true) (hn : (l1.all fun o => match o.dst with | some d => Nat.blt d st.n.k | none => false) = true)
    (hc : QC P l.toArray st.heap st.env l1 env') (h : LL P l.toArray l2 ⟨st.n, env', st.heap⟩ (fun s => Q .normal s)) (hnd : noDefer l = true := by kernel_rfl) : LW P (.region id l.toArray true) st Q := fun w0 ph a w r Q' k => by
  subst hl
  have hdok := DrawOk.of hok
  obtain ⟨vs, _, hvs⟩ := hc.values l1 (k := 0) (fun j hj => by simp [List.getElem?_append_left hj]) (fun _ => .any)
  obtain ⟨hv, he⟩ := hvs st.env rfl
  rw [Nat.zero_add] at he
  refine wpIn_region_any hmo (oany_in (by simpa using hnd) _ ?_)
  have hget0 : ∀ j, (Array.replicate (l1 ++ l2).toArray.size false).getD j false = false := fun j => by
    simp [Array.getElem?_replicate]
    split <;> rfl
  refine oany_quiet (P := P) (H := st.heap) (N := st.n) (vs := vs) (env0 := st.env) (w0 := w0) (ph := ph) hdok (by simp) (fun i hi d hd => ?_) (fun i o hi ho => hv i o (Nat.zero_le _) (by omega) ho) l2 (by simp) (fun j hj => by simp [List.getElem?_append_right]) (fun ph' a' w' hle r' => ?_) _ _ a _ ph (by simp) (fun i hi => by rw [hget0] at hi; cases hi) (fun i h1 h2 => by
    have h3 : i < l1.length + l2.length := by simpa using h2
    simp [h3]) ?_ (PH.le.refl _) (r.inv.step ⟨rfl, rfl, rfl, Nat.le_refl _, fun _ _ => rfl⟩) r.defers r.size (fun d => ?_)
  · have h1 : l1[i]? = some l1[i] := List.getElem?_eq_getElem hi
    have := List.all_eq_true.1 hn l1[i] (List.getElem_mem hi)
    simp only [dstOf, List.getElem?_toArray, List.getElem?_append_left hi, h1, Option.bind_some] at hd
    rw [hd] at this
    simpa [Nat.blt_eq] using this
  · rw [he] at r'
    exact h w0 ph' a' w' r' Q' (fun ph2 st2 a2 w2 hle2 r2 q2 => k _ ph2 st2 a2 w2 (hle.trans hle2) r2 q2)
  · have : ∀ (l : List Nat) (S : Array Bool), left S l ≤ l.length := by
      intro l S
      induction l with
      | nil => exact Nat.le_refl _
      | cons i l ih =>
        simp only [left, List.length_cons]
        split <;> omega
    have := this (List.range (l1 ++ l2).toArray.size) (Array.replicate (l1 ++ l2).toArray.size false)
    simpa using this
  · have := r.tmps d
    unfold slotAt
    split
    · rw [if_neg (by rw [hget0]; simp)]
      exact this
    · exact this
end
end Go.L
