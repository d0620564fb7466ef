/- What comes in, by its content. Plain theorems over any program. -/
import Derived.Test.YtcemodldbfiomaaLogJ
import Derived.SizedLaws
import Derived.ChangeSlices
import Derived.Lib.SmallJoins
set_option linter.unusedVariables false
set_option linter.unusedSimpArgs false
namespace Go.L
open Go.RowKit

def Weighs {H : Type} (P : Program) (t : TypeId) (d : DataW H) : Prop := ∀ n ∈ d.weights P t, n ≤ reachBytes
/-- Whatever of a type is read: its cells by their content, and what is said of them. -/
def Opens (P : Program) (t : TypeId) (Q : List LV → Prop) : Prop :=
  ∀ (H : Type) (enc : TypeId × Value → H) (w : World) (base : Nat) (spare : Nat → Bool) (held : Bool) (fuel : Nat) (cs : List Value) (x : DataW H × List MemPlace),
    DataW.trod enc P w base spare held fuel t cs = some x → Weighs P t x.1 → ∃ xs, CReps (PH.all w) cs.toArray xs ∧ Q xs
def QInt (k : IntKind) (xs : List LV) : Prop := ∃ n, xs = [.raw (.int k n)] ∧ (Lit.int k n).wf = true
def QBool (xs : List LV) : Prop := ∃ b, xs = [.raw (.bool b)]
def QStr (xs : List LV) : Prop := ∃ l : List UInt8, xs = [Str l] ∧ l.length ≤ reachBytes
def QSl (size B : Nat) (Q : List LV → Prop) (xs : List LV) : Prop := ∃ es, xs = [.sl size es .unk] ∧ (∀ c ∈ es, Q c) ∧ es.length * B ≤ reachBytes
def QNil (xs : List LV) : Prop := xs = []
def QCons (n : Nat) (Q1 Q2 : List LV → Prop) (xs : List LV) : Prop := ∃ a b, xs = a ++ b ∧ a.length = n ∧ Q1 a ∧ Q2 b
section
variable {P : Program}
theorem creps_one {ph : PH} {v : Value} {x : LV} (h1 : v.oneCell' = true) (r : Rep ph v x) : CReps ph [v].toArray [x] := by
  have := one_creps h1 r
  rwa [show v.cells = [v].toArray by cases v <;> first | rfl | (simp [Value.oneCell'] at h1)] at this
theorem Opens.int {t : TypeId} {k : IntKind} (ht : P.underlying t = some (.int k)) : Opens P t (QInt k) := fun H enc w base spare held fuel cs x h hw => by
  obtain ⟨n, rfl, _, hwf⟩ := DataW.trod_int ht h
  exact ⟨_, creps_one rfl (.raw _), n, rfl, hwf⟩
theorem Opens.bool {t : TypeId} (ht : P.underlying t = some .bool) : Opens P t QBool := fun H enc w base spare held fuel cs x h hw => by
  obtain ⟨b, rfl, _⟩ := DataW.trod_bool ht h
  exact ⟨_, creps_one rfl (.raw _), b, rfl⟩
theorem Opens.string {t : TypeId} (ht : P.underlying t = some .string) : Opens P t QStr := fun H enc w base spare held fuel cs x h hw => by
  obtain ⟨s, rfl, rfl, _⟩ := DataW.trod_string ht h
  refine ⟨[Str s.data.toList], creps_one rfl ?_, s.data.toList, rfl, hw _ (by simp [DataW.weights])⟩
  have : (⟨s.data.toList.toArray⟩ : ByteArray) = s := by cases s; simp
  show Rep _ _ (.raw (.string ⟨s.data.toList.toArray⟩))
  rw [this]
  exact .raw _
theorem weightsAll_mem {H : Type} {e : TypeId} : ∀ {l : List (DataW H)} {d : DataW H}, d ∈ l → ∀ n ∈ d.weights P e, n ∈ DataW.weightsAll P e l
  | d' :: l, d, h, n, hn => by
    rw [DataW.weightsAll]
    rcases List.mem_cons.1 h with rfl | h
    · exact List.mem_append_left _ hn
    · exact List.mem_append_right _ (weightsAll_mem h n hn)
theorem weightsEach_mem {H : Type} : ∀ {ts : List TypeId} {l : List (DataW H)} {i : Nat} {t : TypeId} {d : DataW H}, ts[i]? = some t → l[i]? = some d → ∀ n ∈ d.weights P t, n ∈ DataW.weightsEach P ts l
  | t' :: ts, d' :: l, 0, t, d, h1, h2, n, hn => by
    simp at h1 h2
    subst h1
    subst h2
    rw [DataW.weightsEach]
    exact List.mem_append_left _ hn
  | t' :: ts, d' :: l, i + 1, t, d, h1, h2, n, hn => by
    rw [DataW.weightsEach]
    exact List.mem_append_right _ (weightsEach_mem (by simpa using h1) (by simpa using h2) n hn)
  | [], _, _, _, _, h1, _, _, _ => by simp at h1
  | _ :: _, [], _, _, _, _, h2, _, _ => by simp at h2
theorem Opens.slice {t e : TypeId} {size B : Nat} {Q : List LV → Prop} (ht : P.underlying t = some (.slice e)) (hc : P.cellsOf e = size) (hb : P.bytesOf e = B) (hs0 : 0 < size) (he : Opens P e Q) : Opens P t (QSl size B Q) := fun H enc w base spare held fuel cs x h hw => by
  rcases DataW.trod_slice ht h with ⟨rfl, rfl⟩ | ⟨a, len, cap, elems, rest, n, _, rfl, rfl, hba, hl, hm, hlen, hel, hsp, hns⟩
  · exact ⟨[.sl size [] .unk], creps_one rfl (((Is.nil size).trans Is.unk) _ _ (.raw _)), [], rfl, by simp, by simp⟩
  · rw [hc] at hel
    have hwe : ∀ y ∈ elems, Weighs P e y.1 := fun y hy m hm' => hw m (by
      simp only [DataW.weights, ht]
      exact List.mem_cons_of_mem _ (List.mem_append_left _ (weightsAll_mem (List.mem_map_of_mem hy) m hm')))
    have key : ∀ i, ∃ c : List Value × List LV, i < len → w.cells? base (a.add (i * size)) size = some c.1 ∧ CReps (PH.all w) c.1.toArray c.2 ∧ Q c.2 := fun i => by
      by_cases hi : i < len
      · have h1 := hel i hi
        have hie : i < elems.length := by omega
        rw [List.getElem?_eq_getElem hie, Option.bind_eq_some_iff] at h1
        obtain ⟨c, hc1, hc2⟩ := h1
        obtain ⟨xs, h2, h3⟩ := he H enc w base spare held n c _ hc2 (hwe _ (List.getElem_mem hie))
        exact ⟨(c, xs), fun _ => ⟨hc1, h2, h3⟩⟩
      · exact ⟨([], []), fun h => absurd h hi⟩
    obtain ⟨f, hf⟩ := Classical.axiomOfChoice key
    have hcl : ∀ i, i < len → (f i).1.length = size ∧ (f i).2.length = size := fun i hi => by
      obtain ⟨h1, h2, _⟩ := hf i hi
      have h3 := (World.cells?_some h1).2.1
      have h4 := h2.1.1
      simp at h4
      omega
    have hget : ∀ (i : Nat) (e : List LV), ((List.range len).map fun i => (f i).2)[i]? = some e → i < len ∧ e = (f i).2 := fun i e hi => by
      simp only [List.getElem?_map, List.getElem?_range'] at hi
      by_cases h : i < len
      · simp [h] at hi
        exact ⟨h, hi.symm⟩
      · simp [h] at hi
    have hspot : 0 < len → a.spot = none := fun h0 => by
      obtain ⟨h1, _, _⟩ := hf 0 h0
      have h3 := (World.cells?_some h1).2.2 0 hs0
      have h4 := (hcl 0 h0).1
      rw [List.getElem?_eq_getElem (by omega), Nat.zero_mul] at h3
      cases hsq : a.spot with
      | none => rfl
      | some s =>
        rw [show (a.add 0).add 0 = a from rfl] at h3
        simp [World.cell?, hsq] at h3
        split at h3 <;> cases h3
    have hdiv : ∀ i j, j < size → (i * size + j) / size = i ∧ (i * size + j) % size = j := fun i j hj => by
      rw [Nat.mul_comm]
      exact ⟨by rw [Nat.mul_add_div hs0, Nat.div_eq_of_lt hj, Nat.add_zero], by rw [Nat.mul_add_mod, Nat.mod_eq_of_lt hj]⟩
    have hcell : ∀ (i : Nat) (e : List LV) (j : Nat) (x : LV), ((List.range len).map fun i => (f i).2)[i]? = some e → e[j]? = some x → ∃ hj : j < (f i).1.length, w.cell? (a.add (i * size + j)) = some (f i).1[j] ∧ Rep (PH.all w) (f i).1[j] x ∧ ((f i).1[j]).oneCell' = true := fun i e j x hi hj => by
      obtain ⟨hlt, rfl⟩ := hget i e hi
      obtain ⟨h1, h2, _⟩ := hf i hlt
      have hjs := (List.getElem?_eq_some_iff.1 hj).1
      have h4 := hcl i hlt
      have hj1 : j < (f i).1.length := by omega
      have h3 := (World.cells?_some h1).2.2 j (by omega)
      rw [add_add _ _ _ (hspot (by omega)), List.getElem?_eq_getElem hj1] at h3
      exact ⟨hj1, h3, h2.1.2 j _ x (by simp [hj1]) hj, h2.2 j _ (by simp [hj1])⟩
    refine ⟨[.sl size ((List.range len).map fun i => (f i).2) .unk], creps_one rfl ?_, _, rfl, fun c hc' => ?_, ?_⟩
    · refine .sl size _ .unk (some a) len cap a (fun k => (f (k / size)).1.getD (k % size) undef) (fun _ => rfl) (by simp) hl (fun e he' => ?_) trivial (fun i e j x hi hj => ?_) (fun i e j x hi hj => ?_)
      · obtain ⟨i, hi⟩ := List.mem_iff_getElem?.1 he'
        obtain ⟨hlt, rfl⟩ := hget i e hi
        exact (hcl i hlt).2
      · obtain ⟨hj1, h1, h2, h3⟩ := hcell i e j x hi hj
        have hjs : j < size := by obtain ⟨hlt, _⟩ := hget i e hi; have := hcl i hlt; omega
        simp only [(hdiv i j hjs).1, (hdiv i j hjs).2]
        rw [PH.all_some]
        refine ⟨?_, ?_⟩
        · rw [h1]; simp [List.getD, hj1]
        · simpa [List.getD, hj1] using h3
      · obtain ⟨hj1, h1, h2, h3⟩ := hcell i e j x hi hj
        have hjs : j < size := by obtain ⟨hlt, _⟩ := hget i e hi; have := hcl i hlt; omega
        simp only [(hdiv i j hjs).1, (hdiv i j hjs).2]
        simpa [List.getD, hj1] using h2
    · obtain ⟨i, hi⟩ := List.mem_iff_getElem?.1 hc'
      obtain ⟨hlt, rfl⟩ := hget i c hi
      exact (hf i hlt).2.2
    · have := hw ((elems.length + rest.length) * P.bytesOf e) (by simp [DataW.weights, ht])
      rw [hb] at this
      simp only [List.length_map, List.length_range]
      exact Nat.le_trans (Nat.mul_le_mul_right _ (by omega)) this
/-- Fields, one behind the other. -/
inductive OpF (P : Program) : List Field → Nat → (List LV → Prop) → Nat → Prop where
  | nil (off : Nat) : OpF P [] off QNil off
  | cons {f : Field} {fs : List Field} {off n m : Nat} {Q1 Q2 : List LV → Prop} (ho : f.offset = off) (hn : P.cellsOf f.type = n) (h : Opens P f.type Q1) (r : OpF P fs (off + n) Q2 m) : OpF P (f :: fs) off (QCons n Q1 Q2) m
theorem OpF.open_ : ∀ {fs : List Field} {off m : Nat} {Q : List LV → Prop}, OpF P fs off Q m → ∀ (H : Type) (enc : TypeId × Value → H) (w : World) (base : Nat) (spare : Nat → Bool) (held : Bool) (n : Nat) (cs : List Value),
    (∀ (i : Nat) (f : Field), fs[i]? = some f → ∃ y, DataW.trod enc P w base spare held n f.type ((cs.drop f.offset).take (P.cellsOf f.type)) = some y ∧ Weighs P f.type y.1) → m = cs.length →
    off ≤ m ∧ ∃ xs, CReps (PH.all w) (cs.drop off).toArray xs ∧ Q xs
  | _, off, _, _, .nil _, H, enc, w, base, spare, held, n, cs, _, hm => ⟨Nat.le_refl _, [], ⟨⟨by simp [hm], fun i c x h1 h2 => by simp at h2⟩, fun i c h1 => by simp [hm] at h1⟩, rfl⟩
  | _, _, _, _, .cons (f := f) (off := off) (n := k) ho hn h r, H, enc, w, base, spare, held, n, cs, hf, hm => by
    obtain ⟨hle, xs, h1, h2⟩ := r.open_ H enc w base spare held n cs (fun i g hg => hf (i + 1) g (by simpa using hg)) hm
    obtain ⟨y, hy, hyw⟩ := hf 0 f rfl
    rw [ho, hn] at hy
    obtain ⟨ys, h3, h4⟩ := h H enc w base spare held n _ y hy hyw
    have hk : ((cs.drop off).take k).length = k := by rw [List.length_take, List.length_drop]; omega
    refine ⟨by omega, ys ++ xs, ?_, ys, xs, rfl, by have := h3.1.1; simp only [List.size_toArray, hk] at this; omega, h4, h2⟩
    have := creps_append h3 h1
    rwa [show (cs.drop off).take k ++ cs.drop (off + k) = cs.drop off by rw [← List.drop_drop, List.take_append_drop]] at this
theorem Opens.struct {t : TypeId} {fs : Array Field} {Q : List LV → Prop} {m : Nat} (ht : P.underlying t = some (.struct fs)) (hm : P.cellsOf t = m) (h : OpF P fs.toList 0 Q m) : Opens P t Q := fun H enc w base spare held fuel cs x hx hw => by
  obtain ⟨xs, n, _, rfl, hl, hxl, hi⟩ := DataW.trod_struct ht hx
  have := h.open_ H enc w base spare held n cs (fun i f hf => by
    have hfi : fs[i]? = some f := by simpa using hf
    have h1 := hi i f hfi
    have hlt : i < xs.length := by rw [hxl]; exact (Array.getElem?_eq_some_iff.1 hfi).1
    rw [List.getElem?_eq_getElem hlt] at h1
    refine ⟨_, h1, fun k hk => hw k ?_⟩
    simp only [DataW.weights, ht]
    exact weightsEach_mem (i := i) (by simp [hf]) (by simp [hlt]) k hk) (by omega)
  simpa using this.2
/-- A composite that came in. -/
theorem reps_agg {ph : PH} {cs : Array Value} {xs : List LV} (h : CReps ph cs xs) : Rep ph (.agg cs) (.agg xs) := .agg _ _ h.1.1 h.2 h.1.2
theorem reps_nil {ph : PH} : Reps ph #[] [] := ⟨rfl, by simp⟩
theorem reps_cons {ph : PH} {v : Value} {x : LV} {vs : List Value} {xs : List LV} (h : Rep ph v x) (k : Reps ph vs.toArray xs) : Reps ph (v :: vs).toArray (x :: xs) := by
  obtain ⟨k1, k2⟩ := k
  refine ⟨by simp at k1 ⊢; omega, fun i c y h1 h2 => ?_⟩
  match i with
  | 0 => simp at h1 h2; subst h1; subst h2; exact h
  | i + 1 => simp at h1 h2; exact k2 i c y (by simpa using h1) h2
/-- Elements, decoded. -/
theorem decode {α : Type} (enc : α → List LV) (φ : α → Prop) : ∀ {es : List (List LV)}, (∀ c ∈ es, ∃ a, c = enc a ∧ φ a) → ∃ as : List α, es = as.map enc ∧ ∀ a ∈ as, φ a
  | [], _ => ⟨[], rfl, by simp⟩
  | c :: es, h => by
    obtain ⟨a, rfl, ha⟩ := h c (by simp)
    obtain ⟨as, rfl, has⟩ := decode enc φ (es := es) (fun c hc => h c (List.mem_cons_of_mem _ hc))
    exact ⟨a :: as, rfl, fun b hb => by rcases List.mem_cons.1 hb with rfl | hb; exact ha; exact has b hb⟩
theorem wf_i64 {n : Int} (h : (Lit.int .i64 n).wf = true) : -9223372036854775808 ≤ n ∧ n < 9223372036854775808 := by
  simp [Lit.wf, IntKind.min, IntKind.max, IntKind.signed, IntKind.bits] at h
  omega
theorem wf_u64 {n : Int} (h : (Lit.int .u64 n).wf = true) : 0 ≤ n ∧ n < 18446744073709551616 := by
  simp [Lit.wf, IntKind.min, IntKind.max, IntKind.signed, IntKind.bits] at h
  omega
theorem wf_u8 {n : Int} (h : (Lit.int .u8 n).wf = true) : 0 ≤ n ∧ n < 256 := by
  simp [Lit.wf, IntKind.min, IntKind.max, IntKind.signed, IntKind.bits] at h
  omega
theorem decode_ints {es : List (List LV)} (h : ∀ c ∈ es, QInt .i64 c) : ∃ l : List Int, es = intEls l ∧ ∀ x ∈ l, -9223372036854775808 ≤ x ∧ x < 9223372036854775808 := by
  obtain ⟨l, h1, h2⟩ := decode (fun x : Int => [.raw (.int .i64 x)]) (fun x => (Lit.int .i64 x).wf = true) h
  exact ⟨l, h1, fun x hx => wf_i64 (h2 x hx)⟩
theorem decode_bytes {es : List (List LV)} (h : ∀ c ∈ es, QInt .u8 c) : ∃ l : List UInt8, es = byteEls l := by
  obtain ⟨l, h1, h2⟩ := decode (fun b : UInt8 => [.raw (.int .u8 b.toNat)]) (fun _ => True) (es := es) (fun c hc => by
    obtain ⟨n, rfl, hn⟩ := h c hc
    have := wf_u8 hn
    refine ⟨UInt8.ofNat n.toNat, ?_, trivial⟩
    have e : ((UInt8.ofNat n.toNat).toNat : Int) = n := by
      rw [UInt8.toNat_ofNat']
      omega
    rw [e])
  exact ⟨l, h1⟩
end
end Go.L
