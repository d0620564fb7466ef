/- Arrays that come in, by their content. Plain theorems over any program. -/
import Derived.Test.YtpcfpkfchoelcaaDoorLogN
import Derived.Test.YtpcfpkfchoelcaaDoorLogR
import Derived.OpenShut
import Derived.WideShapes
set_option linter.unusedVariables false
set_option linter.unusedSimpArgs false
namespace Go.L
open Go.RowKit
variable {P : Program}
theorem okWide_array {w : World} {r : Reach} {base : Nat} {t e : TypeId} {n : Nat} {v : Value} (ht : P.underlying t = some (.array n e)) (h : Value.okWide P w r base t v) : ∃ cs, v = .agg cs ∧ cs.size = P.cellsOf t := by
  simp only [Value.okWide, ht] at h
  obtain ⟨cs, h1, h2, _⟩ := h
  exact ⟨cs, h1, h2⟩
theorem arr_open {e : TypeId} {size : Nat} {Q : List LV → Prop} (hc : P.cellsOf e = size) (he : Opens P e Q) {H : Type} {enc : TypeId × Value → H} {w : World} {base : Nat} {spare : Nat → Bool} {held : Bool} {m : Nat} :
    ∀ (n : Nat) (cs : List Value), cs.length = n * size → (∀ i, i < n → ∃ y, DataW.trod enc P w base spare held m e ((cs.drop (i * size)).take size) = some y ∧ Weighs P e y.1) →
      ∃ es : List (List LV), CReps (PH.all w) cs.toArray es.flatten ∧ es.length = n ∧ ∀ c ∈ es, c.length = size ∧ Q c
  | 0, cs, hl, _ => by
    obtain rfl : cs = [] := List.eq_nil_of_length_eq_zero (by omega)
    exact ⟨[], ⟨⟨by simp, fun i c x h1 h2 => by simp at h2⟩, fun i c h1 => by simp at h1⟩, rfl, by simp⟩
  | n + 1, cs, hl, h => by
    rw [Nat.succ_mul] at hl
    obtain ⟨y, hy, hyw⟩ := h 0 (by omega)
    rw [Nat.zero_mul, List.drop_zero] at hy
    obtain ⟨ys, h3, h4⟩ := he H enc w base spare held m _ y hy hyw
    obtain ⟨es, h5, h6, h7⟩ := arr_open hc he n (cs.drop size) (by rw [List.length_drop]; omega) (fun i hi => by
      obtain ⟨z, hz, hzw⟩ := h (i + 1) (by omega)
      refine ⟨z, ?_, hzw⟩
      rwa [List.drop_drop, show size + i * size = (i + 1) * size by rw [Nat.succ_mul]; omega])
    have hlen : (cs.take size).length = size := by rw [List.length_take]; omega
    refine ⟨ys :: es, ?_, by simp [h6], fun c hc' => ?_⟩
    · have := creps_append h3 h5
      rwa [List.take_append_drop] at this
    · rcases List.mem_cons.1 hc' with rfl | hc'
      · have := h3.1.1
        simp only [List.size_toArray, hlen] at this
        exact ⟨this.symm, h4⟩
      · exact h7 c hc'
theorem Opens.array {t e : TypeId} {n size : Nat} {Q : List LV → Prop} (ht : P.underlying t = some (.array n e)) (hc : P.cellsOf e = size) (hs0 : 0 < size) (hm : P.cellsOf t = n * size) (he : Opens P e Q) : Opens P t (QArr n size Q) := fun H enc w base spare held fuel cs x hx hw => by
  obtain ⟨xs, m, _, rfl, hl, hxl, hi⟩ := DataW.trod_array ht hx
  obtain ⟨es, h1, h2, h3⟩ := arr_open hc he (H := H) (enc := enc) (w := w) (base := base) (spare := spare) (held := held) (m := m) n cs (by omega) (fun i hin => by
    have h1 := hi i hin
    have hlt : i < xs.length := by omega
    rw [List.getElem?_eq_getElem hlt, hc] at h1
    refine ⟨_, h1, fun k hk => hw k ?_⟩
    simp only [DataW.weights, ht]
    exact weightsAll_mem (List.mem_map_of_mem (List.getElem_mem hlt)) k hk)
  exact ⟨es.flatten, h1, es, rfl, h2, h3⟩
end Go.L
