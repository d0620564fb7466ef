/- Byte and End; readers that no call made; OctetNobody. -/
import Derived.Test.YtahecnlglcfddaaOctetH
set_option linter.unusedVariables false
set_option linter.unusedSimpArgs false
namespace Go.Proofs.Ytahecnlglcfddaa
open Go.RowKit Go.Sep

theorem end_calls (g : Nat) (A : Option Addr) (n c k : Nat) (l : List Int) (w : World) (H : Reads w g A n c k l) (hn : n ≤ 100000000) :
    Calls Try.prog 35 #[.pointer (some ⟨g, 0, none⟩)] w fun e w' => e = .returned (.int .i64 (if n - k = 0 then 0 else 12)) ∧ ∃ m, w' = w.drewN m := by
  have HA := Asi.mk (place_left_calls g A n c k l w H hn)
  have HN := Asi.mk (none_calls g w H.made)
  clear H
  by_cases h0 : n - k = 0
  · rw [if_pos h0]
    rw [h0] at HA
    go_enter Try.func35, Try.ntmps35
    go_wp2_with (refine at_dst (N := 5) rfl ?_; refine stop ?_)
    refine ⟨?_⟩
    refine at_op rfl fun K hK => ?_
    refine op_call HN.out Try.func39 (by kernel_rfl) rfl rfl ?hargs ?_
    case hargs => (try simp only [List.map_toArray, List.map_cons, List.map_nil]); first | done | rfl
    rintro e w1 ⟨rfl, rfl⟩
    refine ⟨_, rfl, ?_⟩
    refine hK _ _ ?_
    clear hK K
    go_wp2_with (refine at_dst (N := 10) rfl ?_; refine stop ?_)
    refine ⟨?_⟩
    refine at_op rfl fun K hK => ?_
    refine op_call HA.out Try.func41 (by kernel_rfl) rfl rfl ?hargs ?_
    case hargs => (try simp only [List.map_toArray, List.map_cons, List.map_nil]); first | done | rfl
    rintro e w1 ⟨rfl, h⟩
    refine ⟨_, rfl, ?_⟩
    refine hK _ _ ?_
    clear hK K
    go_wp2
    go_ret
    exact ⟨rfl, h⟩
  · rw [if_neg h0]
    have hp : (0 : Int) < ((n - k : Nat) : Int) := by omega
    go_enter Try.func35, Try.ntmps35
    go_wp2_with (refine at_dst (N := 5) rfl ?_; refine stop ?_)
    refine ⟨?_⟩
    refine at_op rfl fun K hK => ?_
    refine op_call HN.out Try.func39 (by kernel_rfl) rfl rfl ?hargs ?_
    case hargs => (try simp only [List.map_toArray, List.map_cons, List.map_nil]); first | done | rfl
    rintro e w1 ⟨rfl, rfl⟩
    refine ⟨_, rfl, ?_⟩
    refine hK _ _ ?_
    clear hK K
    go_wp2_with (refine at_dst (N := 10) rfl ?_; refine stop ?_)
    refine ⟨?_⟩
    refine at_op rfl fun K hK => ?_
    refine op_call HA.out Try.func41 (by kernel_rfl) rfl rfl ?hargs ?_
    case hargs => (try simp only [List.map_toArray, List.map_cons, List.map_nil]); first | done | rfl
    rintro e w1 ⟨rfl, h⟩
    refine ⟨_, rfl, ?_⟩
    refine hK _ _ ?_
    clear hK K
    go_wp2
    go_ret
    exact ⟨rfl, h⟩

/-- A reader that no call made. -/
def Nob (w : World) (p : Option Addr) : Prop := p = none ∨ ∃ g, p = some ⟨g, 0, none⟩ ∧ w.cell? ⟨g, 0, none⟩ = some (.bool false)
theorem none_nob (p : Option Addr) (w : World) (h : Nob w p) : Calls Try.prog 39 #[.pointer p] w fun e w' => e = .returned (.bool true) ∧ w = w' := by
  rcases h with rfl | ⟨g, rfl, h⟩
  · go_enter Try.func39, Try.ntmps39
    go_wp2
    go_ret
    exact ⟨rfl, rfl⟩
  · go_enter Try.func39, Try.ntmps39
    go_wp2
    go_ret
    exact ⟨rfl, rfl⟩
theorem left_nob (p : Option Addr) (w : World) (h : Nob w p) : Calls Try.prog 27 #[.pointer p] w fun e w' => e = .returned (.int .i64 0) ∧ w = w' := by
  have HN := Asi.mk (none_nob p w h)
  clear h
  go_enter Try.func27, Try.ntmps27
  go_wp2_with (refine at_dst (N := 4) rfl ?_; refine stop ?_)
  refine ⟨?_⟩
  refine at_op rfl fun K hK => ?_
  refine op_call HN.out Try.func39 (by kernel_rfl) rfl rfl ?hargs ?_
  case hargs => (try simp only [List.map_toArray, List.map_cons, List.map_nil]); first | done | rfl
  rintro e w1 ⟨rfl, rfl⟩
  refine ⟨_, rfl, ?_⟩
  refine hK _ _ ?_
  clear hK K
  go_wp2
  go_ret
  exact ⟨rfl, rfl⟩
theorem end_nob (p : Option Addr) (w : World) (h : Nob w p) : Calls Try.prog 35 #[.pointer p] w fun e w' => e = .returned (.int .i64 1) ∧ w = w' := by
  have HN := Asi.mk (none_nob p w h)
  clear h
  go_enter Try.func35, Try.ntmps35
  go_wp2_with (refine at_dst (N := 5) rfl ?_; refine stop ?_)
  refine ⟨?_⟩
  refine at_op rfl fun K hK => ?_
  refine op_call HN.out Try.func39 (by kernel_rfl) rfl rfl ?hargs ?_
  case hargs => (try simp only [List.map_toArray, List.map_cons, List.map_nil]); first | done | rfl
  rintro e w1 ⟨rfl, rfl⟩
  refine ⟨_, rfl, ?_⟩
  refine hK _ _ ?_
  clear hK K
  go_wp2
  go_ret
  exact ⟨rfl, rfl⟩
theorem byte_nob (p : Option Addr) (w : World) (h : Nob w p) : Calls Try.prog 34 #[.pointer p] w fun e w' => e = .returned (.tuple #[.int .u8 0, .int .i64 1]) ∧ w = w' := by
  have HN := Asi.mk (none_nob p w h)
  clear h
  go_enter Try.func34, Try.ntmps34
  go_wp2_with (refine at_dst (N := 6) rfl ?_; refine stop ?_)
  refine ⟨?_⟩
  refine at_op rfl fun K hK => ?_
  refine op_call HN.out Try.func39 (by kernel_rfl) rfl rfl ?hargs ?_
  case hargs => (try simp only [List.map_toArray, List.map_cons, List.map_nil]); first | done | rfl
  rintro e w1 ⟨rfl, rfl⟩
  refine ⟨_, rfl, ?_⟩
  refine hK _ _ ?_
  clear hK K
  go_wp2
  go_ret2
  exact ⟨rfl, rfl⟩
theorem uint_nob (p : Option Addr) (w : World) (h : Nob w p) : Calls Try.prog 26 #[.pointer p] w fun e w' => e = .returned (.tuple #[.int .u64 0, .int .i64 1]) ∧ w = w' := by
  have HN := Asi.mk (none_nob p w h)
  clear h
  go_enter Try.func26, Try.ntmps26
  go_wp2_with (refine at_dst (N := 8) rfl ?_; refine stop ?_)
  refine ⟨?_⟩
  refine at_op rfl fun K hK => ?_
  refine op_call HN.out Try.func39 (by kernel_rfl) rfl rfl ?hargs ?_
  case hargs => (try simp only [List.map_toArray, List.map_cons, List.map_nil]); first | done | rfl
  rintro e w1 ⟨rfl, rfl⟩
  refine ⟨_, rfl, ?_⟩
  refine hK _ _ ?_
  clear hK K
  go_wp2
  go_ret2
  exact ⟨rfl, rfl⟩
theorem text_nob (p : Option Addr) (most : Int) (w : World) (h : Nob w p) : Calls Try.prog 28 #[.pointer p, .int .i64 most] w fun e w' => e = .returned (.tuple #[.string ⟨#[]⟩, .int .i64 1]) ∧ w = w' := by
  have HN := Asi.mk (none_nob p w h)
  clear h
  go_enter Try.func28, Try.ntmps28
  go_wp2_with (refine at_dst (N := 11) rfl ?_; refine stop ?_)
  refine ⟨?_⟩
  refine at_op rfl fun K hK => ?_
  refine op_call HN.out Try.func39 (by kernel_rfl) rfl rfl ?hargs ?_
  case hargs => (try simp only [List.map_toArray, List.map_cons, List.map_nil]); first | done | rfl
  rintro e w1 ⟨rfl, rfl⟩
  refine ⟨_, rfl, ?_⟩
  refine hK _ _ ?_
  clear hK K
  go_wp2
  go_ret2
  exact ⟨rfl, rfl⟩

set_option maxHeartbeats 4000000 in
theorem OctetNobody_walk (m0 : Int) (w : World) (hm0 : (Lit.int .i64 m0).wf = true) :
    Calls Try.prog 12 #[.int .i64 m0] w fun e w' => e = .returned (.bool true) ∧ Below w.heap.size w w' := by
  clear hm0
  have HS := Asi.mk (Sts.start w)
  go_enter Try.func12, Try.ntmps12
  go_wp2_with (refine at_dst (N := 13) rfl ?_; refine stop ?_)
  refine ⟨?_⟩
  have HS1 := Asi.mk (HS.out.new 73 #[.bool false, .slice none 0 0, .int .i64 0])
  clear HS
  go_wp2_with (refine at_dst (N := 13) rfl ?_; refine stop ?_)
  refine ⟨?_⟩
  refine at_op rfl fun K hK => ?_
  refine op_lit HS1.out 42 1 2 [.pointer none, .pointer (some ⟨w.heap.size, 0, none⟩)] (by first | (go_simp; done) | (go_simp; rfl) | (go_simp; simp [ints]; done)) (by first | rfl | simp [ints]) (by omega) ?_
  intro v1 w1 h
  refine hK _ _ ?_
  clear hK K
  have HS2 := Asi.mk h
  clear h HS1
  obtain ⟨A, c, e, _, _⟩ := HS2.out.row_rd
  subst e
  go_wp2
  go_loopg [15] 2 (fun g i wr => ∃ k : Nat, k ≤ 2 ∧ g = 2 - k ∧ i = .int .i64 k ∧ wr = w1)
  case atStart => exact ⟨0, by omega, rfl, rfl, rfl⟩
  case round =>
    obtain ⟨k, hk, rfl, rfl, rfl⟩ := hrel
    by_cases hlt : k < 2
    · obtain ⟨ad, eA, u, hu, hc⟩ := HS2.out.rd.at_ hlt
      subst eA
      have hn : ∃ p, u = .pointer p ∧ Nob wr p := by
        have hb := HS2.out.tail.blk_at
        rcases (show k = 0 ∨ k = 1 by omega) with rfl | rfl
        · simp at hu
          exact ⟨none, hu.symm, .inl rfl⟩
        · simp at hu
          exact ⟨_, hu.symm, .inr ⟨_, rfl, by rw [blk_cell hb]; rfl⟩⟩
      obtain ⟨p, rfl, hn⟩ := hn
      have HN := Asi.mk hn
      clear hn hu
      go_wp2_with (refine at_dst (N := 21) rfl ?_; refine stop ?_)
      refine ⟨?_⟩
      refine at_op rfl fun K hK => ?_
      refine op_call (uint_nob p wr HN.out) Try.func26 (by kernel_rfl) rfl rfl ?hargs ?_
      case hargs => (try simp only [List.map_toArray, List.map_cons, List.map_nil]); first | done | rfl
      rintro e w2 ⟨rfl, rfl⟩
      refine ⟨_, rfl, ?_⟩
      refine hK _ _ ?_
      clear hK K
      go_wp2_with (refine at_dst (N := 27) rfl ?_; refine stop ?_)
      refine ⟨?_⟩
      refine at_op rfl fun K hK => ?_
      refine op_call (text_nob p m0 wr HN.out) Try.func28 (by kernel_rfl) rfl rfl ?hargs ?_
      case hargs => (try simp only [List.map_toArray, List.map_cons, List.map_nil]); first | done | rfl
      rintro e w2 ⟨rfl, rfl⟩
      refine ⟨_, rfl, ?_⟩
      refine hK _ _ ?_
      clear hK K
      go_wp2_with (refine at_dst (N := 32) rfl ?_; refine stop ?_)
      refine ⟨?_⟩
      refine at_op rfl fun K hK => ?_
      refine op_call (byte_nob p wr HN.out) Try.func34 (by kernel_rfl) rfl rfl ?hargs ?_
      case hargs => (try simp only [List.map_toArray, List.map_cons, List.map_nil]); first | done | rfl
      rintro e w2 ⟨rfl, rfl⟩
      refine ⟨_, rfl, ?_⟩
      refine hK _ _ ?_
      clear hK K
      go_wp2_with (refine at_dst (N := 59) rfl ?_; refine stop ?_)
      refine ⟨?_⟩
      refine at_opG rfl fun K hK => ?_
      refine op_call (left_nob p wr HN.out) Try.func27 (by kernel_rfl) rfl rfl ?hargs ?_
      case hargs => (try simp only [List.map_toArray, List.map_cons, List.map_nil]); first | done | rfl
      rintro e w2 ⟨rfl, rfl⟩
      refine ⟨_, rfl, ?_⟩
      refine hK _ _ ?_
      clear hK K
      go_wp2_with (refine at_dst (N := 64) rfl ?_; refine stop ?_)
      refine ⟨?_⟩
      refine at_opG rfl fun K hK => ?_
      refine op_call (end_nob p wr HN.out) Try.func35 (by kernel_rfl) rfl rfl ?hargs ?_
      case hargs => (try simp only [List.map_toArray, List.map_cons, List.map_nil]); first | done | rfl
      rintro e w2 ⟨rfl, rfl⟩
      refine ⟨_, rfl, ?_⟩
      refine hK _ _ ?_
      clear hK K
      go_wp2
      go_roundg (2 - (k + 1))
      case measure => omega
      case rel => exact ⟨k + 1, by omega, rfl, by simp, rfl⟩
    · go_wp2_with (refine at_dst (N := 68) rfl ?_; refine stop ?_)
      refine ⟨?_⟩
      refine at_op rfl fun K hK => ?_
      refine op_call (over_calls none 0 0 [] wr (Rd.nil _ _ _) (by omega)) Try.func25 (by kernel_rfl) rfl rfl ?hargs ?_
      case hargs => (try simp only [List.map_toArray, List.map_cons, List.map_nil]); first | done | rfl
      rintro e w2 ⟨g, A', c', rfl, h⟩
      refine ⟨_, rfl, ?_⟩
      refine hK _ _ ?_
      clear hK K
      have HS3 := Asi.mk h
      clear h
      go_wp2_with (refine at_dst (N := 69) rfl ?_; refine stop ?_)
      refine ⟨?_⟩
      refine at_op rfl fun K hK => ?_
      refine op_call (end_calls g A' 0 c' 0 [] w2 (own_reads HS3.out (by omega)) (by omega)) Try.func35 (by kernel_rfl) rfl rfl ?hargs ?_
      case hargs => (try simp only [List.map_toArray, List.map_cons, List.map_nil]); first | done | rfl
      rintro e w3 ⟨rfl, m, rfl⟩
      refine ⟨_, rfl, ?_⟩
      refine hK _ _ ?_
      clear hK K
      go_wp2_with (refine at_dst (N := 72) rfl ?_; refine stop ?_)
      refine ⟨?_⟩
      refine at_opG rfl fun K hK => ?_
      refine op_call (lives1_calls _) Try.func13 (by kernel_rfl) rfl rfl ?hargs ?_
      case hargs => (try simp only [List.map_toArray, List.map_cons, List.map_nil]); first | done | rfl
      rintro e w8 ⟨rfl, h⟩
      refine ⟨_, rfl, ?_⟩
      refine hK _ _ ?_
      clear hK K
      have HS8 := Asi.mk (HS2.out.step (((HS3.out.drewN m).step h.below).below))
      clear h
      go_wp2
      go_ret
      exact ⟨rfl, HS8.out.below⟩
end Go.Proofs.Ytahecnlglcfddaa
