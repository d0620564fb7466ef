/- Readers: Over, none, Left, Uint. -/
import Derived.Test.YtahecnlglcfddaaOctetD
set_option linter.unusedVariables false
set_option linter.unusedSimpArgs false
namespace Go.Proofs.Ytahecnlglcfddaa
open Go.RowKit Go.Sep

theorem sts_zadd {w0 w : World} {e size n : Nat} {v : Value} {xs : List Value} {R : HP} (h : Sts w0 w (star (row e size v (0 + n) ([] ++ xs)) R)) : Sts w0 w (star (row e size v n xs) R) := by rw [Nat.zero_add] at h; exact h
/-- A reader of one's own. -/
def own (g : Nat) (A : Option Addr) (n c k : Nat) (l : List Int) (R : HP) : HP := star (blk g 73 #[.bool true, .slice A n c, .int .i64 k]) (star (row 5 1 (.slice A n c) n (ints .u8 l)) R)
theorem own_reads {w0 w : World} {g : Nat} {A : Option Addr} {n c k : Nat} {l : List Int} {R : HP} (h : Sts w0 w (own g A n c k l R)) (hk : k ≤ n) : Reads w g A n c k l := by
  have hb := h.blk_at
  exact ⟨by rw [blk_cell hb]; rfl, by rw [blk_cell hb]; rfl, by rw [blk_cell hb]; rfl, h.tail.rd, hk⟩

set_option maxHeartbeats 1000000 in
theorem over_calls (A : Option Addr) (n c : Nat) (l : List Int) (w : World) (HR : Rd w 1 A n (ints .u8 l)) (hn : n ≤ 100000000) :
    Calls Try.prog 25 #[.slice A n c] w fun e w' => ∃ g A' c', e = .returned (.pointer (some ⟨g, 0, none⟩)) ∧ Sts w w' (own g A' n c' 0 l emp) := by
  have HR := Asi.mk HR
  have HS := Asi.mk (Sts.start w)
  go_enter Try.func25, Try.ntmps25
  go_wp2_with (refine at_dst (N := 3) rfl ?_; refine stop ?_)
  refine ⟨?_⟩
  refine at_op rfl fun K hK => ?_
  refine op_lit HS.out 5 1 0 [] (by first | (go_simp; done) | (go_simp; rfl) | (go_simp; simp [ints]; done)) (by first | rfl | simp [ints]) (by omega) ?_
  intro v1 w1 h
  refine hK _ _ ?_
  clear hK K
  have HS1 := Asi.mk h
  clear h HS
  go_wp2_with (refine at_dst (N := 5) rfl ?_; refine stop ?_)
  refine ⟨?_⟩
  refine at_op rfl fun K hK => ?_
  refine op_append 1 1 v1 0 [] 5 HS1.out (.tmp 3) (.tmp 4) 22 _ rfl Try.underlying22 infoU8 rfl (by omega) rfl A n c (ints .u8 l) rfl (HR.out.below HS1.out.below) (ints_one _ _) (by omega) (by omega) ?_
  intro v2 w2 h
  refine hK _ _ ?_
  clear hK K
  have HS2 := Asi.mk (sts_zadd h)
  clear h HS1
  obtain ⟨A2, c2, e2, _, _⟩ := HS2.out.row_rd
  subst e2
  go_wp2
  go_ret
  exact ⟨_, _, _, rfl, HS2.out.new _ _⟩

theorem none_calls (g : Nat) (w : World) (h : w.cell? ⟨g, 0, none⟩ = some (.bool true)) : Calls Try.prog 39 #[.pointer (some ⟨g, 0, none⟩)] w fun e w' => e = .returned (.bool false) ∧ w = w' := by
  go_enter Try.func39, Try.ntmps39
  go_wp2
  go_ret
  exact ⟨rfl, rfl⟩
theorem place_left_calls (g : Nat) (A : Option Addr) (n c k : Nat) (l : List Int) (w : World) (H : Reads w g A n c k l) (hn : n ≤ 100000000) :
    Calls Try.prog 41 #[.pointer (some ⟨g, 0, none⟩)] w fun e w' => e = .returned (.int .i64 ((n - k : Nat) : Int)) ∧ ∃ m, w' = w.drewN m := by
  obtain ⟨hc0, hc1, hc2, hrd, hle⟩ := H
  clear hrd
  have hs : ((n - k : Nat) : Int) = n - k := by omega
  have hw := i64_small (x := (n : Int) - k) (by omega) (by omega)
  go_enter Try.func41, Try.ntmps41
  go_wp2
  go_quiet (fail)
  go_wp2
  go_ret
  rw [hs]
  exact ⟨rfl, _, rfl⟩
theorem left_calls (g : Nat) (A : Option Addr) (n c k : Nat) (l : List Int) (w : World) (H : Reads w g A n c k l) (hn : n ≤ 100000000) :
    Calls Try.prog 27 #[.pointer (some ⟨g, 0, none⟩)] w fun e w' => e = .returned (.int .i64 ((n - k : Nat) : Int)) ∧ ∃ m, w' = w.drewN m := by
  have HA := Asi.mk (place_left_calls g A n c k l w H hn)
  have HN := Asi.mk (none_calls g w H.made)
  clear H
  go_enter Try.func27, Try.ntmps27
  go_wp2_with (refine at_dst (N := 4) rfl ?_; refine stop ?_)
  refine ⟨?_⟩
  refine at_op rfl fun K hK => ?_
  refine op_call HN.out Try.func39 (by kernel_rfl) rfl rfl ?hargs ?_
  case hargs => (try simp only [List.map_toArray, List.map_cons, List.map_nil]); first | done | rfl
  rintro e w1 ⟨rfl, rfl⟩
  refine ⟨_, rfl, ?_⟩
  refine hK _ _ ?_
  clear hK K
  go_wp2_with (refine at_dst (N := 8) rfl ?_; refine stop ?_)
  refine ⟨?_⟩
  refine at_op rfl fun K hK => ?_
  refine op_call HA.out Try.func41 (by kernel_rfl) rfl rfl ?hargs ?_
  case hargs => (try simp only [List.map_toArray, List.map_cons, List.map_nil]); first | done | rfl
  rintro e w1 ⟨rfl, h⟩
  refine ⟨_, rfl, ?_⟩
  refine hK _ _ ?_
  clear hK K
  go_wp2
  go_ret
  exact ⟨rfl, h⟩

theorem dec_used : ∀ (f : Nat) (l : List Int) (i acc : Nat), (dec f l i acc).2.2 = 0 → i < (dec f l i acc).2.1 ∧ (dec f l i acc).2.1 ≤ i + f ∧ (dec f l i acc).2.1 ≤ i + l.length
  | 0, _, _, _, h => by simp [dec] at h
  | f + 1, [], _, _, h => by simp [dec] at h
  | f + 1, c :: l, i, acc, h => by
    rw [dec] at h ⊢
    split at h
    · simp at h
    rename_i h9
    rw [if_neg h9]
    split at h
    · rename_i h1
      rw [if_pos h1]
      split at h
      · simp at h
      · rename_i h2
        rw [if_neg h2]
        simp
    · rename_i h1
      rw [if_neg h1]
      have := dec_used f l (i + 1) _ h
      simp only [List.length_cons]
      omega
theorem dec_bad : ∀ (f : Nat) (l : List Int) (i acc : Nat), (dec f l i acc).2.2 ≠ 0 → (dec f l i acc).1 = 0 ∧ (dec f l i acc).2.1 = 0
  | 0, _, _, _, h => by simp [dec]
  | f + 1, [], _, _, h => by simp [dec]
  | f + 1, c :: l, i, acc, h => by
    rw [dec] at h ⊢
    split at h
    · rename_i h9
      rw [if_pos h9]
      exact ⟨rfl, rfl⟩
    rename_i h9
    rw [if_neg h9]
    split at h
    · rename_i h1
      rw [if_pos h1]
      split at h
      · rename_i h2
        rw [if_pos h2]
        exact ⟨rfl, rfl⟩
      · simp at h
    · rename_i h1
      rw [if_neg h1]
      exact dec_bad f l (i + 1) _ h
theorem uintN_used (l : List Int) : (uintN l).2.1 ≤ l.length := by
  by_cases h : (uintN l).2.2 = 0
  · have := (dec_used 10 l 0 0 h).2.2
    unfold uintN
    omega
  · have := (dec_bad 10 l 0 0 h).2
    unfold uintN
    omega

set_option maxHeartbeats 1000000 in
theorem uint_calls (g : Nat) (A : Option Addr) (n c k : Nat) (l : List Int) (w0 w : World) (R : HP) (HS : Sts w0 w (own g A n c k l R)) (hb : Byts l) (hk : k ≤ n) (hn : n ≤ 100000000) :
    Calls Try.prog 26 #[.pointer (some ⟨g, 0, none⟩)] w fun e w' => e = .returned (.tuple #[.int .u64 (uintN (l.drop k)).1, .int .i64 (uintN (l.drop k)).2.2]) ∧ Sts w0 w' (own g A n c (k + (uintN (l.drop k)).2.1) l R) := by
  have hr := own_reads HS hk
  have HS := Asi.mk HS
  have HN := Asi.mk (none_calls g w hr.made)
  have HU := Asi.mk (number_calls g A n c k l w hr hb hn)
  have hu := uintN_used (l.drop k)
  have hlen := rd_len hr.rd
  rw [List.length_drop] at hu
  clear hr hb
  generalize uintN (l.drop k) = u at hu HU ⊢
  obtain ⟨v, q, er⟩ := u
  have hu : q ≤ l.length - k := hu
  go_enter Try.func26, Try.ntmps26
  go_wp2_with (refine at_dst (N := 8) rfl ?_; refine stop ?_)
  refine ⟨?_⟩
  refine at_op rfl fun K hK => ?_
  refine op_call HN.out Try.func39 (by kernel_rfl) rfl rfl ?hargs ?_
  case hargs => (try simp only [List.map_toArray, List.map_cons, List.map_nil]); first | done | rfl
  rintro e w1 ⟨rfl, rfl⟩
  refine ⟨_, rfl, ?_⟩
  refine hK _ _ ?_
  clear hK K
  go_wp2_with (refine at_dst (N := 11) rfl ?_; refine stop ?_)
  refine ⟨?_⟩
  refine at_op rfl fun K hK => ?_
  refine op_call HU.out Try.func40 (by kernel_rfl) rfl rfl ?hargs ?_
  case hargs => (try simp only [List.map_toArray, List.map_cons, List.map_nil]); first | done | rfl
  rintro e w1 ⟨⟨m, rfl⟩, rfl⟩
  refine ⟨_, rfl, ?_⟩
  refine hK _ _ ?_
  clear hK K
  have HS1 := Asi.mk (HS.out.drewN m)
  clear HS HU HN
  have hb := HS1.out.blk_at
  have hc2 := blk_cell hb 2
  have hf2 := blk_frozen hb 2
  have hwr := i64_small (x := (k : Int) + q) (by omega) (by omega)
  simp at hc2
  clear hb
  go_wp2
  go_ret2
  refine ⟨rfl, ?_⟩
  have h := HS1.out.set 2 (.int .i64 (k + q))
  simpa [own] using h
end Go.Proofs.Ytahecnlglcfddaa
