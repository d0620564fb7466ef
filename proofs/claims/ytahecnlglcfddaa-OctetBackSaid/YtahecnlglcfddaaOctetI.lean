/- OctetBack. -/
import Derived.Test.YtahecnlglcfddaaOctetH
set_option linter.unusedVariables false
set_option linter.unusedSimpArgs false
namespace Go.Proofs.Ytahecnlglcfddaa
open Go.RowKit Go.Sep

theorem pow128_9 : 128 ^ 9 * 2 = 18446744073709551616 := by decide
/-- What was put is read. -/
theorem dec_putN : ∀ (f : Nat) (r i acc : Nat) (rest : List Int), f + i = 10 → r * 128 ^ i < 18446744073709551616 → (0 < i → 0 < r) → dec f (putN r ++ rest) i acc = (acc + r * 128 ^ i, i + (putN r).length, 0)
  | 0, r, i, acc, rest, hi, h, hr => by
    have : i = 10 := by omega
    subst this
    have := hr (by omega)
    have h2 : 1 * 128 ^ 10 ≤ r * 128 ^ 10 := Nat.mul_le_mul_right _ this
    have h3 : 18446744073709551616 ≤ 128 ^ 10 := by decide
    omega
  | f + 1, r, i, acc, rest, hi, h, hr => by
    by_cases hs : r < 128
    · rw [putN_small hs]
      simp only [List.cons_append, List.nil_append, dec, Int.toNat_natCast]
      rw [if_neg, if_pos hs, if_neg (by omega), Nat.mod_eq_of_lt hs]
      · rfl
      · rintro ⟨rfl, h1⟩
        have h2 : 2 * 128 ^ 9 ≤ r * 128 ^ 9 := Nat.mul_le_mul_right _ h1
        have := pow128_9
        omega
    · rw [putN_big hs]
      simp only [List.cons_append, dec, Int.toNat_natCast]
      rw [if_neg, if_neg (by omega), show (r % 128 + 128) % 128 = r % 128 by omega]
      · have e : acc + r % 128 * 128 ^ i + r / 128 * 128 ^ (i + 1) = acc + r * 128 ^ i := by
          rw [Nat.pow_succ, Nat.add_assoc, Nat.mul_comm (128 ^ i) 128, ← Nat.mul_assoc, ← Nat.add_mul]
          congr 2
          omega
        have e2 : r / 128 * 128 ^ (i + 1) ≤ r * 128 ^ i := by omega
        rw [dec_putN f (r / 128) (i + 1) _ rest (by omega) (by omega) (fun _ => by omega), e]
        simp only [List.length_cons]
        rw [Nat.add_assoc i 1, Nat.add_comm 1]
      · rintro ⟨rfl, h1⟩
        have h2 : 2 * 128 ^ 9 ≤ r * 128 ^ 9 := Nat.mul_le_mul_right _ (by omega)
        have := pow128_9
        omega
theorem uintN_putN (n : Nat) (rest : List Int) (h : n < 18446744073709551616) : uintN (putN n ++ rest) = (n, (putN n).length, 0) := by
  unfold uintN
  rw [dec_putN 10 n 0 0 rest rfl (by omega) (fun h => absurd h (by omega))]
  simp
theorem textN_puttext (l rest : List Int) (h : l.length ≤ 100000000) : textN (putN l.length ++ l ++ rest) l.length = (l, (putN l.length).length + l.length, 0) := by
  unfold textN
  rw [List.append_assoc, uintN_putN _ _ (by omega)]
  simp only [if_true, Int.toNat_natCast]
  rw [if_neg (by omega), if_neg (by simp)]
  simp
theorem strOfNums_chars (s : ByteArray) : strOfNums (chars s) = s := by
  cases s with
  | mk d =>
    simp only [strOfNums, chars, List.map_map]
    congr 1
    apply Array.ext'
    simp only [List.toList_toArray]
    conv => rhs; rw [← List.map_id d.toList]
    apply List.map_congr_left
    intro b _
    simp

set_option maxHeartbeats 4000000 in
theorem OctetBack_walk (n0 : Int) (s : ByteArray) (a0 : Option Addr) (len0 cap0 : Nat) (z0 : List Int) (w : World) (hn0 : (Lit.int .u64 n0).wf = true) (hs0 : s.size ≤ 140737488351232) (h0 : IsRow .u8 w a0 len0 cap0 z0) (y0 : len0 * 1 ≤ 140737488351232) :
    Calls Try.prog 8 #[.int .u64 n0, .string s, .slice a0 len0 cap0] w fun e w' => e = .returned (.bool true) ∧ Below w.heap.size w w' := by
  obtain ⟨hr, hlc, hlen, hw⟩ := h0.rd
  have HR := Asi.mk hr
  have HB := Asi.mk (byts_of_wf hw)
  generalize z0.take len0 = l at HR HB
  clear hr hlen hw h0
  by_cases hl : 100000 < s.size + len0
  · go_enter Try.func8, Try.ntmps8
    go_wp2_with (refine at_dst (N := 18) rfl ?_; refine stop ?_)
    refine ⟨?_⟩
    refine at_op rfl fun K hK => ?_
    refine op_call (lives1_calls w) Try.func13 (by kernel_rfl) rfl rfl ?hargs ?_
    case hargs => (try simp only [List.map_toArray, List.map_cons, List.map_nil]); first | done | rfl
    rintro e w1 ⟨rfl, h⟩
    refine ⟨_, rfl, ?_⟩
    refine hK _ _ ?_
    clear hK K
    have HS := Asi.mk h.below
    clear h
    go_wp2
    go_ret
    exact ⟨rfl, HS.out⟩
  · have hlen := rd_len HR.out
    have hn1 : ∃ n : Nat, n0 = n ∧ n < 18446744073709551616 := by
      simp [Lit.wf, IntKind.wrap, IntKind.bits, IntKind.signed, IntKind.min, IntKind.max] at hn0
      exact ⟨n0.toNat, by omega, by omega⟩
    obtain ⟨n, rfl, hn⟩ := hn1
    have HN := Asi.mk hn
    clear hn0 hn
    have hz1 := putN_len10 n HN.out
    have hz2 := putN_len10 s.size (by omega)
    have hcl := chars_length s
    obtain ⟨L, hL⟩ : ∃ L, L = putN n ++ putN s.size ++ chars s ++ l := ⟨_, rfl⟩
    have hLl : L.length = (putN n).length + (putN s.size).length + s.size + len0 := by rw [hL]; simp [hcl]; omega
    have HLB := Asi.mk (show Byts L from by rw [hL]; exact (((putN_byts _).append (putN_byts _)).append (chars_byts _)).append HB.out)
    have e1 : uintN (L.drop 0) = (n, (putN n).length, 0) := by
      rw [hL, List.drop_zero, List.append_assoc, List.append_assoc]
      exact uintN_putN n _ HN.out
    have e2 : textN (L.drop (0 + (putN n).length)) (s.size : Nat) = (chars s, (putN s.size).length + s.size, 0) := by
      rw [hL, Nat.zero_add, List.append_assoc, List.append_assoc, List.drop_left', ← List.append_assoc]
      have := textN_puttext (chars s) l (by omega)
      rw [hcl] at this
      exact this
      rfl
    obtain ⟨N, hN⟩ : ∃ N, N = L.length := ⟨_, rfl⟩
    have HNS := Asi.mk (show (putN n).length + (putN s.size).length + s.size + len0 = N from by omega)
    have hNb : N ≤ 1000000 := by omega
    have hsub : N - (0 + (putN n).length + ((putN s.size).length + s.size)) = len0 := by omega
    have HU := Asi.mk (fun (g : Nat) (A : Option Addr) (c : Nat) (w : World) (w1 : World) (HS : Sts w w1 (own g A N c 0 L emp)) => uint_calls g A N c 0 L w w1 emp HS HLB.out (by omega) (by omega))
    have HT := Asi.mk (fun (g : Nat) (A : Option Addr) (c : Nat) (w : World) (w1 : World) (HS : Sts w w1 (own g A N c (0 + (putN n).length) L emp)) => text_calls g A N c (0 + (putN n).length) L s.size w w1 emp HS HLB.out (by omega) (by omega) (by omega) (by omega))
    have HLF := Asi.mk (fun (g : Nat) (A : Option Addr) (c : Nat) (w : World) (w1 : World) (HS : Sts w w1 (own g A N c (0 + (putN n).length + ((putN s.size).length + s.size)) L emp)) => left_calls g A N c _ L w1 (own_reads HS (by omega)) (by omega))
    rw [hsub] at HLF
    have HLL := Asi.mk hL
    clear hLl hN hsub hL
    rw [e1] at HU
    rw [e2, strOfNums_chars] at HT
    clear e1 e2
    go_enter Try.func8, Try.ntmps8
    go_wp2_with (refine at_dst (N := 20) rfl ?_; refine stop ?_)
    refine ⟨?_⟩
    refine at_op rfl fun K hK => ?_
    refine op_call (put_calls none 0 0 [] n w (Rd.nil _ _ _) (fun u hu => by simp at hu) HN.out (by omega)) Try.func14 (by kernel_rfl) rfl rfl ?hargs ?_
    case hargs => (try simp only [List.map_toArray, List.map_cons, List.map_nil]); first | done | rfl
    rintro e w1 ⟨v1, rfl, h⟩
    refine ⟨_, rfl, ?_⟩
    refine hK _ _ ?_
    clear hK K
    have HS1 := Asi.mk (sts_zadd h)
    clear h
    obtain ⟨A1, c1, e1, _, _⟩ := HS1.out.row_rd
    subst e1
    go_wp2_with (refine at_dst (N := 22) rfl ?_; refine stop ?_)
    refine ⟨?_⟩
    refine at_op rfl fun K hK => ?_
    refine op_call (puttext_calls A1 _ c1 (ints .u8 (putN n)) s w1 HS1.out.rd (ints_one _ _) (by omega) (by omega)) Try.func15 (by kernel_rfl) rfl rfl ?hargs ?_
    case hargs => (try simp only [List.map_toArray, List.map_cons, List.map_nil]); first | done | rfl
    rintro e w2 ⟨v2, rfl, h⟩
    refine ⟨_, rfl, ?_⟩
    refine hK _ _ ?_
    clear hK K
    have HS2 := Asi.mk (HS1.out.join1 h).drop2
    clear h HS1
    go_wp2_with (refine at_dst (N := 24) rfl ?_; refine stop ?_)
    refine ⟨?_⟩
    refine at_op rfl fun K hK => ?_
    refine op_append 1 1 v2 ((putN n).length + (putN s.size).length + s.size) (ints .u8 (putN n) ++ ints .u8 (putN s.size) ++ ints .u8 (chars s)) 5 HS2.out (.tmp 22) (.tmp 23) 22 _ rfl Try.underlying22 infoU8 rfl (by omega) rfl a0 len0 cap0 (ints .u8 l) rfl (HR.out.below HS2.out.below) (ints_one _ _) (by omega) (by omega) ?_
    intro v3 w3 h
    refine hK _ _ ?_
    clear hK K
    have HS3 := Asi.mk h
    clear h HS2
    obtain ⟨A3, c3, e3, _, h3⟩ := HS3.out.row_rd
    subst e3
    rw [HNS.out]
    rw [HNS.out] at h3
    have HR3 := Asi.mk (show Rd w3 1 A3 N (ints .u8 L) from by rw [HLL.out, ints_append, ints_append, ints_append]; exact h3)
    clear h3
    go_wp2_with (refine at_dst (N := 25) rfl ?_; refine stop ?_)
    refine ⟨?_⟩
    refine at_op rfl fun K hK => ?_
    refine op_call (over_calls A3 N c3 L w3 HR3.out (by omega)) Try.func25 (by kernel_rfl) rfl rfl ?hargs ?_
    case hargs => (try simp only [List.map_toArray, List.map_cons, List.map_nil]); first | done | rfl
    rintro e w4 ⟨g, A, c, rfl, h⟩
    refine ⟨_, rfl, ?_⟩
    refine hK _ _ ?_
    clear hK K
    have HS4 := Asi.mk h
    have HB4 := Asi.mk HS3.out.below
    clear h HS3
    go_wp2_with (refine at_dst (N := 28) rfl ?_; refine stop ?_)
    refine ⟨?_⟩
    refine at_op rfl fun K hK => ?_
    refine op_call (HU.out g A c w3 w4 HS4.out) Try.func26 (by kernel_rfl) rfl rfl ?hargs ?_
    case hargs => (try simp only [List.map_toArray, List.map_cons, List.map_nil]); first | done | rfl
    rintro e w5 ⟨rfl, h⟩
    refine ⟨_, rfl, ?_⟩
    refine hK _ _ ?_
    clear hK K
    have HS5 := Asi.mk h
    clear h HS4 HU
    go_wp2_with (refine at_dst (N := 35) rfl ?_; refine stop ?_)
    refine ⟨?_⟩
    refine at_op rfl fun K hK => ?_
    refine op_call (HT.out g A c w3 w5 HS5.out) Try.func28 (by kernel_rfl) rfl rfl ?hargs ?_
    case hargs => (try simp only [List.map_toArray, List.map_cons, List.map_nil]); first | done | rfl
    rintro e w6 ⟨rfl, h⟩
    refine ⟨_, rfl, ?_⟩
    refine hK _ _ ?_
    clear hK K
    have HS6 := Asi.mk h
    clear h HS5 HT
    go_wp2_with (refine at_dst (N := 56) rfl ?_; refine stop ?_)
    refine ⟨?_⟩
    refine at_opG rfl fun K hK => ?_
    refine op_call (HLF.out g A c w3 w6 HS6.out) Try.func27 (by kernel_rfl) rfl rfl ?hargs ?_
    case hargs => (try simp only [List.map_toArray, List.map_cons, List.map_nil]); first | done | rfl
    rintro e w7 ⟨rfl, m, rfl⟩
    refine ⟨_, rfl, ?_⟩
    refine hK _ _ ?_
    clear hK K
    have HS7 := Asi.mk (HS6.out.drewN m)
    clear HS6 HLF
    go_wp2_with (refine at_dst (N := 62) rfl ?_; refine stop ?_)
    refine ⟨?_⟩
    refine at_opG rfl fun K hK => ?_
    refine op_call (lives1_calls _) Try.func13 (by kernel_rfl) rfl rfl ?hargs ?_
    case hargs => (try simp only [List.map_toArray, List.map_cons, List.map_nil]); first | done | rfl
    rintro e w8 ⟨rfl, h⟩
    refine ⟨_, rfl, ?_⟩
    refine hK _ _ ?_
    clear hK K
    have HS8 := Asi.mk (HS7.out.step h.below)
    clear h HS7
    go_wp2
    go_ret
    exact ⟨rfl, (HB4.out.trans (HS8.out.below.mono HB4.out.size))⟩
end Go.Proofs.Ytahecnlglcfddaa
