/- What the functions of the package frame, and of its reference, come to. -/
import Derived.Test.YtahecnlglcfddaaProg
import Derived.Test.YtahecnlglcfddaaNum
set_option linter.unusedVariables false
set_option linter.unusedSimpArgs false
namespace Go.Proofs.Ytahecnlglcfddaa
open Go.RowKit Go.Sep

theorem info5 : (Try.prog.info? 5).map (fun i => (i.zero, i.size, i.bytes)) = some (some (.int .u8 0), 1, 1) := by kernel_rfl

/-! ### the sum -/
def bit (x : Nat) : Nat := if x % 2 = 1 then (x / 2) ^^^ 3988292384 else x / 2
def bitN : Nat → Nat → Nat
  | 0, x => x
  | j + 1, x => bit (bitN j x)
def crcStep (x : Nat) (c : Int) : Nat := bitN 8 (x ^^^ c.toNat)
def crcFrom (x : Nat) (l : List Int) : Nat := l.foldl crcStep x
def crc (l : List Int) : Nat := crcFrom 4294967295 l ^^^ 4294967295
theorem bit_lt (x : Nat) (h : x < 4294967296) : bit x < 4294967296 := by
  unfold bit
  split
  · exact xlt32 (by omega) (by omega)
  · omega
theorem bitN_lt (j x : Nat) (h : x < 4294967296) : bitN j x < 4294967296 := by
  induction j with
  | zero => exact h
  | succ j ih => exact bit_lt _ ih
theorem step_lt (x : Nat) (c : Int) (h : x < 4294967296) (hc : 0 ≤ c ∧ c < 256) : crcStep x c < 4294967296 := bitN_lt _ _ (xlt32 h (by omega))
theorem from_lt (l : List Int) : ∀ (x : Nat), x < 4294967296 → Byts l → crcFrom x l < 4294967296 := by
  induction l with
  | nil => exact fun x h _ => h
  | cons c l ih => exact fun x h hl => ih _ (step_lt x c h (hl c (by simp))) (fun y hy => hl y (by simp [hy]))
theorem from_snoc (x : Nat) (l : List Int) (c : Int) : crcFrom x (l ++ [c]) = crcStep (crcFrom x l) c := by simp [crcFrom]
theorem crc_lt (l : List Int) (h : Byts l) : crc l < 4294967296 := xlt32 (from_lt l _ (by omega) h) (by omega)

set_option maxHeartbeats 1000000 in
theorem sum_calls (A : Option Addr) (n c : Nat) (l : List Int) (w : World) (HR : Rd w 1 A n (ints .u8 l)) (hb : Byts l) (hl : n ≤ 100000000) :
    Calls Try.prog 20 #[.slice A n c] w fun e w' => e = .returned (.int .u32 (crc l)) ∧ w = w' := by
  obtain rfl := rd_len HR
  have HR := Asi.mk HR
  have HB := Asi.mk hb
  clear hb
  go_enter Try.func20, Try.ntmps20
  go_wp2
  go_loopg [3, 8] l.length (fun g x i wr => ∃ k : Nat, k ≤ l.length ∧ g = l.length - k ∧ w = wr ∧ i = .int .i64 k ∧ x = .int .u32 (crcFrom 4294967295 (l.take k)))
  case atStart => exact ⟨0, Nat.zero_le _, rfl, rfl, rfl, rfl⟩
  case round =>
    obtain ⟨k, hk, rfl, rfl, rfl, rfl⟩ := hrel
    have hx := from_lt (l.take k) 4294967295 (by omega) (HB.out.take k)
    have HS := Asi.mk (from_snoc 4294967295 (l.take k))
    have HE := Asi.mk (show k = l.length → crcFrom 4294967295 (l.take k) = crcFrom 4294967295 l from fun e => by rw [e, List.take_length])
    generalize crcFrom 4294967295 (l.take k) = y at hx HS HE
    by_cases hlt : k < l.length
    · obtain ⟨ad, e, hc⟩ := rd_at HR.out hlt
      subst e
      obtain ⟨c0, hc0, hc1⟩ := HB.out.get k hlt
      have HT := Asi.mk (take_snoc l k hlt)
      have HC := Asi.mk hc0
      rw [hc0] at hc
      clear hc0
      have hxor := xor32 y c0 hx (by omega)
      have hz : y ^^^ c0 < 4294967296 := xlt32 hx (by omega)
      go_wp2
      clear hxor hc hx
      generalize hzz : y ^^^ c0 = z at hz
      have HZ := Asi.mk hzz
      clear hzz
      go_loopg [3, 16] 8 (fun g x j wr => ∃ m : Nat, m ≤ 8 ∧ g = 8 - m ∧ w = wr ∧ j = .int .i64 m ∧ x = .int .u32 (bitN m z))
      case atStart => exact ⟨0, Nat.zero_le _, rfl, rfl, rfl, rfl⟩
      case round =>
        obtain ⟨m, hm, rfl, rfl, rfl, rfl⟩ := hrel
        have hb1 := bitN_lt m z hz
        have HN := Asi.mk (show bitN (m + 1) z = bit (bitN m z) from rfl)
        have HM := Asi.mk (show m = 8 → bitN m z = bitN 8 z from fun e => by rw [e])
        generalize bitN m z = q at hb1 HN HM
        by_cases hm8 : m < 8
        · have hand : Go.bits .and .u32 (q : Int) 1 = ((q &&& 1 : Nat) : Int) := and32 q 1 hb1 (by omega)
          rw [Nat.and_one_is_mod] at hand
          have hx2 : Go.bits .xor .u32 ((q : Int) / 2) 3988292384 = ((q / 2 ^^^ 3988292384 : Nat) : Int) := xor32 (q / 2) 3988292384 (by omega) (by omega)
          by_cases hq : q % 2 = 1
          · have HQ := Asi.mk (show bit q = q / 2 ^^^ 3988292384 by unfold bit; rw [if_pos hq])
            rw [hq, show ((1 : Nat) : Int) = 1 from rfl] at hand
            clear hq
            go_wp2
            go_roundg (8 - (m + 1))
            case measure => omega
            case rel => exact ⟨m + 1, by omega, rfl, rfl, by go_num, by rw [HN.out, HQ.out]⟩
          · have HQ := Asi.mk (show bit q = q / 2 by unfold bit; rw [if_neg hq])
            rw [show q % 2 = 0 by omega, show ((0 : Nat) : Int) = 0 from rfl] at hand
            clear hq
            go_wp2
            go_roundg (8 - (m + 1))
            case measure => omega
            case rel => exact ⟨m + 1, by omega, rfl, rfl, by go_num, by rw [HN.out, HQ.out]; go_num⟩
        · have HE8 := Asi.mk (HM.out (by omega))
          go_wp2
          go_roundg (l.length - (k + 1))
          case measure => omega
          case rel => exact ⟨k + 1, by omega, rfl, rfl, by go_num, by rw [HT.out, HS.out, HC.out, HE8.out, ← HZ.out]; rfl⟩
    · have HE8 := Asi.mk (HE.out (by omega))
      have hxor : Go.bits .xor .u32 IntKind.u32.max (y : Int) = ((4294967295 ^^^ y : Nat) : Int) := xor32 4294967295 y (by omega) hx
      go_wp2
      go_ret
      refine ⟨?_, rfl⟩
      rw [crc, ← HE8.out, Nat.xor_comm]
      first | rfl | simp

set_option maxHeartbeats 1000000 in
theorem rsum_calls (A : Option Addr) (n c : Nat) (l : List Int) (w : World) (HR : Rd w 1 A n (ints .u8 l)) (hb : Byts l) (hl : n ≤ 100000000) :
    Calls Try.prog 21 #[.slice A n c] w fun e w' => e = .returned (.int .u32 (crc l)) ∧ w = w' := by
  obtain rfl := rd_len HR
  have HR := Asi.mk HR
  have HB := Asi.mk hb
  clear hb
  go_enter Try.func21, Try.ntmps21
  go_wp2
  go_loopg [3, 4] l.length (fun g x i wr => ∃ k : Nat, k ≤ l.length ∧ g = l.length - k ∧ w = wr ∧ i = .int .i64 k ∧ x = .int .u32 (crcFrom 4294967295 (l.take k)))
  case atStart => exact ⟨0, Nat.zero_le _, rfl, rfl, rfl, rfl⟩
  case round =>
    obtain ⟨k, hk, rfl, rfl, rfl, rfl⟩ := hrel
    have hx := from_lt (l.take k) 4294967295 (by omega) (HB.out.take k)
    have HS := Asi.mk (from_snoc 4294967295 (l.take k))
    have HE := Asi.mk (show k = l.length → crcFrom 4294967295 (l.take k) = crcFrom 4294967295 l from fun e => by rw [e, List.take_length])
    generalize crcFrom 4294967295 (l.take k) = y at hx HS HE
    by_cases hlt : k < l.length
    · obtain ⟨ad, e, hc⟩ := rd_at HR.out hlt
      subst e
      obtain ⟨c0, hc0, hc1⟩ := HB.out.get k hlt
      have HT := Asi.mk (take_snoc l k hlt)
      have HC := Asi.mk hc0
      rw [hc0] at hc
      clear hc0
      have hxor := xor32 y c0 hx (by omega)
      have hz : y ^^^ c0 < 4294967296 := xlt32 hx (by omega)
      go_wp2
      clear hxor hc hx
      generalize hzz : y ^^^ c0 = z at hz
      have HZ := Asi.mk hzz
      clear hzz
      go_loopg [3, 5] 8 (fun g x j wr => ∃ m : Nat, m ≤ 8 ∧ g = 8 - m ∧ w = wr ∧ j = .int .i64 m ∧ x = .int .u32 (bitN m z))
      case atStart => exact ⟨0, Nat.zero_le _, rfl, rfl, rfl, rfl⟩
      case round =>
        obtain ⟨m, hm, rfl, rfl, rfl, rfl⟩ := hrel
        have hb1 := bitN_lt m z hz
        have HN := Asi.mk (show bitN (m + 1) z = bit (bitN m z) from rfl)
        have HM := Asi.mk (show m = 8 → bitN m z = bitN 8 z from fun e => by rw [e])
        generalize bitN m z = q at hb1 HN HM
        by_cases hm8 : m < 8
        · have hx2 : Go.bits .xor .u32 ((q : Int) / 2) 3988292384 = ((q / 2 ^^^ 3988292384 : Nat) : Int) := xor32 (q / 2) 3988292384 (by omega) (by omega)
          by_cases hq : q % 2 = 1
          · have HQ := Asi.mk (show bit q = q / 2 ^^^ 3988292384 by unfold bit; rw [if_pos hq])
            have hmod : ((q : Int) % 2) = 1 := by omega
            clear hq
            go_wp2
            go_roundg (8 - (m + 1))
            case measure => omega
            case rel => exact ⟨m + 1, by omega, rfl, rfl, by go_num, by rw [HN.out, HQ.out]⟩
          · have HQ := Asi.mk (show bit q = q / 2 by unfold bit; rw [if_neg hq])
            have hmod : ((q : Int) % 2) = 0 := by omega
            clear hq
            go_wp2
            go_roundg (8 - (m + 1))
            case measure => omega
            case rel => exact ⟨m + 1, by omega, rfl, rfl, by go_num, by rw [HN.out, HQ.out]; go_num⟩
        · have HE8 := Asi.mk (HM.out (by omega))
          go_wp2
          go_roundg (l.length - (k + 1))
          case measure => omega
          case rel => exact ⟨k + 1, by omega, rfl, rfl, by go_num, by rw [HT.out, HS.out, HC.out, HE8.out, ← HZ.out]; rfl⟩
    · have HE8 := Asi.mk (HE.out (by omega))
      have hxor : Go.bits .xor .u32 (y : Int) 4294967295 = ((y ^^^ 4294967295 : Nat) : Int) := xor32 y 4294967295 hx (by omega)
      go_wp2
      go_ret
      refine ⟨?_, rfl⟩
      rw [crc, ← HE8.out]
      first | rfl | simp

/-! ### frames -/
def four (n : Int) : List Int := [n / 16777216, (n / 65536) % 256, (n / 256) % 256, n % 256]
theorem four_byts (n : Int) (h0 : 0 ≤ n) (h1 : n < 4294967296) : Byts (four n) := by
  intro x hx
  simp only [four, List.mem_cons, List.not_mem_nil, or_false] at hx
  omega
set_option maxHeartbeats 1000000 in
theorem four_calls (v : Value) (m : Nat) (cs : List Value) (n : Int) (h0 : 0 ≤ n) (h1 : n < 4294967296) (w0 w : World) (R : HP) (HS : Sts w0 w (star (row 5 1 v m cs) R)) (hm : m ≤ 100000000) :
    Calls Try.prog 36 #[v, .int .u32 n] w fun e w' => ∃ v', e = .returned v' ∧ Sts w0 w' (star (row 5 1 v' (m + 4) (cs ++ ints .u8 (four n))) R) := by
  have HS := Asi.mk HS
  go_enter Try.func36, Try.ntmps36
  go_wp2_with (refine at_dst (N := 17) rfl ?_; refine stop ?_)
  refine ⟨?_⟩
  refine at_op rfl fun K hK => ?_
  refine op_lit HS.out 5 1 4 (ints .u8 (four n)) (by first | (go_simp; done) | (go_simp; rfl) | (go_simp; simp [ints]; done)) (by first | rfl | simp [ints]) (by omega) ?_
  intro v1 w1 h
  refine hK _ _ ?_
  clear hK K
  have HS1 := Asi.mk h
  clear h HS
  obtain ⟨A1, c1, e1, _, hr1⟩ := HS1.out.row_rd
  subst e1
  have HR1 := Asi.mk hr1
  clear hr1
  go_wp2_with (refine at_dst (N := 18) rfl ?_; refine stop ?_)
  refine ⟨?_⟩
  refine at_op rfl fun K hK => ?_
  refine op_append 1 1 v m cs 5 HS1.out.swap (.tmp 5) (.tmp 17) 22 _ rfl Try.underlying22 info5 rfl (by omega) rfl A1 4 c1 (ints .u8 (four n)) rfl HR1.out (ints_one _ _) (by omega) (by omega) ?_
  intro v2 w2 h
  refine hK _ _ ?_
  clear hK K
  have HS2 := Asi.mk h
  clear h HS1 HR1
  go_wp2
  go_ret
  exact ⟨_, rfl, HS2.out.drop2⟩
def frame (l : List Int) : List Int := four l.length ++ four (crc (four l.length)) ++ l ++ four (crc l)
end Go.Proofs.Ytahecnlglcfddaa
