/- Numbers of four bytes; what frames are read as. -/
import Derived.Test.YtahecnlglcfddaaFrameD
import Derived.Deep.QuietTactic
set_option linter.unusedVariables false
set_option linter.unusedSimpArgs false
namespace Go.Proofs.Ytahecnlglcfddaa
open Go.RowKit Go.Sep

/-- The number that four bytes tell. -/
def numB : List Int → Nat
  | b0 :: b1 :: b2 :: b3 :: _ => b0.toNat * 16777216 + b1.toNat * 65536 + b2.toNat * 256 + b3.toNat
  | _ => 0
theorem numB_lt (l : List Int) (h : Byts l) : numB l < 4294967296 := by
  match l with
  | [] | [_] | [_, _] | [_, _, _] => simp [numB]
  | b0 :: b1 :: b2 :: b3 :: r =>
    have h0 := h b0 (by simp)
    have h1 := h b1 (by simp)
    have h2 := h b2 (by simp)
    have h3 := h b3 (by simp)
    simp only [numB]
    omega
theorem cells4 {w : World} {A : Option Addr} {n : Nat} {l : List Int} (h : Rd w 1 A n (ints .u8 l)) (hb : Byts l) (hn : 4 ≤ n) :
    ∃ (ad : Addr) (z0 z1 z2 z3 : Nat) (r : List Int), A = some ad ∧ l = (z0 : Int) :: (z1 : Int) :: (z2 : Int) :: (z3 : Int) :: r ∧ z0 < 256 ∧ z1 < 256 ∧ z2 < 256 ∧ z3 < 256 ∧ w.cell? ad = some (.int .u8 z0) ∧ w.cell? { block := ad.block, off := ad.off + 1 } = some (.int .u8 z1) ∧ w.cell? { block := ad.block, off := ad.off + 2 } = some (.int .u8 z2) ∧ w.cell? { block := ad.block, off := ad.off + 3 } = some (.int .u8 z3) := by
  have hl := rd_len h
  match l, hl with
  | [], hl | [_], hl | [_, _], hl | [_, _, _], hl => simp at hl; omega
  | b0 :: b1 :: b2 :: b3 :: r, hl =>
    obtain ⟨ad, e, c0⟩ := rd_at h (i := 0) (by simp)
    obtain ⟨ad1, e1, c1⟩ := rd_at h (i := 1) (by simp)
    obtain ⟨ad2, e2, c2⟩ := rd_at h (i := 2) (by simp)
    obtain ⟨ad3, e3, c3⟩ := rd_at h (i := 3) (by simp)
    rw [e] at e1 e2 e3
    injection e1 with e1
    injection e2 with e2
    injection e3 with e3
    subst e1
    subst e2
    subst e3
    have h0 := hb b0 (by simp)
    have h1 := hb b1 (by simp)
    have h2 := hb b2 (by simp)
    have h3 := hb b3 (by simp)
    obtain ⟨z0, rfl⟩ := Int.eq_ofNat_of_zero_le h0.1
    obtain ⟨z1, rfl⟩ := Int.eq_ofNat_of_zero_le h1.1
    obtain ⟨z2, rfl⟩ := Int.eq_ofNat_of_zero_le h2.1
    obtain ⟨z3, rfl⟩ := Int.eq_ofNat_of_zero_le h3.1
    simp [Addr.add] at c0 c1 c2 c3
    exact ⟨ad, z0, z1, z2, z3, r, e, rfl, by omega, by omega, by omega, by omega, c0, c1, c2, c3⟩

theorem wrap_u32 (n : Nat) (h : n < 4294967296) : IntKind.u32.wrap (n : Int) = n := wrap_nat .u32 rfl n h
theorem num_or (z0 z1 z2 z3 : Nat) (h0 : z0 < 256) (h1 : z1 < 256) (h2 : z2 < 256) (h3 : z3 < 256) :
    Go.bits .or .u32 (Go.bits .or .u32 (Go.bits .or .u32 (IntKind.u32.wrap (IntKind.u32.wrap z0 * 16777216)) (IntKind.u32.wrap (IntKind.u32.wrap z1 * 65536))) (IntKind.u32.wrap (IntKind.u32.wrap z2 * 256))) (IntKind.u32.wrap z3) = ((z0 * 16777216 + z1 * 65536 + z2 * 256 + z3 : Nat) : Int) := by
  rw [wrap_u32 z0 (by omega), wrap_u32 z1 (by omega), wrap_u32 z2 (by omega), wrap_u32 z3 (by omega)]
  rw [show (z0 : Int) * 16777216 = ((z0 * 16777216 : Nat) : Int) by omega, show (z1 : Int) * 65536 = ((z1 * 65536 : Nat) : Int) by omega, show (z2 : Int) * 256 = ((z2 * 256 : Nat) : Int) by omega]
  rw [wrap_u32 _ (by omega), wrap_u32 _ (by omega), wrap_u32 _ (by omega)]
  have e1 : z0 * 16777216 ||| z1 * 65536 = z0 * 16777216 + z1 * 65536 := by
    have := Nat.two_pow_add_eq_or_of_lt (i := 24) (b := z1 * 65536) (by omega) z0
    rw [Nat.mul_comm z0]
    exact this.symm
  have e2 : (z0 * 16777216 + z1 * 65536) ||| z2 * 256 = z0 * 16777216 + z1 * 65536 + z2 * 256 := by
    have := Nat.two_pow_add_eq_or_of_lt (i := 16) (b := z2 * 256) (by omega) (z0 * 256 + z1)
    rw [show z0 * 16777216 + z1 * 65536 = 2 ^ 16 * (z0 * 256 + z1) by omega]
    exact this.symm
  have e3 : (z0 * 16777216 + z1 * 65536 + z2 * 256) ||| z3 = z0 * 16777216 + z1 * 65536 + z2 * 256 + z3 := by
    have := Nat.two_pow_add_eq_or_of_lt (i := 8) (b := z3) (by omega) (z0 * 65536 + z1 * 256 + z2)
    rw [show z0 * 16777216 + z1 * 65536 + z2 * 256 = 2 ^ 8 * (z0 * 65536 + z1 * 256 + z2) by omega]
    exact this.symm
  rw [or32 _ _ (by omega) (by omega), e1, or32 _ _ (by omega) (by omega), e2, or32 _ _ (by omega) (by omega), e3]
theorem num_add (z0 z1 z2 z3 : Nat) (h0 : z0 < 256) (h1 : z1 < 256) (h2 : z2 < 256) (h3 : z3 < 256) :
    IntKind.u32.wrap (IntKind.u32.wrap (IntKind.u32.wrap (IntKind.u32.wrap (IntKind.u32.wrap z0 * 16777216) + IntKind.u32.wrap (IntKind.u32.wrap z1 * 65536)) + IntKind.u32.wrap (IntKind.u32.wrap z2 * 256)) + IntKind.u32.wrap z3) = ((z0 * 16777216 + z1 * 65536 + z2 * 256 + z3 : Nat) : Int) := by
  rw [wrap_u32 z0 (by omega), wrap_u32 z1 (by omega), wrap_u32 z2 (by omega), wrap_u32 z3 (by omega)]
  rw [show (z0 : Int) * 16777216 = ((z0 * 16777216 : Nat) : Int) by omega, show (z1 : Int) * 65536 = ((z1 * 65536 : Nat) : Int) by omega, show (z2 : Int) * 256 = ((z2 * 256 : Nat) : Int) by omega]
  rw [wrap_u32 _ (by omega), wrap_u32 _ (by omega), wrap_u32 _ (by omega)]
  rw [← Int.natCast_add, wrap_u32 _ (by omega), ← Int.natCast_add, wrap_u32 _ (by omega), ← Int.natCast_add, wrap_u32 _ (by omega)]

set_option maxHeartbeats 1000000 in
theorem number4_calls (A : Option Addr) (n c : Nat) (l : List Int) (w : World) (HR : Rd w 1 A n (ints .u8 l)) (hb : Byts l) (hn : 4 ≤ n) (hn2 : n ≤ 100000000) :
    Calls Try.prog 38 #[.slice A n c] w fun e w' => e = .returned (.int .u32 (numB l)) ∧ ∃ m, w' = w.drewN m := by
  obtain ⟨ad, z0, z1, z2, z3, r, rfl, rfl, h0, h1, h2, h3, hc0, hc1, hc2, hc3⟩ := cells4 HR hb hn
  clear HR hb
  have hj0 : 0 < n := by omega
  have hj1 : 1 < n := by omega
  have hj2 : 2 < n := by omega
  have hj3 : 3 < n := by omega
  have hi0 : (0 : Int) < n := by omega
  have hi1 : (1 : Int) < n := by omega
  have hi2 : (2 : Int) < n := by omega
  have hi3 : (3 : Int) < n := by omega
  go_enter Try.func38, Try.ntmps38
  go_wp2
  go_quiet (fail)
  go_wp2
  go_ret
  exact ⟨congrArg (fun x => Ending.returned (Value.int .u32 x)) (num_or z0 z1 z2 z3 h0 h1 h2 h3), _, rfl⟩
set_option maxHeartbeats 1000000 in
theorem rnumber4_calls (A : Option Addr) (n c : Nat) (l : List Int) (w : World) (HR : Rd w 1 A n (ints .u8 l)) (hb : Byts l) (hn : 4 ≤ n) (hn2 : n ≤ 100000000) :
    Calls Try.prog 42 #[.slice A n c] w fun e w' => e = .returned (.int .u32 (numB l)) ∧ ∃ m, w' = w.drewN m := by
  obtain ⟨ad, z0, z1, z2, z3, r, rfl, rfl, h0, h1, h2, h3, hc0, hc1, hc2, hc3⟩ := cells4 HR hb hn
  clear HR hb
  have hj0 : 0 < n := by omega
  have hj1 : 1 < n := by omega
  have hj2 : 2 < n := by omega
  have hj3 : 3 < n := by omega
  have hi0 : (0 : Int) < n := by omega
  have hi1 : (1 : Int) < n := by omega
  have hi2 : (2 : Int) < n := by omega
  have hi3 : (3 : Int) < n := by omega
  go_enter Try.func42, Try.ntmps42
  go_wp2
  go_quiet (fail)
  go_wp2
  go_ret
  exact ⟨congrArg (fun x => Ending.returned (Value.int .u32 x)) (num_add z0 z1 z2 z3 h0 h1 h2 h3), _, rfl⟩
end Go.Proofs.Ytahecnlglcfddaa
