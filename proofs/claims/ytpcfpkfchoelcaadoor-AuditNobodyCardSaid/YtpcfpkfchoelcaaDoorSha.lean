/- SHA-256 by numbers: what the program's own words do. Plain. -/
import Derived.Test.YtpcfpkfchoelcaaDoorLogK
set_option linter.unusedVariables false
set_option linter.unusedSimpArgs false
namespace Go.L
open Go.RowKit
structure S8 where
  (a b c d e f g h : Nat)
def S8.l (s : S8) : List Nat := [s.a, s.b, s.c, s.d, s.e, s.f, s.g, s.h]
@[simp] theorem S8.len (s : S8) : s.l.length = 8 := rfl
def ror (x n : Nat) : Nat := or32 (shl32 x (32 - n)) (shr32 x n)
def b32 (b : List UInt8) (i : Nat) : Nat := (b.getD i 0).toNat % 4294967296
def wd (b : List UInt8) (t : Nat) : Nat := or32 (or32 (or32 (shl32 (b32 b (4 * t)) 24) (shl32 (b32 b (4 * t + 1)) 16)) (shl32 (b32 b (4 * t + 2)) 8)) (b32 b (4 * t + 3))
def ws16 (b : List UInt8) (t : Nat) : List Nat := (List.range t).map (wd b) ++ List.replicate (64 - t) 0
def sg0 (y : Nat) : Nat := xor32 (xor32 (ror y 7) (ror y 18)) (shr32 y 3)
def sg1 (x : Nat) : Nat := xor32 (xor32 (ror x 17) (ror x 19)) (shr32 x 10)
def nx (w : List Nat) (t : Nat) : Nat := add32 (add32 (add32 (sg1 (w.getD (t - 2) 0)) (w.getD (t - 7) 0)) (sg0 (w.getD (t - 15) 0))) (w.getD (t - 16) 0)
def sch (b : List UInt8) : Nat → List Nat
  | 0 => ws16 b 16
  | k + 1 => (sch b k).set (k + 16) (nx (sch b k) (k + 16))
def rx (k w : Nat) (s : S8) : Nat := add32 (add32 (add32 (add32 s.h (xor32 (xor32 (ror s.e 6) (ror s.e 11)) (ror s.e 25))) (xor32 (and32 s.e s.f) (and32 (not32 s.e) s.g))) k) w
def ry (s : S8) : Nat := add32 (xor32 (xor32 (ror s.a 2) (ror s.a 13)) (ror s.a 22)) (xor32 (xor32 (and32 s.a s.b) (and32 s.a s.c)) (and32 s.b s.c))
def rnd (k w : Nat) (s : S8) : S8 := ⟨add32 (rx k w s) (ry s), s.a, s.b, s.c, add32 s.d (rx k w s), s.e, s.f, s.g⟩
def rs (K W : List Nat) (s : S8) : Nat → S8
  | 0 => s
  | t + 1 => rnd (K.getD t 0) (W.getD t 0) (rs K W s t)
def mixL (A S : S8) (i : Nat) : List Nat := (List.zipWith add32 A.l S.l).take i ++ A.l.drop i
def mix (A S : S8) : S8 := ⟨add32 A.a S.a, add32 A.b S.b, add32 A.c S.c, add32 A.d S.d, add32 A.e S.e, add32 A.f S.f, add32 A.g S.g, add32 A.h S.h⟩
def Kw : List Nat := [1116352408, 1899447441, 3049323471, 3921009573, 961987163, 1508970993, 2453635748, 2870763221, 3624381080, 310598401, 607225278, 1426881987, 1925078388, 2162078206, 2614888103, 3248222580, 3835390401, 4022224774, 264347078, 604807628, 770255983, 1249150122, 1555081692, 1996064986, 2554220882, 2821834349, 2952996808, 3210313671, 3336571891, 3584528711, 113926993, 338241895, 666307205, 773529912, 1294757372, 1396182291, 1695183700, 1986661051, 2177026350, 2456956037, 2730485921, 2820302411, 3259730800, 3345764771, 3516065817, 3600352804, 4094571909, 275423344, 430227734, 506948616, 659060556, 883997877, 958139571, 1322822218, 1537002063, 1747873779, 1955562222, 2024104815, 2227730452, 2361852424, 2428436474, 2756734187, 3204031479, 3329325298]
def blk (s : S8) (b : List UInt8) : S8 := mix (rs Kw (sch b 48) s 64) s
def st0 : S8 := ⟨1779033703, 3144134277, 1013904242, 2773480762, 1359893119, 2600822924, 528734635, 1541459225⟩
@[simp] theorem ws16_len (b : List UInt8) (t : Nat) (h : t ≤ 64) : (ws16 b t).length = 64 := by simp [ws16]; omega
@[simp] theorem sch_len (b : List UInt8) : ∀ k, (sch b k).length = 64
  | 0 => ws16_len b 16 (by omega)
  | k + 1 => by rw [sch, List.length_set]; exact sch_len b k
@[simp] theorem Kw_len : Kw.length = 64 := rfl
theorem ws16_set (b : List UInt8) (t : Nat) (h : t < 64) : (ws16 b t).set t (wd b t) = ws16 b (t + 1) := by
  unfold ws16
  rw [List.set_append_right _ _ (by simp)]
  simp only [List.length_map, List.length_range, Nat.sub_self]
  rw [show 64 - t = (64 - (t + 1)) + 1 by omega, List.replicate_succ, List.set_cons_zero, List.range_succ, List.map_append]
  simp
@[simp] theorem mix_len (A S : S8) (i : Nat) (h : i ≤ 8) : (mixL A S i).length = 8 := by simp [mixL, S8.l]; omega
theorem mix_set (A S : S8) (i : Nat) (h : i < 8) : (mixL A S i).set i (add32 ((mixL A S i).getD i 0) (S.l.getD i 0)) = mixL A S (i + 1) := by
  rcases (by omega : i = 0 ∨ i = 1 ∨ i = 2 ∨ i = 3 ∨ i = 4 ∨ i = 5 ∨ i = 6 ∨ i = 7) with rfl | rfl | rfl | rfl | rfl | rfl | rfl | rfl <;> rfl
theorem mix_end (A S : S8) : mixL A S 8 = (mix A S).l := rfl
theorem or32_comm (a b : Nat) : or32 a b = or32 b a := by rw [or32, or32, Nat.or_comm]
/-- The bytes of a digest. -/
def ob (s : S8) (i : Nat) : Nat := shr32 (s.l.getD (i / 4) 0) (24 - i % 4 * 8) % 256
def obs (s : S8) (i : Nat) : List Nat := (List.range i).map (ob s) ++ List.replicate (32 - i) 0
@[simp] theorem obs_len (s : S8) (i : Nat) (h : i ≤ 32) : (obs s i).length = 32 := by simp [obs]; omega
theorem obs_set (s : S8) (t : Nat) (h : t < 32) : (obs s t).set t (ob s t) = obs s (t + 1) := by
  unfold obs
  rw [List.set_append_right _ _ (by simp)]
  simp only [List.length_map, List.length_range, Nat.sub_self]
  rw [show 32 - t = (32 - (t + 1)) + 1 by omega, List.replicate_succ, List.set_cons_zero, List.range_succ, List.map_append]
  simp
/-- So many blocks. -/
def eat : Nat → S8 → List UInt8 → S8
  | 0, s, _ => s
  | k + 1, s, m => eat k (blk s (m.take 64)) (m.drop 64)
theorem eat_add : ∀ (k j : Nat) (s : S8) (x y : List UInt8), x.length = 64 * k → eat (k + j) s (x ++ y) = eat j (eat k s x) y
  | 0, j, s, x, y, h => by
    obtain rfl : x = [] := List.eq_nil_of_length_eq_zero (by omega)
    simp [eat]
  | k + 1, j, s, x, y, h => by
    rw [show k + 1 + j = (k + j) + 1 by omega, eat, eat, List.take_append_of_le_length (by omega), List.drop_append_of_le_length (by omega), eat_add k j _ _ _ (by simp; omega)]
theorem eat_snoc : ∀ (j : Nat) (s : S8) (m : List UInt8), eat (j + 1) s m = blk (eat j s m) ((m.drop (64 * j)).take 64)
  | 0, s, m => by simp [eat]
  | j + 1, s, m => by
    rw [eat, eat_snoc j (blk s (m.take 64)) (m.drop 64), List.drop_drop, show eat (j + 1) s m = eat j (blk s (m.take 64)) (m.drop 64) from rfl, show 64 + 64 * j = 64 * (j + 1) by omega]
/-- What is laid behind the bytes. -/
def zs (n : Nat) : Nat := (119 - n % 64) % 64
def be8 (n : Nat) : Nat → List UInt8
  | 0 => []
  | j + 1 => be8 n j ++ [UInt8.ofNat (n / 2 ^ (8 * (7 - j)))]
def pad (rest : List UInt8) (n : Nat) : List UInt8 := rest ++ [128] ++ List.replicate (zs rest.length) 0 ++ be8 n 8
@[simp] theorem be8_len (n : Nat) : ∀ j, (be8 n j).length = j
  | 0 => rfl
  | j + 1 => by simp [be8, be8_len n j]
@[simp] theorem pad_len (rest : List UInt8) (n : Nat) : (pad rest n).length = rest.length + 9 + zs rest.length := by simp [pad, be8_len]; omega
theorem pad_64 (rest : List UInt8) (n : Nat) : (pad rest n).length % 64 = 0 := by
  rw [pad_len]; unfold zs; omega
def fin (s : S8) (rest : List UInt8) (n : Nat) : List Nat := obs (eat ((pad rest n).length / 64) s (pad rest n)) 32
def sha (b : List UInt8) : List Nat := fin st0 b (b.length * 8)
/-- A digest that took bytes: the state, and what is left over. -/
def took (b : List UInt8) : S8 × List UInt8 := (eat (b.length / 64) st0 b, b.drop (64 * (b.length / 64)))
theorem eat_front (k : Nat) (s : S8) (x y : List UInt8) (h : x.length = 64 * k) : eat k s (x ++ y) = eat k s x := by
  have := eat_add k 0 s x y h
  simpa [eat] using this
theorem fin_took (b : List UInt8) : fin (took b).1 (took b).2 (b.length * 8) = sha b := by
  unfold sha fin took
  have hl : 64 * (b.length / 64) ≤ b.length := by omega
  have hz : zs (b.drop (64 * (b.length / 64))).length = zs b.length := by simp [zs]; omega
  have hp : pad b (b.length * 8) = b.take (64 * (b.length / 64)) ++ pad (b.drop (64 * (b.length / 64))) (b.length * 8) := by
    unfold pad
    rw [hz]
    simp only [← List.append_assoc, List.take_append_drop]
  have e1 : eat (b.length / 64) st0 b = eat (b.length / 64) st0 (b.take (64 * (b.length / 64))) := by
    have := eat_front (b.length / 64) st0 (b.take (64 * (b.length / 64))) (b.drop (64 * (b.length / 64))) (by rw [List.length_take]; omega)
    rwa [List.take_append_drop] at this
  have h2 : (pad b (b.length * 8)).length / 64 = b.length / 64 + (pad (b.drop (64 * (b.length / 64))) (b.length * 8)).length / 64 := by
    rw [pad_len, pad_len, hz, List.length_drop]
    omega
  rw [h2, hp, eat_add _ _ _ _ _ (by simp; omega), ← e1]
theorem drop_app (k j : Nat) (x y : List UInt8) (h : x.length = 64 * k) : (x ++ y).drop (64 * (k + j)) = y.drop (64 * j) := by
  rw [List.drop_append, List.drop_eq_nil_of_le (by omega), List.nil_append]
  congr 1
  omega
theorem took_app (a b : List UInt8) : (eat (((took a).2 ++ b).length / 64) (took a).1 ((took a).2 ++ b), ((took a).2 ++ b).drop (64 * (((took a).2 ++ b).length / 64))) = took (a ++ b) := by
  unfold took
  have hl : 64 * (a.length / 64) ≤ a.length := by omega
  have e1 : eat (a.length / 64) st0 a = eat (a.length / 64) st0 (a.take (64 * (a.length / 64))) := by
    have := eat_front (a.length / 64) st0 (a.take (64 * (a.length / 64))) (a.drop (64 * (a.length / 64))) (by rw [List.length_take]; omega)
    rwa [List.take_append_drop] at this
  have hx : a ++ b = a.take (64 * (a.length / 64)) ++ (a.drop (64 * (a.length / 64)) ++ b) := by rw [← List.append_assoc, List.take_append_drop]
  have hn : (a ++ b).length / 64 = a.length / 64 + (a.drop (64 * (a.length / 64)) ++ b).length / 64 := by simp; omega
  have hp : (a.take (64 * (a.length / 64))).length = 64 * (a.length / 64) := by simp; omega
  refine Prod.ext ?_ ?_
  · show eat _ _ _ = eat _ _ _
    rw [hn, e1]
    conv => rhs; rw [hx]
    exact (eat_add _ _ _ _ _ hp).symm
  · show List.drop _ _ = List.drop _ _
    rw [hn]
    conv => rhs; rw [hx]
    rw [drop_app _ _ _ _ hp]
theorem sha_empty : (sha []).getD 0 0 = 0xe3 ∧ (sha []).getD 31 0 = 0x55 := by decide +kernel
theorem sch_set (b : List UInt8) (k : Nat) : (sch b k).set (k + 16) (nx (sch b k) (k + 16)) = sch b (k + 1) := rfl
theorem sch_0 (b : List UInt8) : sch b 0 = ws16 b 16 := rfl
theorem rs_0 (K W : List Nat) (s : S8) : rs K W s 0 = s := rfl
theorem mix_0 (A S : S8) : mixL A S 0 = A.l := rfl
theorem rs_step (K W : List Nat) (s : S8) (t : Nat) : rnd (K.getD t 0) (W.getD t 0) (rs K W s t) = rs K W s (t + 1) := rfl
theorem ws16_0 (b : List UInt8) : ws16 b 0 = List.replicate 64 0 := rfl
theorem obs_0 (s : S8) : obs s 0 = List.replicate 32 0 := rfl
theorem or_add (k x y : Nat) (hy : y < 2 ^ k) (h : 2 ^ k * x + y < 4294967296) : or32 (2 ^ k * x) y = 2 ^ k * x + y := by rw [or32, ← Nat.two_pow_add_eq_or_of_lt hy, Nat.mod_eq_of_lt h]
theorem b32_lt (b : List UInt8) (i : Nat) : b32 b i < 256 := by
  have := (b.getD i 0).toNat_lt
  unfold b32
  omega
theorem wd_add (b : List UInt8) (t : Nat) : add32 (add32 (add32 (shl32 (b32 b (4 * t)) 24) (shl32 (b32 b (4 * t + 1)) 16)) (shl32 (b32 b (4 * t + 2)) 8)) (b32 b (4 * t + 3)) = wd b t := by
  unfold wd
  have h0 := b32_lt b (4 * t)
  have h1 := b32_lt b (4 * t + 1)
  have h2 := b32_lt b (4 * t + 2)
  have h3 := b32_lt b (4 * t + 3)
  generalize b32 b (4 * t) = p at *
  generalize b32 b (4 * t + 1) = q at *
  generalize b32 b (4 * t + 2) = r at *
  generalize b32 b (4 * t + 3) = u at *
  have e0 : shl32 p 24 = 2 ^ 24 * p := by unfold shl32; omega
  have e1 : shl32 q 16 = 2 ^ 16 * q := by unfold shl32; omega
  have e2 : shl32 r 8 = 2 ^ 8 * r := by unfold shl32; omega
  rw [e0, e1, e2, or_add 24 p (2 ^ 16 * q) (by omega) (by omega), show 2 ^ 24 * p + 2 ^ 16 * q = 2 ^ 16 * (2 ^ 8 * p + q) by omega, or_add 16 _ (2 ^ 8 * r) (by omega) (by omega),
    show 2 ^ 16 * (2 ^ 8 * p + q) + 2 ^ 8 * r = 2 ^ 8 * (2 ^ 16 * p + 2 ^ 8 * q + r) by omega, or_add 8 _ u (by omega) (by omega)]
  unfold add32
  omega
theorem len8 (a b c d e f g h : LV) (S : S8) : [a, b, c, d, e, f, g, h].length = (S.l.map u32).length := by rw [List.length_map, S8.len]; rfl
theorem rnd_c (k w : Nat) (S : S8) : putAt (S.l.map u32) 0 [u32 (add32 (rx k w S) (ry S)), u32 S.a, u32 S.b, u32 S.c, u32 (add32 S.d (rx k w S)), u32 S.e, u32 S.f, u32 S.g] = (rnd k w S).l.map u32 := (putAt_all (len8 _ _ _ _ _ _ _ _ S)).trans rfl
theorem b32_take (b : List UInt8) (i : Nat) (h : i < 64) : b32 (b.take 64) i = b32 b i := by simp [b32, List.getD_eq_getElem?_getD, List.getElem?_take, h]
theorem wd_take (b : List UInt8) (t : Nat) (h : t < 16) : wd (b.take 64) t = wd b t := by unfold wd; rw [b32_take _ _ (by omega), b32_take _ _ (by omega), b32_take _ _ (by omega), b32_take _ _ (by omega)]
theorem ws16_take (b : List UInt8) : ws16 (b.take 64) 16 = ws16 b 16 := by
  exact congrArg (· ++ List.replicate (64 - 16) 0) (List.map_congr_left fun t ht => wd_take b t (by simpa using ht))
theorem sch_take (b : List UInt8) : ∀ k, sch (b.take 64) k = sch b k
  | 0 => ws16_take b
  | k + 1 => by rw [sch, sch, sch_take b k]
theorem blk_take (s : S8) (b : List UInt8) : blk s (b.take 64) = blk s b := by
  have := sch_take b 48
  show mix (rs Kw (sch (b.take 64) 48) s 64) s = mix (rs Kw (sch b 48) s 64) s
  exact congrArg (fun z => mix (rs Kw z s 64) s) this
theorem eat_0 (s : S8) (m : List UInt8) : eat 0 s m = s := rfl
abbrev dgL (s : S8) (r z : LV) : List LV := [.raw (.bool true)] ++ s.l.map u32 ++ [r, z]
theorem dg_s (s s' : S8) (r z : LV) : putAt (dgL s r z) 1 (s'.l.map u32) = dgL s' r z := by simp [putAt, S8.l]
theorem dg_r (s : S8) (r z r' : LV) : putAt (dgL s r z) 9 [r'] = dgL s r' z := by simp [putAt, S8.l]
theorem dg_z (s : S8) (r z z' : LV) : putAt (dgL s r z) 10 [z'] = dgL s r z' := by simp [putAt, S8.l]
attribute [irreducible] sch rs eat ws16 obs mixL
end Go.L
