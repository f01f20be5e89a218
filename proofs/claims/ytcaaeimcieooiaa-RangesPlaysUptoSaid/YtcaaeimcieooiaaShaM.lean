/- SHA-256 in plain Lean: what program and reference are both shown to compute. -/
import Derived.Test.YtcaaeimcieooiaaBa
set_option linter.unusedVariables false
set_option linter.unusedSimpArgs false
namespace Go.Proofs.Ytcaaeimcieooiaa

def rot (x : UInt32) (n : Nat) : UInt32 := x >>> UInt32.ofNat n ||| x <<< UInt32.ofNat (32 - n)
def sg0 (x : UInt32) : UInt32 := rot x 7 ^^^ rot x 18 ^^^ x >>> 3
def sg1 (x : UInt32) : UInt32 := rot x 17 ^^^ rot x 19 ^^^ x >>> 10
def be4 (a b c d : UInt8) : UInt32 := 256 * (256 * (256 * (256 * 0 + a.toUInt32) + b.toUInt32) + c.toUInt32) + d.toUInt32
def word (b : List UInt8) (i : Nat) : UInt32 := be4 (b.getD (4 * i) 0) (b.getD (4 * i + 1) 0) (b.getD (4 * i + 2) 0) (b.getD (4 * i + 3) 0)
def nextW (ws : List UInt32) : UInt32 := ws.getD (ws.length - 16) 0 + ws.getD (ws.length - 7) 0 + sg0 (ws.getD (ws.length - 15) 0) + sg1 (ws.getD (ws.length - 2) 0)
def stepW (b : List UInt8) (ws : List UInt32) : List UInt32 := ws ++ [if ws.length < 16 then word b ws.length else nextW ws]
def schedN (b : List UInt8) : Nat → List UInt32
  | 0 => []
  | n + 1 => stepW b (schedN b n)
def sched (b : List UInt8) : List UInt32 := schedN b 64

structure S8 where
  (a b c d e f g h : UInt32)
def S8.list (s : S8) : List UInt32 := [s.a, s.b, s.c, s.d, s.e, s.f, s.g, s.h]
def tX (k w : UInt32) (s : S8) : UInt32 := s.h + (rot s.e 6 ^^^ rot s.e 11 ^^^ rot s.e 25) + (s.e &&& s.f ^^^ ~~~s.e &&& s.g) + k + w
def tY (s : S8) : UInt32 := (rot s.a 2 ^^^ rot s.a 13 ^^^ rot s.a 22) + (s.a &&& s.b ^^^ s.a &&& s.c ^^^ s.b &&& s.c)
def rnd (s : S8) (k w : UInt32) : S8 := ⟨tX k w s + tY s, s.a, s.b, s.c, s.d + tX k w s, s.e, s.f, s.g⟩
def shaK : List UInt32 := [
  0x428a2f98, 0x71374491, 0xb5c0fbcf, 0xe9b5dba5, 0x3956c25b, 0x59f111f1, 0x923f82a4, 0xab1c5ed5, 0xd807aa98, 0x12835b01, 0x243185be, 0x550c7dc3, 0x72be5d74, 0x80deb1fe, 0x9bdc06a7, 0xc19bf174,
  0xe49b69c1, 0xefbe4786, 0x0fc19dc6, 0x240ca1cc, 0x2de92c6f, 0x4a7484aa, 0x5cb0a9dc, 0x76f988da, 0x983e5152, 0xa831c66d, 0xb00327c8, 0xbf597fc7, 0xc6e00bf3, 0xd5a79147, 0x06ca6351, 0x14292967,
  0x27b70a85, 0x2e1b2138, 0x4d2c6dfc, 0x53380d13, 0x650a7354, 0x766a0abb, 0x81c2c92e, 0x92722c85, 0xa2bfe8a1, 0xa81a664b, 0xc24b8b70, 0xc76c51a3, 0xd192e819, 0xd6990624, 0xf40e3585, 0x106aa070,
  0x19a4c116, 0x1e376c08, 0x2748774c, 0x34b0bcb5, 0x391c0cb3, 0x4ed8aa4a, 0x5b9cca4f, 0x682e6ff3, 0x748f82ee, 0x78a5636f, 0x84c87814, 0x8cc70208, 0x90befffa, 0xa4506ceb, 0xbef9a3f7, 0xc67178f2]
/-- The state behind n rounds. -/
def roundsN (ws : List UInt32) (s : S8) : Nat → S8
  | 0 => s
  | n + 1 => rnd (roundsN ws s n) (shaK.getD n 0) (ws.getD n 0)
def S8.add (s t : S8) : S8 := ⟨s.a + t.a, s.b + t.b, s.c + t.c, s.d + t.d, s.e + t.e, s.f + t.f, s.g + t.g, s.h + t.h⟩
def blockS (s : S8) (b : List UInt8) : S8 := s.add (roundsN (sched b) s 64)
def first8 : S8 := ⟨0x6a09e667, 0xbb67ae85, 0x3c6ef372, 0xa54ff53a, 0x510e527f, 0x9b05688c, 0x1f83d9ab, 0x5be0cd19⟩
def blocks : Nat → S8 → List UInt8 → S8
  | 0, s, _ => s
  | n + 1, s, xs => blocks n (blockS s (xs.take 64)) (xs.drop 64)
def be8 (n : Nat) : List UInt8 := [UInt8.ofNat (n / 2 ^ 56), UInt8.ofNat (n / 2 ^ 48), UInt8.ofNat (n / 2 ^ 40), UInt8.ofNat (n / 2 ^ 32), UInt8.ofNat (n / 2 ^ 24), UInt8.ofNat (n / 2 ^ 16), UInt8.ofNat (n / 2 ^ 8), UInt8.ofNat n]
/-- How many zeros stand between the bit and the length. -/
def zerosOf (n : Nat) : Nat := (119 - n % 64) % 64
def padded (xs : List UInt8) : List UInt8 := xs ++ 0x80 :: List.replicate (zerosOf xs.length) 0 ++ be8 (8 * xs.length)
def be32L (x : UInt32) : List UInt8 := [(x >>> 24).toUInt8, (x >>> 16).toUInt8, (x >>> 8).toUInt8, x.toUInt8]
def S8.bytes (s : S8) : List UInt8 := be32L s.a ++ be32L s.b ++ be32L s.c ++ be32L s.d ++ be32L s.e ++ be32L s.f ++ be32L s.g ++ be32L s.h
def shaState (xs : List UInt8) : S8 := blocks (xs.length / 64) first8 xs
def sha (xs : List UInt8) : List UInt8 := (shaState (padded xs)).bytes

theorem schedN_length (b : List UInt8) : ∀ n, (schedN b n).length = n
  | 0 => rfl
  | n + 1 => by simp [schedN, stepW, schedN_length b n]
theorem sched_length (b : List UInt8) : (sched b).length = 64 := schedN_length b 64
theorem S8.bytes_length (s : S8) : s.bytes.length = 32 := rfl
theorem sha_length (xs : List UInt8) : (sha xs).length = 32 := rfl
theorem be8_length (n : Nat) : (be8 n).length = 8 := rfl
theorem padded_length (xs : List UInt8) : (padded xs).length % 64 = 0 := by
  unfold padded zerosOf
  simp only [List.append_assoc, List.length_append, List.length_cons, List.length_replicate, be8_length]
  omega
theorem padded_length' (xs : List UInt8) : (padded xs).length = xs.length + 1 + zerosOf xs.length + 8 := by
  unfold padded
  simp only [List.append_assoc, List.length_append, List.length_cons, List.length_replicate, be8_length]
  omega

/-- Each entry of the schedule. -/
theorem schedN_prefix (b : List UInt8) (n : Nat) : ∀ k, (schedN b (n + k)).take n = schedN b n
  | 0 => by rw [Nat.add_zero, List.take_of_length_le (by rw [schedN_length]; omega)]
  | k + 1 => by
    show (schedN b (n + k) ++ _).take n = _
    rw [List.take_append_of_le_length (by rw [schedN_length]; omega)]
    exact schedN_prefix b n k

theorem rot_or (x : UInt32) (n : Nat) : x <<< UInt32.ofNat (32 - n) ||| x >>> UInt32.ofNat n = rot x n := UInt32.or_comm _ _

theorem blocks_append : ∀ (n m : Nat) (s : S8) (xs ys : List UInt8), xs.length = 64 * n → blocks (n + m) s (xs ++ ys) = blocks m (blocks n s xs) ys
  | 0, m, s, xs, ys, h => by
    have : xs = [] := List.eq_nil_of_length_eq_zero (by omega)
    subst this; rw [Nat.zero_add]; rfl
  | n + 1, m, s, xs, ys, h => by
    rw [Nat.add_right_comm]
    show blocks (n + m) (blockS s ((xs ++ ys).take 64)) ((xs ++ ys).drop 64) = blocks m (blocks n (blockS s (xs.take 64)) (xs.drop 64)) ys
    rw [List.take_append_of_le_length (by omega), List.drop_append_of_le_length (by omega)]
    exact blocks_append n m _ (xs.drop 64) ys (by rw [List.length_drop]; omega)
theorem blocks_take : ∀ (n : Nat) (s : S8) (xs : List UInt8), blocks n s xs = blocks n s (xs.take (64 * n))
  | 0, s, xs => rfl
  | n + 1, s, xs => by
    unfold blocks
    rw [blocks_take n _ (xs.drop 64), blocks_take n _ ((xs.take (64 * (n + 1))).drop 64)]
    rw [List.take_take, Nat.min_eq_left (by omega), List.drop_take, List.take_take, Nat.min_eq_left (by omega)]

theorem be4_or (a b c d : UInt8) : a.toUInt32 <<< 24 ||| b.toUInt32 <<< 16 ||| c.toUInt32 <<< 8 ||| d.toUInt32 = be4 a b c d := by
  have ha := a.toNat_lt; have hb := b.toNat_lt; have hc := c.toNat_lt; have hd := d.toNat_lt
  apply UInt32.toNat_inj.1
  unfold be4
  simp only [UInt32.toNat_or, UInt32.toNat_shiftLeft, UInt8.toNat_toUInt32, UInt32.toNat_add, UInt32.toNat_mul]
  have e24 : (24 : UInt32).toNat = 24 := rfl
  have e16 : (16 : UInt32).toNat = 16 := rfl
  have e8 : (8 : UInt32).toNat = 8 := rfl
  have e256 : (256 : UInt32).toNat = 256 := rfl
  have e0 : (0 : UInt32).toNat = 0 := rfl
  simp only [e24, e16, e8, e256, e0]
  have q : ∀ x y k : Nat, y < 2 ^ k → x <<< k ||| y = x * 2 ^ k + y := fun x y k h => by
    rw [← Nat.shiftLeft_add_eq_or_of_lt h, Nat.shiftLeft_eq]
  simp only [show 24 % 32 = 24 by rfl, show 16 % 32 = 16 by rfl, show 8 % 32 = 8 by rfl, Nat.shiftLeft_eq, show (2:Nat) ^ 32 = 4294967296 by rfl]
  have m1 : a.toNat * 2 ^ 24 % 4294967296 = a.toNat * 2 ^ 24 := Nat.mod_eq_of_lt (by omega)
  have m2 : b.toNat * 2 ^ 16 % 4294967296 = b.toNat * 2 ^ 16 := Nat.mod_eq_of_lt (by omega)
  have m3 : c.toNat * 2 ^ 8 % 4294967296 = c.toNat * 2 ^ 8 := Nat.mod_eq_of_lt (by omega)
  rw [m1, m2, m3]
  have s1 : a.toNat * 2 ^ 24 ||| b.toNat * 2 ^ 16 = a.toNat * 2 ^ 24 + b.toNat * 2 ^ 16 := by
    have := q a.toNat (b.toNat * 2 ^ 16) 24 (by omega); rwa [Nat.shiftLeft_eq] at this
  have s2 : (a.toNat * 2 ^ 24 + b.toNat * 2 ^ 16) ||| c.toNat * 2 ^ 8 = a.toNat * 2 ^ 24 + b.toNat * 2 ^ 16 + c.toNat * 2 ^ 8 := by
    have := q (a.toNat * 2 ^ 8 + b.toNat) (c.toNat * 2 ^ 8) 16 (by omega)
    rw [Nat.shiftLeft_eq] at this
    rwa [show (a.toNat * 2 ^ 8 + b.toNat) * 2 ^ 16 = a.toNat * 2 ^ 24 + b.toNat * 2 ^ 16 by omega] at this
  have s3 : (a.toNat * 2 ^ 24 + b.toNat * 2 ^ 16 + c.toNat * 2 ^ 8) ||| d.toNat = a.toNat * 2 ^ 24 + b.toNat * 2 ^ 16 + c.toNat * 2 ^ 8 + d.toNat := by
    have := q (a.toNat * 2 ^ 16 + b.toNat * 2 ^ 8 + c.toNat) d.toNat 8 (by omega)
    rw [Nat.shiftLeft_eq] at this
    rwa [show (a.toNat * 2 ^ 16 + b.toNat * 2 ^ 8 + c.toNat) * 2 ^ 8 = a.toNat * 2 ^ 24 + b.toNat * 2 ^ 16 + c.toNat * 2 ^ 8 by omega] at this
  rw [s1, s2, s3]
  omega

theorem sha_nil : sha [] = [0xe3, 0xb0, 0xc4, 0x42, 0x98, 0xfc, 0x1c, 0x14, 0x9a, 0xfb, 0xf4, 0xc8, 0x99, 0x6f, 0xb9, 0x24, 0x27, 0xae, 0x41, 0xe4, 0x64, 0x9b, 0x93, 0x4c, 0xa4, 0x95, 0x99, 0x1b, 0x78, 0x52, 0xb8, 0x55] := by decide +kernel
theorem sha_abc : sha [97, 98, 99] = [0xba, 0x78, 0x16, 0xbf, 0x8f, 0x01, 0xcf, 0xea, 0x41, 0x41, 0x40, 0xde, 0x5d, 0xae, 0x22, 0x23, 0xb0, 0x03, 0x61, 0xa3, 0x96, 0x17, 0x7a, 0x9c, 0xb4, 0x10, 0xff, 0x61, 0xf2, 0x00, 0x15, 0xad] := by decide +kernel
end Go.Proofs.Ytcaaeimcieooiaa
