/- SHA-256 in plain Lean: what program and reference are both shown to compute. What a state is that bytes were written to, in plain Lean. Trees of hashes, in plain Lean. -/
import Derived.Test.YtnpbapefjbfndaaZXa
import Derived.Lib.BitFns
set_option linter.unusedVariables false
set_option linter.unusedSimpArgs false
namespace Go.Proofs.Ytnpbapefjbfndaa

def rot (x : UInt32) (n : Nat) : UInt32 := x >>> UInt32.ofNat n ||| x <<< UInt32.ofNat (32 - n)
def sg0 (x : UInt32) : UInt32 := rot x 7 ^^^ rot x 18 ^^^ x >>> 3
def sg1 (x : UInt32) : UInt32 := rot x 17 ^^^ rot x 19 ^^^ x >>> 10
def be4 (a b c d : UInt8) : UInt32 := 256 * (256 * (256 * (256 * 0 + a.toUInt32) + b.toUInt32) + c.toUInt32) + d.toUInt32
def word (b : List UInt8) (i : Nat) : UInt32 := be4 (b.getD (4 * i) 0) (b.getD (4 * i + 1) 0) (b.getD (4 * i + 2) 0) (b.getD (4 * i + 3) 0)
def nextW (ws : List UInt32) : UInt32 := ws.getD (ws.length - 16) 0 + ws.getD (ws.length - 7) 0 + sg0 (ws.getD (ws.length - 15) 0) + sg1 (ws.getD (ws.length - 2) 0)
def stepW (b : List UInt8) (ws : List UInt32) : List UInt32 := ws ++ [if ws.length < 16 then word b ws.length else nextW ws]
def schedN (b : List UInt8) : Nat → List UInt32
  | 0 => []
  | n + 1 => stepW b (schedN b n)
def sched (b : List UInt8) : List UInt32 := schedN b 64

structure S8 where
  (a b c d e f g h : UInt32)
def S8.list (s : S8) : List UInt32 := [s.a, s.b, s.c, s.d, s.e, s.f, s.g, s.h]
def tX (k w : UInt32) (s : S8) : UInt32 := s.h + (rot s.e 6 ^^^ rot s.e 11 ^^^ rot s.e 25) + (s.e &&& s.f ^^^ ~~~s.e &&& s.g) + k + w
def tY (s : S8) : UInt32 := (rot s.a 2 ^^^ rot s.a 13 ^^^ rot s.a 22) + (s.a &&& s.b ^^^ s.a &&& s.c ^^^ s.b &&& s.c)
def rnd (s : S8) (k w : UInt32) : S8 := ⟨tX k w s + tY s, s.a, s.b, s.c, s.d + tX k w s, s.e, s.f, s.g⟩
def shaK : List UInt32 := [
  0x428a2f98, 0x71374491, 0xb5c0fbcf, 0xe9b5dba5, 0x3956c25b, 0x59f111f1, 0x923f82a4, 0xab1c5ed5, 0xd807aa98, 0x12835b01, 0x243185be, 0x550c7dc3, 0x72be5d74, 0x80deb1fe, 0x9bdc06a7, 0xc19bf174,
  0xe49b69c1, 0xefbe4786, 0x0fc19dc6, 0x240ca1cc, 0x2de92c6f, 0x4a7484aa, 0x5cb0a9dc, 0x76f988da, 0x983e5152, 0xa831c66d, 0xb00327c8, 0xbf597fc7, 0xc6e00bf3, 0xd5a79147, 0x06ca6351, 0x14292967,
  0x27b70a85, 0x2e1b2138, 0x4d2c6dfc, 0x53380d13, 0x650a7354, 0x766a0abb, 0x81c2c92e, 0x92722c85, 0xa2bfe8a1, 0xa81a664b, 0xc24b8b70, 0xc76c51a3, 0xd192e819, 0xd6990624, 0xf40e3585, 0x106aa070,
  0x19a4c116, 0x1e376c08, 0x2748774c, 0x34b0bcb5, 0x391c0cb3, 0x4ed8aa4a, 0x5b9cca4f, 0x682e6ff3, 0x748f82ee, 0x78a5636f, 0x84c87814, 0x8cc70208, 0x90befffa, 0xa4506ceb, 0xbef9a3f7, 0xc67178f2]
/-- The state behind n rounds. -/
def roundsN (ws : List UInt32) (s : S8) : Nat → S8
  | 0 => s
  | n + 1 => rnd (roundsN ws s n) (shaK.getD n 0) (ws.getD n 0)
def S8.add (s t : S8) : S8 := ⟨s.a + t.a, s.b + t.b, s.c + t.c, s.d + t.d, s.e + t.e, s.f + t.f, s.g + t.g, s.h + t.h⟩
def blockS (s : S8) (b : List UInt8) : S8 := s.add (roundsN (sched b) s 64)
def first8 : S8 := ⟨0x6a09e667, 0xbb67ae85, 0x3c6ef372, 0xa54ff53a, 0x510e527f, 0x9b05688c, 0x1f83d9ab, 0x5be0cd19⟩
def blocks : Nat → S8 → List UInt8 → S8
  | 0, s, _ => s
  | n + 1, s, xs => blocks n (blockS s (xs.take 64)) (xs.drop 64)
def be8 (n : Nat) : List UInt8 := [UInt8.ofNat (n / 2 ^ 56), UInt8.ofNat (n / 2 ^ 48), UInt8.ofNat (n / 2 ^ 40), UInt8.ofNat (n / 2 ^ 32), UInt8.ofNat (n / 2 ^ 24), UInt8.ofNat (n / 2 ^ 16), UInt8.ofNat (n / 2 ^ 8), UInt8.ofNat n]
/-- How many zeros stand between the bit and the length. -/
def zerosOf (n : Nat) : Nat := (119 - n % 64) % 64
def padded (xs : List UInt8) : List UInt8 := xs ++ 0x80 :: List.replicate (zerosOf xs.length) 0 ++ be8 (8 * xs.length)
def be32L (x : UInt32) : List UInt8 := [(x >>> 24).toUInt8, (x >>> 16).toUInt8, (x >>> 8).toUInt8, x.toUInt8]
def S8.bytes (s : S8) : List UInt8 := be32L s.a ++ be32L s.b ++ be32L s.c ++ be32L s.d ++ be32L s.e ++ be32L s.f ++ be32L s.g ++ be32L s.h
def shaState (xs : List UInt8) : S8 := blocks (xs.length / 64) first8 xs
def sha (xs : List UInt8) : List UInt8 := (shaState (padded xs)).bytes

theorem schedN_length (b : List UInt8) : ∀ n, (schedN b n).length = n
  | 0 => rfl
  | n + 1 => by simp [schedN, stepW, schedN_length b n]
theorem sched_length (b : List UInt8) : (sched b).length = 64 := schedN_length b 64
theorem S8.bytes_length (s : S8) : s.bytes.length = 32 := rfl
theorem sha_length (xs : List UInt8) : (sha xs).length = 32 := rfl
theorem be8_length (n : Nat) : (be8 n).length = 8 := rfl
theorem padded_length (xs : List UInt8) : (padded xs).length % 64 = 0 := by
  unfold padded zerosOf
  simp only [List.append_assoc, List.length_append, List.length_cons, List.length_replicate, be8_length]
  omega
theorem padded_length' (xs : List UInt8) : (padded xs).length = xs.length + 1 + zerosOf xs.length + 8 := by
  unfold padded
  simp only [List.append_assoc, List.length_append, List.length_cons, List.length_replicate, be8_length]
  omega

/-- Each entry of the schedule. -/
theorem schedN_prefix (b : List UInt8) (n : Nat) : ∀ k, (schedN b (n + k)).take n = schedN b n
  | 0 => by rw [Nat.add_zero, List.take_of_length_le (by rw [schedN_length]; omega)]
  | k + 1 => by
    show (schedN b (n + k) ++ _).take n = _
    rw [List.take_append_of_le_length (by rw [schedN_length]; omega)]
    exact schedN_prefix b n k

theorem rot_or (x : UInt32) (n : Nat) : x <<< UInt32.ofNat (32 - n) ||| x >>> UInt32.ofNat n = rot x n := UInt32.or_comm _ _

theorem blocks_append : ∀ (n m : Nat) (s : S8) (xs ys : List UInt8), xs.length = 64 * n → blocks (n + m) s (xs ++ ys) = blocks m (blocks n s xs) ys
  | 0, m, s, xs, ys, h => by
    have : xs = [] := List.eq_nil_of_length_eq_zero (by omega)
    subst this; rw [Nat.zero_add]; rfl
  | n + 1, m, s, xs, ys, h => by
    rw [Nat.add_right_comm]
    show blocks (n + m) (blockS s ((xs ++ ys).take 64)) ((xs ++ ys).drop 64) = blocks m (blocks n (blockS s (xs.take 64)) (xs.drop 64)) ys
    rw [List.take_append_of_le_length (by omega), List.drop_append_of_le_length (by omega)]
    exact blocks_append n m _ (xs.drop 64) ys (by rw [List.length_drop]; omega)
theorem blocks_take : ∀ (n : Nat) (s : S8) (xs : List UInt8), blocks n s xs = blocks n s (xs.take (64 * n))
  | 0, s, xs => rfl
  | n + 1, s, xs => by
    unfold blocks
    rw [blocks_take n _ (xs.drop 64), blocks_take n _ ((xs.take (64 * (n + 1))).drop 64)]
    rw [List.take_take, Nat.min_eq_left (by omega), List.drop_take, List.take_take, Nat.min_eq_left (by omega)]

theorem be4_or (a b c d : UInt8) : a.toUInt32 <<< 24 ||| b.toUInt32 <<< 16 ||| c.toUInt32 <<< 8 ||| d.toUInt32 = be4 a b c d := by
  have ha := a.toNat_lt; have hb := b.toNat_lt; have hc := c.toNat_lt; have hd := d.toNat_lt
  apply UInt32.toNat_inj.1
  unfold be4
  simp only [UInt32.toNat_or, UInt32.toNat_shiftLeft, UInt8.toNat_toUInt32, UInt32.toNat_add, UInt32.toNat_mul]
  have e24 : (24 : UInt32).toNat = 24 := rfl
  have e16 : (16 : UInt32).toNat = 16 := rfl
  have e8 : (8 : UInt32).toNat = 8 := rfl
  have e256 : (256 : UInt32).toNat = 256 := rfl
  have e0 : (0 : UInt32).toNat = 0 := rfl
  simp only [e24, e16, e8, e256, e0]
  have q : ∀ x y k : Nat, y < 2 ^ k → x <<< k ||| y = x * 2 ^ k + y := fun x y k h => by
    rw [← Nat.shiftLeft_add_eq_or_of_lt h, Nat.shiftLeft_eq]
  simp only [show 24 % 32 = 24 by rfl, show 16 % 32 = 16 by rfl, show 8 % 32 = 8 by rfl, Nat.shiftLeft_eq, show (2:Nat) ^ 32 = 4294967296 by rfl]
  have m1 : a.toNat * 2 ^ 24 % 4294967296 = a.toNat * 2 ^ 24 := Nat.mod_eq_of_lt (by omega)
  have m2 : b.toNat * 2 ^ 16 % 4294967296 = b.toNat * 2 ^ 16 := Nat.mod_eq_of_lt (by omega)
  have m3 : c.toNat * 2 ^ 8 % 4294967296 = c.toNat * 2 ^ 8 := Nat.mod_eq_of_lt (by omega)
  rw [m1, m2, m3]
  have s1 : a.toNat * 2 ^ 24 ||| b.toNat * 2 ^ 16 = a.toNat * 2 ^ 24 + b.toNat * 2 ^ 16 := by
    have := q a.toNat (b.toNat * 2 ^ 16) 24 (by omega); rwa [Nat.shiftLeft_eq] at this
  have s2 : (a.toNat * 2 ^ 24 + b.toNat * 2 ^ 16) ||| c.toNat * 2 ^ 8 = a.toNat * 2 ^ 24 + b.toNat * 2 ^ 16 + c.toNat * 2 ^ 8 := by
    have := q (a.toNat * 2 ^ 8 + b.toNat) (c.toNat * 2 ^ 8) 16 (by omega)
    rw [Nat.shiftLeft_eq] at this
    rwa [show (a.toNat * 2 ^ 8 + b.toNat) * 2 ^ 16 = a.toNat * 2 ^ 24 + b.toNat * 2 ^ 16 by omega] at this
  have s3 : (a.toNat * 2 ^ 24 + b.toNat * 2 ^ 16 + c.toNat * 2 ^ 8) ||| d.toNat = a.toNat * 2 ^ 24 + b.toNat * 2 ^ 16 + c.toNat * 2 ^ 8 + d.toNat := by
    have := q (a.toNat * 2 ^ 16 + b.toNat * 2 ^ 8 + c.toNat) d.toNat 8 (by omega)
    rw [Nat.shiftLeft_eq] at this
    rwa [show (a.toNat * 2 ^ 16 + b.toNat * 2 ^ 8 + c.toNat) * 2 ^ 8 = a.toNat * 2 ^ 24 + b.toNat * 2 ^ 16 + c.toNat * 2 ^ 8 by omega] at this
  rw [s1, s2, s3]
  omega

theorem sha_nil : sha [] = [0xe3, 0xb0, 0xc4, 0x42, 0x98, 0xfc, 0x1c, 0x14, 0x9a, 0xfb, 0xf4, 0xc8, 0x99, 0x6f, 0xb9, 0x24, 0x27, 0xae, 0x41, 0xe4, 0x64, 0x9b, 0x93, 0x4c, 0xa4, 0x95, 0x99, 0x1b, 0x78, 0x52, 0xb8, 0x55] := by decide +kernel
theorem sha_abc : sha [97, 98, 99] = [0xba, 0x78, 0x16, 0xbf, 0x8f, 0x01, 0xcf, 0xea, 0x41, 0x41, 0x40, 0xde, 0x5d, 0xae, 0x22, 0x23, 0xb0, 0x03, 0x61, 0xa3, 0x96, 0x17, 0x7a, 0x9c, 0xb4, 0x10, 0xff, 0x61, 0xf2, 0x00, 0x15, 0xad] := by decide +kernel
end Go.Proofs.Ytnpbapefjbfndaa
set_option linter.unusedVariables false
set_option linter.unusedSimpArgs false
namespace Go.Proofs.Ytnpbapefjbfndaa

/-- A state's numbers and its rest, behind these bytes. -/
def StR (zs : List UInt8) (s : S8) (rest : List UInt8) : Prop := rest.length = 64 ∧ rest.take (zs.length % 64) = zs.drop (zs.length / 64 * 64) ∧ s = shaState zs
/-- The rest behind a copy of new bytes. -/
def put (rest : List UInt8) (a : Nat) (new : List UInt8) : List UInt8 := rest.take a ++ new ++ rest.drop (a + new.length)
theorem put_length {rest : List UInt8} {a : Nat} {new : List UInt8} (hr : rest.length = 64) (ha : a + new.length ≤ 64) : (put rest a new).length = 64 := by
  simp [put, hr]; omega
theorem put_take {rest : List UInt8} {a : Nat} {new : List UInt8} (hr : rest.length = 64) (ha : a + new.length ≤ 64) : (put rest a new).take (a + new.length) = rest.take a ++ new := by
  unfold put
  rw [List.take_append_of_le_length (by simp [hr]; omega), List.take_of_length_le (by simp [hr]; omega)]
theorem StR.less {zs new : List UInt8} {s : S8} {rest : List UInt8} (h : StR zs s rest) (ha : zs.length % 64 + new.length < 64) : StR (zs ++ new) s (put rest (zs.length % 64) new) := by
  obtain ⟨h1, h2, h3⟩ := h
  have e1 : (zs ++ new).length % 64 = zs.length % 64 + new.length := by simp; omega
  have e2 : (zs ++ new).length / 64 = zs.length / 64 := by simp; omega
  refine ⟨put_length h1 (by omega), ?_, ?_⟩
  · rw [e1, e2, put_take h1 (by omega), h2, List.drop_append_of_le_length (by omega)]
  · rw [h3]; unfold shaState
    rw [e2, blocks_take _ _ zs, blocks_take _ _ (zs ++ new), List.take_append_of_le_length (by omega)]
theorem StR.full {zs new : List UInt8} {s : S8} {rest : List UInt8} (h : StR zs s rest) (ha : zs.length % 64 + new.length = 64) : StR (zs ++ new) (blockS s (put rest (zs.length % 64) new)) (put rest (zs.length % 64) new) := by
  obtain ⟨h1, h2, h3⟩ := h
  have e1 : (zs ++ new).length % 64 = 0 := by simp; omega
  have e2 : (zs ++ new).length / 64 = zs.length / 64 + 1 := by simp; omega
  have e3 : put rest (zs.length % 64) new = zs.drop (zs.length / 64 * 64) ++ new := by
    have := put_take h1 (by omega : zs.length % 64 + new.length ≤ 64)
    rw [ha, List.take_of_length_le (by rw [put_length h1 (by omega)]; omega), h2] at this
    exact this
  refine ⟨put_length h1 (by omega), ?_, ?_⟩
  · rw [e1, e2, List.take_zero]
    exact (List.drop_eq_nil_of_le (by simp; omega)).symm
  · rw [h3, e3]; unfold shaState
    rw [e2]
    have hz : zs ++ new = zs.take (zs.length / 64 * 64) ++ (zs.drop (zs.length / 64 * 64) ++ new) := by rw [← List.append_assoc, List.take_append_drop]
    have hl : (zs.take (zs.length / 64 * 64)).length = 64 * (zs.length / 64) := by rw [List.length_take]; omega
    conv => rhs; rw [hz]
    rw [blocks_append _ _ _ _ _ hl, blocks_take _ _ zs, Nat.mul_comm 64]
    generalize blocks _ _ _ = t
    have hb : (zs.drop (zs.length / 64 * 64) ++ new).length = 64 := by simp; omega
    show _ = blockS t ((zs.drop (zs.length / 64 * 64) ++ new).take 64)
    rw [List.take_of_length_le (by omega)]
theorem StR.nil : StR [] first8 (List.replicate 64 0) := ⟨rfl, rfl, rfl⟩
end Go.Proofs.Ytnpbapefjbfndaa
set_option linter.unusedVariables false
set_option linter.unusedSimpArgs false
namespace Go.Proofs.Ytnpbapefjbfndaa

theorem bitLen_range : ∀ (n x : Nat), x < 2 ^ n → n ≤ 64 → 0 < x → 2 ^ (Lib.bitLen x - 1) ≤ x ∧ x < 2 ^ Lib.bitLen x ∧ 0 < Lib.bitLen x
  | 0, x, h, _, h0 => by simp at h; omega
  | n + 1, x, h, hn, h0 => by
    have hx64 : x < 2 ^ 64 := Nat.lt_of_lt_of_le h (Nat.pow_le_pow_right (by omega) hn)
    have hh := Lib.bitLen_half x (by omega) hx64
    rw [Nat.pow_succ] at h
    by_cases h1 : x = 1
    · subst h1; decide
    · have ih := bitLen_range n (x / 2) (by omega) (by omega) (by omega)
      rw [hh, Nat.add_comm, Nat.add_sub_cancel, Nat.pow_succ]
      obtain ⟨i1, i2, i3⟩ := ih
      have e : 2 ^ Lib.bitLen (x / 2) = 2 ^ (Lib.bitLen (x / 2) - 1) * 2 := by rw [← Nat.pow_succ]; congr 1; omega
      refine ⟨?_, ?_, by omega⟩
      · rw [e]; omega
      · omega
/-- The greatest power of 2 below n (n from 2 on). -/
def kOf (n : Nat) : Nat := 2 ^ (Lib.bitLen (n - 1) - 1)
theorem kOf_lt {n : Nat} (h : 2 ≤ n) (hn : n < 2 ^ 63) : kOf n < n ∧ n ≤ 2 * kOf n ∧ 1 ≤ kOf n := by
  obtain ⟨h1, h2, h3⟩ := bitLen_range 64 (n - 1) (by omega) (by omega) (by omega)
  unfold kOf
  have e : 2 ^ Lib.bitLen (n - 1) = 2 ^ (Lib.bitLen (n - 1) - 1) * 2 := by rw [← Nat.pow_succ]; congr 1; omega
  have := Nat.two_pow_pos (Lib.bitLen (n - 1) - 1)
  omega
/-- A power of 2 that is below n, whose double is not, is that one. -/
theorem kOf_unique {n j : Nat} (h : 2 ≤ n) (hn : n < 2 ^ 63) (h1 : 2 ^ j < n) (h2 : n ≤ 2 * 2 ^ j) : 2 ^ j = kOf n := by
  obtain ⟨a, b, _⟩ := kOf_lt h hn
  unfold kOf at *
  generalize Lib.bitLen (n - 1) - 1 = e at *
  rcases Nat.lt_trichotomy j e with hl | he | hg
  · have := Nat.pow_le_pow_right (n := 2) (by omega) (show j + 1 ≤ e by omega)
    rw [Nat.pow_succ] at this; omega
  · rw [he]
  · have := Nat.pow_le_pow_right (n := 2) (by omega) (show e + 1 ≤ j by omega)
    rw [Nat.pow_succ] at this; omega

def leafL (b : List UInt8) : List UInt8 := sha (0 :: b)
def nodeL (a b : List UInt8) : List UInt8 := sha (1 :: (a ++ b))
theorem leafL_length (b : List UInt8) : (leafL b).length = 32 := sha_length _
theorem nodeL_length (a b : List UInt8) : (nodeL a b).length = 32 := sha_length _
/-- The head of a list of leaves. -/
def rootN : Nat → List (List UInt8) → List UInt8
  | 0, _ => sha []
  | f + 1, l => if l.length = 0 then sha [] else if l.length = 1 then l.headD [] else nodeL (rootN f (l.take (kOf l.length))) (rootN f (l.drop (kOf l.length)))
def rootL (l : List (List UInt8)) : List UInt8 := rootN l.length l
theorem rootN_eq : ∀ (n f g : Nat) (l : List (List UInt8)), l.length ≤ n → n < 2 ^ 63 → n ≤ f → n ≤ g → rootN f l = rootN g l
  | 0, f, g, l, hl, _, _, _ => by
    have : l = [] := List.eq_nil_of_length_eq_zero (by omega)
    subst this
    cases f <;> cases g <;> simp [rootN]
  | n + 1, f, g, l, hl, hn, hf, hg => by
    obtain ⟨f', rfl⟩ : ∃ f', f = f' + 1 := ⟨f - 1, by omega⟩
    obtain ⟨g', rfl⟩ : ∃ g', g = g' + 1 := ⟨g - 1, by omega⟩
    unfold rootN
    split
    · rfl
    · split
      · rfl
      · have hk := kOf_lt (n := l.length) (by omega) (by omega)
        rw [rootN_eq n f' g' (l.take _) (by rw [List.length_take]; omega) (by omega) (by omega) (by omega), rootN_eq n f' g' (l.drop _) (by rw [List.length_drop]; omega) (by omega) (by omega) (by omega)]
theorem rootL_nil : rootL [] = sha [] := rfl
theorem rootL_one (x : List UInt8) : rootL [x] = x := rfl
theorem rootL_two {l : List (List UInt8)} (h : 2 ≤ l.length) (hn : l.length < 2 ^ 63) : rootL l = nodeL (rootL (l.take (kOf l.length))) (rootL (l.drop (kOf l.length))) := by
  have hk := kOf_lt h hn
  unfold rootL
  obtain ⟨n, hl⟩ : ∃ n, l.length = n + 1 := ⟨l.length - 1, by omega⟩
  rw [show rootN l.length l = rootN (n + 1) l by rw [hl]]
  conv => lhs; unfold rootN
  rw [if_neg (by omega), if_neg (by omega)]
  rw [rootN_eq n n _ (l.take _) (by rw [List.length_take]; omega) (by omega) (Nat.le_refl _) (show n ≤ n from Nat.le_refl _), rootN_eq n n _ (l.drop _) (by rw [List.length_drop]; omega) (by omega) (Nat.le_refl _) (show n ≤ n from Nat.le_refl _)]
  rw [rootN_eq _ (l.take (kOf l.length)).length n (l.take _) (Nat.le_refl _) (by rw [List.length_take]; omega) (Nat.le_refl _) (by rw [List.length_take]; omega), rootN_eq _ (l.drop (kOf l.length)).length n (l.drop _) (Nat.le_refl _) (by rw [List.length_drop]; omega) (Nat.le_refl _) (by rw [List.length_drop]; omega)]
theorem rootL_length : ∀ (n : Nat) (l : List (List UInt8)), l.length ≤ n → n < 2 ^ 63 → (∀ d ∈ l, d.length = 32) → (rootL l).length = 32
  | 0, l, hl, _, _ => by
    have : l = [] := List.eq_nil_of_length_eq_zero (by omega)
    subst this; exact sha_length _
  | n + 1, l, hl, hn, hd => by
    match l, hl, hd with
    | [], _, _ => exact sha_length _
    | [x], _, hd => exact hd x (by simp)
    | x :: y :: r, hl, hd => rw [rootL_two (by simp) (by omega)]; exact nodeL_length _ _
end Go.Proofs.Ytnpbapefjbfndaa
