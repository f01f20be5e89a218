/- How many bits are set, as the library reckons it (plain Lean). -/
import Derived.Test.YtcaaeimcieooiaaRngM
set_option linter.unusedVariables false
set_option linter.unusedSimpArgs false
set_option maxRecDepth 100000
namespace Go.Proofs.Ytcaaeimcieooiaa

theorem land_split (x y : Nat) : x &&& y = (x % 256 &&& y % 256) + 256 * (x / 256 &&& y / 256) := by
  have h1 := Nat.and_mod_two_pow (a := x) (b := y) (n := 8)
  have h2 := Nat.and_div_two_pow (a := x) (b := y) (n := 8)
  simp only [Nat.reducePow] at h1 h2
  rw [← h1, ← h2, Nat.mod_add_div]
def S1 (M n : Nat) : Nat := (n / 2 &&& M) + (n &&& M)
def S2 (M n : Nat) : Nat := (n / 4 &&& M) + (n &&& M)
def S3 (M n : Nat) : Nat := (n / 16 + n) &&& M
theorem t1 : ∀ (a : Fin 256) (e : Fin 2), (a.val / 2 + 128 * e.val) &&& 85 = a.val / 2 &&& 85 := by decide +kernel
theorem t2 : ∀ (a : Fin 256) (e : Fin 4), (a.val / 4 + 64 * e.val) &&& 51 = a.val / 4 &&& 51 := by decide +kernel
theorem S1_split (M a r : Nat) (ha : a < 256) (hM : M % 256 = 85) : S1 M (a + 256 * r) = S1 85 a + 256 * S1 (M / 256) r := by
  unfold S1
  have e1 : (a + 256 * r) / 2 % 256 = a / 2 + 128 * (r % 2) := by omega
  have e2 : (a + 256 * r) / 2 / 256 = r / 2 := by omega
  have h := t1 ⟨a, ha⟩ ⟨r % 2, by omega⟩
  simp only at h
  rw [land_split ((a + 256 * r) / 2) M, land_split (a + 256 * r) M, e1, e2, hM, h, show (a + 256 * r) % 256 = a by omega, show (a + 256 * r) / 256 = r by omega]
  omega
theorem S2_split (M a r : Nat) (ha : a < 256) (hM : M % 256 = 51) : S2 M (a + 256 * r) = S2 51 a + 256 * S2 (M / 256) r := by
  unfold S2
  have e1 : (a + 256 * r) / 4 % 256 = a / 4 + 64 * (r % 4) := by omega
  have e2 : (a + 256 * r) / 4 / 256 = r / 4 := by omega
  have h := t2 ⟨a, ha⟩ ⟨r % 4, by omega⟩
  simp only at h
  rw [land_split ((a + 256 * r) / 4) M, land_split (a + 256 * r) M, e1, e2, hM, h, show (a + 256 * r) % 256 = a by omega, show (a + 256 * r) / 256 = r by omega]
  omega
/-- A byte of which each half holds at most 4. -/
def Small (a : Nat) : Prop := a < 256 ∧ a % 16 ≤ 4 ∧ a / 16 ≤ 4
theorem t3 : ∀ (a : Fin 256) (e : Fin 5), a.val % 16 ≤ 4 → a.val / 16 ≤ 4 → (a.val / 16 + 16 * e.val + a.val) &&& 15 = a.val / 16 + a.val % 16 := by decide +kernel
theorem S3_split (M a r : Nat) (ha : Small a) (hr : r % 16 ≤ 4) (hM : M % 256 = 15) : S3 M (a + 256 * r) = (a / 16 + a % 16) + 256 * S3 (M / 256) r := by
  unfold S3
  obtain ⟨h1, h2, h3⟩ := ha
  have e1 : ((a + 256 * r) / 16 + (a + 256 * r)) % 256 = a / 16 + 16 * (r % 16) + a := by omega
  have e2 : ((a + 256 * r) / 16 + (a + 256 * r)) / 256 = r / 16 + r := by omega
  have h := t3 ⟨a, h1⟩ ⟨r % 16, by omega⟩ h2 h3
  simp only at h
  rw [land_split _ M, e1, e2, hM, h]
theorem t5 : ∀ a : Fin 256, S2 51 (S1 85 a.val) % 16 ≤ 4 ∧ S2 51 (S1 85 a.val) / 16 ≤ 4 ∧ S1 85 a.val < 256 ∧ S2 51 (S1 85 a.val) < 256 ∧ S2 51 (S1 85 a.val) / 16 + S2 51 (S1 85 a.val) % 16 = popN 8 a.val := by decide +kernel
theorem pop_split : ∀ (f a r : Nat), a < 2 ^ f → popN (f + 21) (a + 2 ^ f * r) = popN f a + popN 21 r
  | 0, a, r, h => by
    obtain rfl : a = 0 := by simpa using h
    simp [popN]
  | f + 1, a, r, h => by
    rw [show f + 1 + 21 = (f + 21) + 1 by omega]
    have h2 : a / 2 < 2 ^ f := by rw [Nat.pow_succ] at h; omega
    have e1 : (a + 2 ^ (f + 1) * r) % 2 = a % 2 := by rw [Nat.pow_succ, Nat.mul_assoc, Nat.mul_left_comm]; omega
    have e2 : (a + 2 ^ (f + 1) * r) / 2 = a / 2 + 2 ^ f * r := by rw [Nat.pow_succ, Nat.mul_assoc, Nat.mul_left_comm]; omega
    have e3 : popN (f + 1) a = a % 2 + popN f (a / 2) := rfl
    have e4 : popN (f + 21 + 1) (a + 2 ^ (f + 1) * r) = (a + 2 ^ (f + 1) * r) % 2 + popN (f + 21) ((a + 2 ^ (f + 1) * r) / 2) := rfl
    rw [e4, e1, e2, pop_split f (a / 2) r h2, e3]
    omega
/-- The library's way, at numbers of three bytes. -/
theorem ones_three (a b c : Nat) (ha : a < 256) (hb : b < 256) (hc : c < 256) :
    S3 1085102592571150095 (S2 3689348814741910323 (S1 6148914691236517205 (a + 256 * (b + 256 * c)))) = popN 8 a + 256 * (popN 8 b + 256 * popN 8 c) := by
  have z1 : ∀ M, S1 M 0 = 0 := fun M => by simp [S1]
  have z2 : ∀ M, S2 M 0 = 0 := fun M => by simp [S2]
  have z3 : ∀ M, S3 M 0 = 0 := fun M => by simp [S3]
  obtain ⟨p1, p2, p3, p4, p5⟩ := t5 ⟨a, ha⟩
  obtain ⟨q1, q2, q3, q4, q5⟩ := t5 ⟨b, hb⟩
  obtain ⟨r1, r2, r3, r4, r5⟩ := t5 ⟨c, hc⟩
  simp only at p1 p2 p3 p4 p5 q1 q2 q3 q4 q5 r1 r2 r3 r4 r5
  rw [show c = c + 256 * 0 by omega, S1_split _ a _ ha (by decide), S1_split _ b _ hb (by decide), S1_split _ c _ hc (by decide), z1]
  generalize S1 85 a = a1 at *
  generalize S1 85 b = b1 at *
  generalize S1 85 c = c1 at *
  rw [S2_split _ a1 _ p3 (by decide), S2_split _ b1 _ q3 (by decide), S2_split _ c1 _ r3 (by decide), z2]
  generalize S2 51 a1 = a2 at *
  generalize S2 51 b1 = b2 at *
  generalize S2 51 c1 = c2 at *
  rw [S3_split _ a2 _ ⟨p4, p1, p2⟩ (by omega) (by decide), S3_split _ b2 _ ⟨q4, q1, q2⟩ (by omega) (by decide), S3_split _ c2 _ ⟨r4, r1, r2⟩ (by omega) (by decide), z3, p5, q5, r5]
  simp
theorem pop_fuel (f n : Nat) (h : n < 2 ^ f) : popN (f + 1) n = popN f n := by rw [← lowN_length (f + 1) 1, ← lowN_length f 1, lowN_fuel f 1 n h]
theorem pop_more (f n : Nat) (h : n < 2 ^ f) : ∀ k, popN (f + k) n = popN f n
  | 0 => rfl
  | k + 1 => by
    rw [← Nat.add_assoc, pop_fuel (f + k) n (Nat.lt_of_lt_of_le h (Nat.pow_le_pow_right (by decide) (by omega))), pop_more f n h k]
theorem pop_le : ∀ (f n : Nat), popN f n ≤ f
  | 0, _ => Nat.le_refl _
  | f + 1, n => by unfold popN; have := pop_le f (n / 2); omega
/-- What bits.OnesCount64 answers. -/
def onesN (n : Nat) : Nat :=
  let x := S3 1085102592571150095 (S2 3689348814741910323 (S1 6148914691236517205 n))
  let y := x + x / 256
  let z := y + y / 65536
  (z + z / 4294967296) % 128
theorem ones_pop (n : Nat) (h : n < 2 ^ 21) : onesN n = popN 21 n := by
  obtain ⟨a, b, c, ha, hb, hc, rfl⟩ : ∃ a b c, a < 256 ∧ b < 256 ∧ c < 32 ∧ n = a + 256 * (b + 256 * c) := ⟨n % 256, n / 256 % 256, n / 65536, by omega, by omega, by omega, by omega⟩
  have h3 := ones_three a b c ha hb (by omega)
  have p1 := pop_le 8 a
  have p2 := pop_le 8 b
  have p3 := pop_le 8 c
  have e1 : popN 29 (a + 2 ^ 8 * (b + 256 * c)) = popN 8 a + popN 21 (b + 256 * c) := pop_split 8 a _ ha
  have e2 : popN 29 (b + 2 ^ 8 * c) = popN 8 b + popN 21 c := pop_split 8 b _ hb
  have e3 : popN 21 c = popN 8 c := pop_more 8 c (by omega) 13
  have e4 : popN 29 (b + 2 ^ 8 * c) = popN 21 (b + 2 ^ 8 * c) := pop_more 21 _ (by omega) 8
  have e5 : popN 29 (a + 2 ^ 8 * (b + 256 * c)) = popN 21 (a + 2 ^ 8 * (b + 256 * c)) := pop_more 21 _ (by omega) 8
  have e6 : popN 21 (a + 256 * (b + 256 * c)) = popN 8 a + popN 8 b + popN 8 c := by
    simp only [Nat.reducePow] at e1 e2 e4 e5
    rw [← e5, e1, ← e4, e2, e3, Nat.add_assoc]
  unfold onesN
  rw [h3, e6]
  generalize popN 8 a = p at *
  generalize popN 8 b = q at *
  generalize popN 8 c = r at *
  have s1 : (p + 256 * (q + 256 * r)) / 256 = q + 256 * r := by omega
  have s2 : (p + 256 * (q + 256 * r) + (q + 256 * r)) / 65536 = r := by omega
  have s3 : (p + 256 * (q + 256 * r) + (q + 256 * r) + r) / 4294967296 = 0 := by omega
  simp only [s1, s2, s3]
  omega
end Go.Proofs.Ytcaaeimcieooiaa
