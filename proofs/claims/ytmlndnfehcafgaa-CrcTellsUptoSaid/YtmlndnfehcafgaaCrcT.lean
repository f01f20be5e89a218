/- A burst of at most 32 bits turns the sum of chapter 14 (plain Lean). -/
import Derived.Test.YtmlndnfehcafgaaCrcM
set_option linter.unusedVariables false
set_option linter.unusedSimpArgs false
namespace Go.Proofs.Ytmlndnfehcafgaa

/-- One bit goes in. -/
def bitStep (n : UInt32) (b : Bool) : UInt32 := crcBit (n ^^^ (if b then 1 else 0))
def bits8 (x : UInt8) : List Bool := (List.range 8).map fun j => x.toNat.testBit j
def bitsOf (xs : List UInt8) : List Bool := xs.flatMap bits8
theorem neg_and (x : UInt32) : -(x &&& 1) = if x &&& 1 = 0 then 0 else 4294967295 := by
  have h : (x &&& 1).toNat = x.toNat % 2 := by rw [UInt32.toNat_and]; exact Nat.and_one_is_mod _
  have : (x &&& 1) = 0 ∨ (x &&& 1) = 1 := by
    rcases Nat.mod_two_eq_zero_or_one x.toNat with h0 | h0
    · left; apply UInt32.toNat_inj.1; rw [h, h0]; rfl
    · right; apply UInt32.toNat_inj.1; rw [h, h0]; rfl
  rcases this with h | h <;> rw [h] <;> decide
theorem and1c (x : UInt32) : (x &&& 1) = 0 ∨ (x &&& 1) = 1 := by
  have h : (x &&& 1).toNat = x.toNat % 2 := by rw [UInt32.toNat_and]; exact Nat.and_one_is_mod _
  rcases Nat.mod_two_eq_zero_or_one x.toNat with h0 | h0
  · left; apply UInt32.toNat_inj.1; rw [h, h0]; rfl
  · right; apply UInt32.toNat_inj.1; rw [h, h0]; rfl
theorem crcBit_eq (x : UInt32) : crcBit x = if x &&& 1 = 0 then x >>> 1 else (x >>> 1) ^^^ 3988292384 := by
  unfold crcBit
  rw [neg_and]
  split
  · rw [UInt32.and_zero, UInt32.xor_zero]
  · congr 1
theorem and_xor (a b c : UInt32) : (a ^^^ b) &&& c = (a &&& c) ^^^ (b &&& c) := by
  apply UInt32.eq_of_toBitVec_eq
  simp only [UInt32.toBitVec_and, UInt32.toBitVec_xor]
  ext i; simp [Bool.and_xor_distrib_right]
theorem shr_xor (a b : UInt32) : (a ^^^ b) >>> 1 = (a >>> 1) ^^^ (b >>> 1) := by
  apply UInt32.eq_of_toBitVec_eq
  simp only [UInt32.toBitVec_shiftRight, UInt32.toBitVec_xor]
  ext i; simp
theorem crcBit_xor (a b : UInt32) : crcBit (a ^^^ b) = crcBit a ^^^ crcBit b := by
  rw [crcBit_eq, crcBit_eq, crcBit_eq, and_xor, shr_xor]
  rcases and1c a with h1 | h1 <;> rcases and1c b with h2 | h2 <;> rw [h1, h2]
  · rfl
  · simp only [if_pos, if_neg (show ¬ (1 : UInt32) = 0 by decide), UInt32.zero_xor]; rw [UInt32.xor_assoc]
  · simp only [if_pos, if_neg (show ¬ (1 : UInt32) = 0 by decide), UInt32.xor_zero]; rw [UInt32.xor_assoc, UInt32.xor_assoc]; congr 1; exact UInt32.xor_comm _ _
  · simp only [if_pos, if_neg (show ¬ (1 : UInt32) = 0 by decide), UInt32.xor_self]
    rw [UInt32.xor_assoc, ← UInt32.xor_assoc 3988292384, UInt32.xor_comm 3988292384, UInt32.xor_assoc, UInt32.xor_self, UInt32.xor_zero]
theorem crcBits_xor : ∀ (k : Nat) (a b : UInt32), crcBits k (a ^^^ b) = crcBits k a ^^^ crcBits k b
  | 0, _, _ => rfl
  | k + 1, a, b => by unfold crcBits; rw [crcBit_xor, crcBits_xor k]
theorem bitStep_xor (n m : UInt32) (a b : Bool) : bitStep (n ^^^ m) (a ^^ b) = bitStep n a ^^^ bitStep m b := by
  unfold bitStep
  rw [← crcBit_xor]
  congr 1
  have e : (if (a ^^ b) then (1 : UInt32) else 0) = (if a then 1 else 0) ^^^ (if b then 1 else 0) := by cases a <;> cases b <;> rfl
  rw [e, UInt32.xor_assoc, ← UInt32.xor_assoc m, UInt32.xor_comm m, UInt32.xor_assoc, UInt32.xor_assoc]
theorem fold_xor : ∀ (L M : List Bool) (n m : UInt32), L.length = M.length → List.foldl bitStep (n ^^^ m) (List.zipWith xor L M) = List.foldl bitStep n L ^^^ List.foldl bitStep m M
  | [], [], _, _, _ => rfl
  | a :: L, b :: M, n, m, h => by
    simp only [List.zipWith_cons_cons, List.foldl_cons]
    have := bitStep_xor n m a b
    rw [show (a ^^ b) = xor a b from rfl] at this
    rw [this]
    exact fold_xor L M _ _ (by simpa using h)
  | [], _ :: _, _, _, h => by simp at h
  | _ :: _, [], _, _, h => by simp at h
theorem fold_false (n : UInt32) : ∀ k, List.foldl bitStep n (List.replicate k false) = crcBits k n
  | 0 => rfl
  | k + 1 => by
    rw [List.replicate_succ, List.foldl_cons]
    unfold crcBits
    rw [show bitStep n false = crcBit n by unfold bitStep; rw [if_neg (by decide), UInt32.xor_zero]]
    exact fold_false (crcBit n) k
theorem byte_all : ∀ x : Fin 256, crcBits 8 (UInt8.ofNat x.val).toUInt32 = List.foldl bitStep 0 (bits8 (UInt8.ofNat x.val)) := by decide +kernel
theorem crcByte_bits (n : UInt32) (x : UInt8) : crcByte n x = List.foldl bitStep n (bits8 x) := by
  unfold crcByte
  rw [crcBits_xor]
  have h := byte_all ⟨x.toNat, x.toNat_lt⟩
  simp only [UInt8.ofNat_toNat] at h
  rw [h, ← fold_false n 8]
  have h2 := fold_xor (List.replicate 8 false) (bits8 x) n 0 (by simp [bits8])
  rw [← h2, UInt32.xor_zero]
  congr 1
  simp [bits8, List.range, List.range.loop, List.replicate]
theorem fold_bits : ∀ (xs : List UInt8) (n : UInt32), xs.foldl crcByte n = List.foldl bitStep n (bitsOf xs)
  | [], _ => rfl
  | x :: r, n => by
    unfold bitsOf
    rw [List.flatMap_cons, List.foldl_append, List.foldl_cons, crcByte_bits]
    exact fold_bits r _
theorem shr1_toNat (x : UInt32) : (x >>> 1).toNat = x.toNat / 2 := by
  rw [UInt32.toNat_shiftRight]; show x.toNat >>> (1 % 32) = _; rw [Nat.shiftRight_eq_div_pow]
theorem and1_toNat (x : UInt32) : (x &&& 1).toNat = x.toNat % 2 := by rw [UInt32.toNat_and]; exact Nat.and_one_is_mod _
theorem half_small (x : UInt32) (h : (crcBit x).toNat < 2147483648) : x.toNat = 2 * (crcBit x).toNat := by
  have hx := x.toNat_lt
  have h1 := and1_toNat x
  rw [crcBit_eq] at h ⊢
  rcases and1c x with h2 | h2
  · rw [h2] at h1
    simp only [UInt32.toNat_zero] at h1
    rw [if_pos h2, shr1_toNat]
    omega
  · exfalso
    rw [if_neg (by rw [h2]; decide), UInt32.toNat_xor, shr1_toNat] at h
    have hb : (x.toNat / 2 ^^^ (3988292384 : UInt32).toNat).testBit 31 = true := by
      rw [Nat.testBit_xor, Nat.testBit_lt_two_pow (show x.toNat / 2 < 2 ^ 31 by omega)]
      decide
    have := Nat.ge_two_pow_of_testBit hb
    omega
theorem fold_small : ∀ (L : List Bool) (s : UInt32), L.length ≤ 31 → List.foldl bitStep s L = 0 → s.toNat < 2 ^ L.length
  | [], s, _, h => by simp at h; subst h; decide
  | b :: L, s, hl, h => by
    simp only [List.length_cons] at hl ⊢
    have ih := fold_small L (bitStep s b) (by omega) h
    have hp := Nat.pow_le_pow_right (n := 2) (by omega) (show L.length ≤ 30 by omega)
    have h2 := half_small (s ^^^ (if b then 1 else 0)) (by show (bitStep s b).toNat < _; omega)
    have h3 : (s ^^^ (if b then 1 else 0)).toNat = 2 * (bitStep s b).toNat := h2
    rw [UInt32.toNat_xor] at h3
    have h4 : s.toNat = (2 * (bitStep s b).toNat) ^^^ (if b then (1 : UInt32) else 0).toNat := by
      rw [← h3, Nat.xor_assoc, Nat.xor_self, Nat.xor_zero]
    rw [h4]
    apply Nat.xor_lt_two_pow
    · rw [Nat.pow_succ]; omega
    · have : (if b then (1 : UInt32) else 0).toNat ≤ 1 := by cases b <;> decide
      have := Nat.pow_le_pow_right (n := 2) (by omega) (show 1 ≤ L.length + 1 by omega)
      omega
theorem crcBits_zero : ∀ k, crcBits k 0 = 0
  | 0 => rfl
  | k + 1 => by unfold crcBits; rw [show crcBit 0 = 0 by decide]; exact crcBits_zero k
theorem crcBits_inj0 : ∀ (k : Nat) (s : UInt32), crcBits k s = 0 → s = 0
  | 0, s, h => h
  | k + 1, s, h => by
    unfold crcBits at h
    have h1 := crcBits_inj0 k _ h
    have h2 := half_small s (by rw [h1]; decide)
    rw [h1] at h2
    apply UInt32.toNat_inj.1; rw [h2]; rfl
/-- A burst is not told as nought. -/
theorem burst (a r : Nat) (M : List Bool) (hM : M.length ≤ 31) : List.foldl bitStep 0 (List.replicate a false ++ true :: M ++ List.replicate r false) ≠ 0 := by
  intro h
  rw [List.foldl_append, List.foldl_append, fold_false, fold_false, crcBits_zero] at h
  have h1 := crcBits_inj0 _ _ h
  rw [List.foldl_cons] at h1
  have h2 := fold_small M _ hM h1
  have h3 : (bitStep 0 true).toNat = 3988292384 := by decide
  have hp := Nat.pow_le_pow_right (n := 2) (by omega) hM
  omega
/-- Bit k of a text. -/
def tbit (xs : List UInt8) (k : Nat) : Bool := (xs.getD (k / 8) 0).toNat.testBit (k % 8)
theorem bitsOf_length : ∀ xs : List UInt8, (bitsOf xs).length = 8 * xs.length
  | [] => rfl
  | x :: r => by
    have := bitsOf_length r
    unfold bitsOf at *
    rw [List.flatMap_cons, List.length_append, this]; simp [bits8]; omega
theorem bitsOf_get : ∀ (xs : List UInt8) (k : Nat), k < 8 * xs.length → (bitsOf xs)[k]? = some (tbit xs k)
  | [], k, h => by simp at h
  | x :: r, k, h => by
    have ih := bitsOf_get r (k - 8)
    unfold bitsOf at *
    rw [List.flatMap_cons]
    by_cases hk : k < 8
    · rw [List.getElem?_append_left (by simp [bits8, hk])]
      unfold tbit bits8
      rw [Nat.div_eq_of_lt hk, Nat.mod_eq_of_lt hk]
      simp [hk]
    · rw [List.getElem?_append_right (by simp [bits8]; omega)]
      have e : (bits8 x).length = 8 := by simp [bits8]
      rw [e, ih (by simp at h; omega)]
      unfold tbit
      have e1 : k / 8 = (k - 8) / 8 + 1 := by omega
      have e2 : (k - 8) % 8 = k % 8 := by omega
      rw [e1, e2, List.getD_cons_succ]
/-- Texts that differ in a burst have unlike sums. -/
theorem crc_burst (s : UInt32) (xs ys : List UInt8) (f : Nat) (hl : xs.length = ys.length) (hf : f < 8 * xs.length) (h0 : ∀ k, k < f → tbit xs k = tbit ys k) (h1 : tbit xs f ≠ tbit ys f) (h2 : ∀ k, f + 32 ≤ k → tbit xs k = tbit ys k) :
    crcMore s xs ≠ crcMore s ys := by
  intro h
  unfold crcMore at h
  have h := UInt32.not_inj.1 h
  rw [fold_bits, fold_bits] at h
  have hx := fold_xor (bitsOf xs) (bitsOf ys) (~~~s) (~~~s) (by rw [bitsOf_length, bitsOf_length, hl])
  rw [h, UInt32.xor_self, UInt32.xor_self] at hx
  obtain ⟨n, hn⟩ : ∃ n, n = 8 * xs.length := ⟨_, rfl⟩
  have hD : List.zipWith xor (bitsOf xs) (bitsOf ys) = List.replicate f false ++ true :: ((List.zipWith xor (bitsOf xs) (bitsOf ys)).drop (f + 1)).take 31 ++ List.replicate (n - (f + 32)) false := by
    have hlen : (List.zipWith xor (bitsOf xs) (bitsOf ys)).length = n := by rw [List.length_zipWith, bitsOf_length, bitsOf_length, ← hl, ← hn, Nat.min_self]
    have hget : ∀ k, k < n → (List.zipWith xor (bitsOf xs) (bitsOf ys))[k]? = some (xor (tbit xs k) (tbit ys k)) := fun k hk => by
      rw [List.getElem?_zipWith, bitsOf_get xs k (by omega), bitsOf_get ys k (by omega)]
    generalize List.zipWith xor (bitsOf xs) (bitsOf ys) = D at *
    apply List.ext_getElem?
    intro k
    have hM : ((D.drop (f + 1)).take 31).length = min 31 (n - (f + 1)) := by rw [List.length_take, List.length_drop, hlen]
    by_cases k1 : k < f
    · rw [List.append_assoc, List.getElem?_append_left (by simpa using k1), hget k (by omega), h0 k k1, Bool.xor_self]
      simp [k1]
    · rw [List.append_assoc, List.getElem?_append_right (by simp; omega), List.length_replicate]
      by_cases k2 : k = f
      · subst k2
        rw [hget k (by omega), Nat.sub_self]
        have : xor (tbit xs k) (tbit ys k) = true := by
          cases hq : tbit xs k <;> cases hr : tbit ys k <;> simp_all
        rw [this]; rfl
      · obtain ⟨j, rfl⟩ : ∃ j, k = f + 1 + j := ⟨k - (f + 1), by omega⟩
        rw [show f + 1 + j - f = j + 1 by omega]
        rw [List.cons_append, List.getElem?_cons_succ]
        by_cases k3 : j < ((D.drop (f + 1)).take 31).length
        · rw [List.getElem?_append_left k3, List.getElem?_take, if_pos (by omega), List.getElem?_drop]
        · rw [List.getElem?_append_right (by omega), hM]
          by_cases k4 : f + 1 + j < n
          · rw [hget _ k4, h2 _ (by omega), Bool.xor_self]
            rw [List.getElem?_replicate, if_pos (by omega)]
          · rw [List.getElem?_eq_none (by omega), List.getElem?_replicate, if_neg (by omega)]
  rw [hD] at hx
  exact burst f _ _ (by rw [List.length_take]; omega) hx
/-- A bit is turned. -/
def flip (xs : List UInt8) (k : Nat) : List UInt8 := xs.set (k / 8) (xs.getD (k / 8) 0 ^^^ (1 <<< UInt8.ofNat (k % 8)))
theorem flip_length (xs : List UInt8) (k : Nat) : (flip xs k).length = xs.length := by simp [flip]
theorem tbit_flip (xs : List UInt8) (k j : Nat) (hk : k < 8 * xs.length) : tbit (flip xs k) j = xor (tbit xs j) (decide (j = k)) := by
  unfold tbit flip
  by_cases h : j / 8 = k / 8
  · have hlt : k / 8 < xs.length := by omega
    rw [h, List.getD_eq_getElem?_getD, List.getElem?_set_self hlt, Option.getD_some, UInt8.toNat_xor, Nat.testBit_xor]
    congr 1
    have hc : ∀ m : Fin 8, ∀ i : Fin 8, ((1 : UInt8) <<< UInt8.ofNat m.val).toNat.testBit i.val = decide (i.val = m.val) := by decide +kernel
    have := hc ⟨k % 8, Nat.mod_lt _ (by decide)⟩ ⟨j % 8, Nat.mod_lt _ (by decide)⟩
    rw [this]
    apply decide_eq_decide.2
    simp only
    omega
  · have : decide (j = k) = false := by apply decide_eq_false; intro e; exact h (by rw [e])
    rw [this, Bool.xor_false, List.getD_eq_getElem?_getD, List.getElem?_set_ne (fun e => h e.symm), ← List.getD_eq_getElem?_getD]
end Go.Proofs.Ytmlndnfehcafgaa
