/- The reference's sum of chapter 14 is the program's: the rest of polynomials, bit by bit, against the table-free loop. -/
import Derived.Test.YtmlndnfehcafgaaCrcM
set_option linter.unusedVariables false
set_option linter.unusedSimpArgs false
namespace Go.Proofs.Ytmlndnfehcafgaa

def rawBit (xs : List UInt8) (i : Nat) : Bool := if i < 8 * xs.length then (xs.getD (i / 8) 0).toNat.testBit (i % 8) else false
def cStep (c : BitVec 32) (b : Bool) : BitVec 32 := (c >>> 1) ^^^ (if (c.getLsbD 0 ^^ b) then 0xedb88320#32 else 0#32)
def stepN (f : Nat → Bool) : Nat → BitVec 32 → BitVec 32
  | 0, c => c
  | k + 1, c => cStep (stepN f k c) (f k)
theorem stepN_add (f : Nat → Bool) (a : Nat) (c : BitVec 32) : ∀ b, stepN f (a + b) c = stepN (fun i => f (a + i)) b (stepN f a c)
  | 0 => rfl
  | b + 1 => by show cStep (stepN f (a + b) c) (f (a + b)) = cStep (stepN _ b _) (f (a + b)); rw [stepN_add f a c b]
theorem stepN_congr {f g : Nat → Bool} (c : BitVec 32) : ∀ n, (∀ i, i < n → f i = g i) → stepN f n c = stepN g n c
  | 0, _ => rfl
  | n + 1, h => by show cStep _ _ = cStep _ _; rw [stepN_congr c n (fun i hi => h i (by omega)), h n (by omega)]

theorem neg_and1 (n : UInt32) : (-(n &&& 1)).toBitVec = if n.toBitVec.getLsbD 0 then BitVec.allOnes 32 else 0#32 := by
  have h : (n &&& 1).toBitVec = if n.toBitVec.getLsbD 0 then 1#32 else 0#32 := by
    show n.toBitVec &&& 1#32 = _
    apply BitVec.eq_of_getLsbD_eq
    intro i hi
    cases i with
    | zero => rw [BitVec.getLsbD_and]; cases hn : n.toBitVec.getLsbD 0 <;> simp
    | succ i => cases hn : n.toBitVec.getLsbD 0 <;> simp [BitVec.getLsbD_one]
  rw [UInt32.toBitVec_neg, h]
  split <;> decide

theorem crcBit_bv (n : UInt32) : (crcBit n).toBitVec = cStep n.toBitVec false := by
  unfold crcBit cStep
  rw [UInt32.toBitVec_xor, UInt32.toBitVec_and, neg_and1]
  have e1 : (n >>> 1).toBitVec = n.toBitVec >>> 1 := by
    apply BitVec.eq_of_toNat_eq
    show (n >>> 1).toNat = _
    rw [UInt32.toNat_shiftRight]; simp
  rw [e1]
  cases h : n.toBitVec.getLsbD 0 <;> simp

theorem cStep_xor (c y : BitVec 32) : cStep (c ^^^ y) false = cStep c (y.getLsbD 0) ^^^ (y >>> 1) := by
  unfold cStep
  apply BitVec.eq_of_getLsbD_eq
  intro i hi
  simp only [BitVec.getLsbD_xor, BitVec.getLsbD_ushiftRight]
  cases c.getLsbD 0 <;> cases y.getLsbD 0 <;> cases c.getLsbD (1 + i) <;> cases y.getLsbD (1 + i) <;> simp

theorem crcBits_bv (n : UInt32) (x : UInt8) : ∀ j, (crcBits j (n ^^^ x.toUInt32)).toBitVec = stepN (fun i => x.toNat.testBit i) j n.toBitVec ^^^ (x.toUInt32.toBitVec >>> j)
  | 0 => by simp [crcBits, stepN]
  | j + 1 => by
    rw [crcBits_succ, crcBit_bv, crcBits_bv n x j, cStep_xor]
    have e1 : (x.toUInt32.toBitVec >>> j).getLsbD 0 = x.toNat.testBit j := by
      rw [BitVec.getLsbD_ushiftRight]; show x.toUInt32.toNat.testBit (j + 0) = _; rw [UInt8.toNat_toUInt32]; simp
    rw [e1, ← BitVec.shiftRight_add]
    rfl

theorem crcByte_bv (n : UInt32) (x : UInt8) : (crcByte n x).toBitVec = stepN (fun i => x.toNat.testBit i) 8 n.toBitVec := by
  unfold crcByte
  rw [crcBits_bv]
  have : x.toUInt32.toBitVec >>> 8 = 0#32 := by
    apply BitVec.eq_of_toNat_eq
    rw [BitVec.toNat_ushiftRight]
    show x.toUInt32.toNat >>> 8 = _
    rw [UInt8.toNat_toUInt32, Nat.shiftRight_eq_div_pow]
    have := x.toNat_lt
    simp; omega
  rw [this]; simp

theorem fold_bv (xs : List UInt8) (s : UInt32) : ∀ j, j ≤ xs.length → ((xs.take j).foldl crcByte s).toBitVec = stepN (rawBit xs) (8 * j) s.toBitVec
  | 0, _ => by simp [stepN]
  | j + 1, h => by
    rw [List.take_succ_eq_append_getElem (by omega), List.foldl_append]
    show (crcByte _ _).toBitVec = _
    rw [crcByte_bv, fold_bv xs s j (by omega), show 8 * (j + 1) = 8 * j + 8 by omega, stepN_add]
    apply stepN_congr
    intro i hi
    unfold rawBit
    rw [if_pos (by omega), show (8 * j + i) / 8 = j by omega, show (8 * j + i) % 8 = i by omega]
    simp [show j < xs.length by omega]

/-! The reference's state, turned round. -/
def vStep (v : BitVec 32) (b : Bool) : BitVec 32 := ((v >>> 1) ||| (if b then 0x80000000#32 else 0#32)) ^^^ (if v.getLsbD 0 then 0xedb88320#32 else 0#32)
def inBit (xs : List UInt8) (i : Nat) : Bool := rawBit xs i ^^ decide (i < 32)
def vN (xs : List UInt8) : Nat → BitVec 32
  | 0 => 0#32
  | k + 1 => vStep (vN xs k) (inBit xs k)
def Rel (r : UInt64) (v : BitVec 32) : Prop := ∀ i, r.toNat.testBit i = (decide (i < 32) && v.getLsbD (31 - i))

theorem refBit_bool (xs : List UInt8) (i : Nat) : refBit xs i = if inBit xs i then 1 else 0 := by
  have h0 : refBit0 xs i = if rawBit xs i then 1 else 0 := by
    unfold refBit0 rawBit
    split
    · apply UInt64.toNat_inj.1
      rw [UInt64.toNat_and, UInt64.toNat_shiftRight, UInt8.toNat_toUInt64, UInt64.toNat_ofNat', Nat.mod_eq_of_lt (show i % 8 < 2 ^ 64 by omega), Nat.mod_eq_of_lt (show i % 8 < 64 by omega)]
      show _ &&& 1 = _
      rw [Nat.and_one_is_mod, Nat.shiftRight_eq_div_pow]
      have : (xs.getD (i / 8) 0).toNat.testBit (i % 8) = decide ((xs.getD (i / 8) 0).toNat / 2 ^ (i % 8) % 2 = 1) := by
        rw [Nat.testBit_eq_decide_div_mod_eq]
      rw [this]
      by_cases h : (xs.getD (i / 8) 0).toNat / 2 ^ (i % 8) % 2 = 1
      · rw [decide_eq_true h, if_pos rfl, h]; rfl
      · rw [decide_eq_false h]; simp only [Bool.false_eq_true, if_false]; show _ = 0; omega
    · simp
  unfold refBit inBit
  rw [h0]
  by_cases h : i < 32 <;> cases rawBit xs i <;> simp [h]

theorem poly_bits : ∀ i, i < 32 → (4374732215 : Nat).testBit i = (0xedb88320#32).getLsbD (31 - i) := by decide

theorem Rel.step {r : UInt64} {v : BitVec 32} (h : Rel r v) (b : Bool) : Rel (refStep r (if b then 1 else 0)) (vStep v b) := by
  have hlt : r.toNat < 2 ^ 32 := by
    apply Nat.lt_pow_two_of_testBit
    intro i hi
    rw [h i]; simp [show ¬ i < 32 by omega]
  have hb : (if b then (1 : UInt64) else 0).toNat = if b then 1 else 0 := by cases b <;> rfl
  have hT : (2 * r + (if b then (1 : UInt64) else 0)).toNat = 2 * r.toNat + (if b then 1 else 0) := by
    rw [UInt64.toNat_add, UInt64.toNat_mul, hb, show (2 : UInt64).toNat = 2 from rfl, Nat.mod_eq_of_lt (show 2 * r.toNat < 2 ^ 64 by omega)]
    exact Nat.mod_eq_of_lt (by split <;> omega)
  have hbit : ∀ i, (2 * r.toNat + (if b then 1 else 0)).testBit i = if i = 0 then b else r.toNat.testBit (i - 1) := by
    intro i
    cases i with
    | zero => rw [Nat.testBit_zero]; cases b <;> simp <;> omega
    | succ i => rw [Nat.testBit_succ, show (2 * r.toNat + (if b then 1 else 0)) / 2 = r.toNat by split <;> omega]; simp
  have htop : ((2 * r + (if b then (1 : UInt64) else 0)) >>> 32 = 1) ↔ v.getLsbD 0 = true := by
    rw [← UInt64.toNat_inj, UInt64.toNat_shiftRight, hT]
    show (2 * r.toNat + _) >>> 32 = 1 ↔ _
    have h31 := h 31
    simp only [show (31 : Nat) < 32 by omega, decide_true, Bool.true_and, Nat.sub_self] at h31
    rw [← h31, Nat.testBit_eq_decide_div_mod_eq, Nat.shiftRight_eq_div_pow]
    cases b <;> simp <;> omega
  intro i
  have hv : (vStep v b).getLsbD (31 - i) = ((v.getLsbD (1 + (31 - i)) || (b && decide (31 - i = 31))) ^^ (v.getLsbD 0 && (0xedb88320#32).getLsbD (31 - i))) := by
    unfold vStep
    rw [BitVec.getLsbD_xor, BitVec.getLsbD_or, BitVec.getLsbD_ushiftRight]
    have e : (0x80000000#32).getLsbD (31 - i) = decide (31 - i = 31) := by
      have : ∀ j, j < 32 → (0x80000000#32).getLsbD j = decide (j = 31) := by decide
      exact this _ (by omega)
    cases b <;> cases v.getLsbD 0 <;> simp [e]
  rw [hv]
  by_cases hi : i < 32
  · have hbi := hbit i
    have hvi : (if i = 0 then b else r.toNat.testBit (i - 1)) = (v.getLsbD (1 + (31 - i)) || (b && decide (31 - i = 31))) := by
      by_cases h0 : i = 0
      · subst h0; simp
      · rw [if_neg h0, h (i - 1), show 31 - (i - 1) = 1 + (31 - i) by omega]
        simp [show i - 1 < 32 by omega, show ¬ 31 - i = 31 by omega]
    simp only [hi, decide_true, Bool.true_and]
    unfold refStep
    by_cases ht : v.getLsbD 0 = true
    · rw [if_pos (htop.2 ht), UInt64.toNat_xor, hT, Nat.testBit_xor, hbi, hvi, ht, show (4374732215 : UInt64).toNat = 4374732215 from rfl, poly_bits i hi]; simp
    · rw [if_neg (fun hx => ht (htop.1 hx)), hT, hbi, hvi, show v.getLsbD 0 = false by simpa using ht]; simp
  · simp only [hi, decide_false, Bool.false_and]
    unfold refStep
    by_cases ht : v.getLsbD 0 = true
    · rw [if_pos (htop.2 ht), UInt64.toNat_xor, hT, Nat.testBit_xor, hbit i, if_neg (by omega), h (i - 1), show (4374732215 : UInt64).toNat = 4374732215 from rfl]
      by_cases h32 : i = 32
      · subst h32; rw [show 31 - (32 - 1) = 0 from rfl, ht]; decide
      · have : (4374732215 : Nat).testBit i = false := Nat.testBit_lt_two_pow (Nat.lt_of_lt_of_le (show 4374732215 < 2 ^ 33 by decide) (Nat.pow_le_pow_right (by omega) (by omega)))
        rw [this]; simp [show ¬ i - 1 < 32 by omega]
    · rw [if_neg (fun hx => ht (htop.1 hx)), hT, hbit i, if_neg (by omega), h (i - 1)]
      by_cases h32 : i = 32
      · subst h32; rw [show 31 - (32 - 1) = 0 from rfl, show v.getLsbD 0 = false by simpa using ht]; decide
      · simp [show ¬ i - 1 < 32 by omega]

theorem rest_rel (xs : List UInt8) : ∀ k, Rel (refRest xs k) (vN xs k)
  | 0 => fun i => by simp [refRest, vN]
  | k + 1 => by
    show Rel (refStep (refRest xs k) (refBit xs k)) (vStep (vN xs k) (inBit xs k))
    rw [refBit_bool]; exact (rest_rel xs k).step _

theorem v_early (xs : List UInt8) : ∀ j, j ≤ 32 → ∀ i, i < 32 → (vN xs j).getLsbD i = (decide (32 - j ≤ i) && inBit xs (i - (32 - j)))
  | 0, _, i, hi => by simp [vN, show ¬ 32 ≤ i by omega]
  | j + 1, hj, i, hi => by
    have ih := v_early xs j (by omega)
    have h0 : (vN xs j).getLsbD 0 = false := by rw [ih 0 (by omega)]; simp [show ¬ 32 - j ≤ 0 by omega]
    show (vStep (vN xs j) (inBit xs j)).getLsbD i = _
    unfold vStep
    rw [h0]
    simp only [Bool.false_eq_true, if_false, BitVec.xor_zero, BitVec.getLsbD_or, BitVec.getLsbD_ushiftRight]
    have e : (0x80000000#32).getLsbD i = decide (i = 31) := by
      have : ∀ j, j < 32 → (0x80000000#32).getLsbD j = decide (j = 31) := by decide
      exact this _ hi
    by_cases h31 : i = 31
    · subst h31
      rw [BitVec.getLsbD_of_ge _ _ (by omega), show 31 - (32 - (j + 1)) = j by omega]
      cases inBit xs j <;> simp [e, show 32 - (j + 1) ≤ 31 by omega]
    · rw [ih (1 + i) (by omega), show 1 + i - (32 - j) = i - (32 - (j + 1)) by omega]
      have hd : decide (32 - j ≤ 1 + i) = decide (32 - (j + 1) ≤ i) := by congr 1; apply propext; omega
      rw [hd]
      cases inBit xs j <;> simp [e, h31]

def wr (xs : List UInt8) (k : Nat) : BitVec 32 := (BitVec.ofBoolListLE ((List.range 32).map fun i => rawBit xs (k + i))).setWidth 32
theorem wr_get (xs : List UInt8) (k i : Nat) (hi : i < 32) : (wr xs k).getLsbD i = rawBit xs (k + i) := by
  unfold wr; rw [BitVec.getLsbD_setWidth, BitVec.getLsbD_ofBoolListLE]; simp [hi]

theorem v_late (xs : List UInt8) : ∀ k, vN xs (32 + k) = stepN (rawBit xs) k (BitVec.allOnes 32) ^^^ wr xs k
  | 0 => by
    apply BitVec.eq_of_getLsbD_eq
    intro i hi
    rw [v_early xs 32 (by omega) i hi, BitVec.getLsbD_xor, wr_get xs 0 i hi]
    show _ = ((BitVec.allOnes 32).getLsbD i ^^ _)
    rw [BitVec.getLsbD_allOnes]
    simp [inBit, hi]
  | k + 1 => by
    show vStep (vN xs (32 + k)) (inBit xs (32 + k)) = cStep (stepN (rawBit xs) k _) (rawBit xs k) ^^^ _
    rw [v_late xs k]
    have hin : inBit xs (32 + k) = rawBit xs (k + 32) := by unfold inBit; rw [Nat.add_comm 32 k, decide_eq_false (by omega)]; simp
    rw [hin]
    generalize stepN (rawBit xs) k (BitVec.allOnes 32) = c
    apply BitVec.eq_of_getLsbD_eq
    intro i hi
    have e : (0x80000000#32).getLsbD i = decide (i = 31) := by
      have : ∀ j, j < 32 → (0x80000000#32).getLsbD j = decide (j = 31) := by decide
      exact this _ hi
    unfold vStep cStep
    have hw0 : (wr xs k).getLsbD 0 = rawBit xs k := wr_get xs k 0 (by omega)
    simp only [BitVec.getLsbD_xor, BitVec.getLsbD_or, BitVec.getLsbD_ushiftRight, hw0, wr_get xs (k + 1) i hi]
    by_cases h31 : i = 31
    · subst h31
      rw [BitVec.getLsbD_of_ge (wr xs k) _ (by omega), BitVec.getLsbD_of_ge c _ (by omega), show k + 1 + 31 = k + 32 by omega]
      cases c.getLsbD 0 <;> cases rawBit xs k <;> cases rawBit xs (k + 32) <;> simp
    · rw [wr_get xs k (1 + i) (by omega), show k + (1 + i) = k + 1 + i by omega]
      generalize (0xedb88320#32).getLsbD i = p
      cases hc : c.getLsbD 0 <;> cases rawBit xs k <;> cases rawBit xs (k + 32) <;> cases c.getLsbD (1 + i) <;> cases rawBit xs (k + 1 + i) <;> cases p <;> simp_all

theorem v_end (xs : List UInt8) : vN xs (8 * xs.length + 32) = stepN (rawBit xs) (8 * xs.length) (BitVec.allOnes 32) := by
  rw [Nat.add_comm, v_late]
  have : wr xs (8 * xs.length) = 0#32 := by
    apply BitVec.eq_of_getLsbD_eq
    intro i hi
    rw [wr_get _ _ _ hi]; unfold rawBit; rw [if_neg (by omega)]; simp
  rw [this]; simp

def qN (r : Nat) : Nat → Nat
  | 0 => 0
  | k + 1 => 2 * qN r k + (if r.testBit k then 0 else 1)
theorem qN_lt (r : Nat) : ∀ k, qN r k < 2 ^ k
  | 0 => by simp [qN]
  | k + 1 => by have := qN_lt r k; rw [Nat.pow_succ]; show 2 * qN r k + _ < _; split <;> omega
theorem qN_bit (r : Nat) : ∀ k j, j < k → (qN r k).testBit j = !(r.testBit (k - 1 - j))
  | 0, j, h => by omega
  | k + 1, 0, _ => by
    show (2 * qN r k + _).testBit 0 = _
    rw [Nat.testBit_zero]
    cases hb : r.testBit k <;> simp [hb] <;> omega
  | k + 1, j + 1, h => by
    show (2 * qN r k + _).testBit (j + 1) = _
    rw [Nat.testBit_succ, show (2 * qN r k + (if r.testBit k then 0 else 1)) / 2 = qN r k by split <;> omega, qN_bit r k j (by omega)]
    congr 2; omega
theorem refOut_q (r : UInt64) : ∀ k, k ≤ 32 → (refOut r k).toNat = qN r.toNat k * 2 ^ (32 - k)
  | 0, _ => by simp [refOut, qN]
  | k + 1, hk => by
    have ih := refOut_q r k (by omega)
    have hq := qN_lt r.toNat k
    have hbit : ((r >>> UInt64.ofNat k) &&& 1 = 0) ↔ r.toNat.testBit k = false := by
      rw [← UInt64.toNat_inj, UInt64.toNat_and, UInt64.toNat_shiftRight, UInt64.toNat_ofNat', Nat.mod_eq_of_lt (show k < 2 ^ 64 by omega), Nat.mod_eq_of_lt (show k < 64 by omega)]
      show _ &&& 1 = 0 ↔ _
      rw [Nat.and_one_is_mod, Nat.shiftRight_eq_div_pow, Nat.testBit_eq_decide_div_mod_eq]
      simp
    have hp : (1 <<< UInt32.ofNat (31 - k) : UInt32).toNat = 2 ^ (31 - k) := by
      rw [UInt32.toNat_shiftLeft, UInt32.toNat_ofNat', Nat.mod_eq_of_lt (show 31 - k < 2 ^ 32 by omega), Nat.mod_eq_of_lt (show 31 - k < 32 by omega)]
      show 1 <<< (31 - k) % 2 ^ 32 = _
      rw [Nat.shiftLeft_eq, Nat.one_mul]
      exact Nat.mod_eq_of_lt (Nat.pow_lt_pow_right (by omega) (by omega))
    have hpow : 2 ^ (32 - k) = 2 * 2 ^ (31 - k) := by rw [← Nat.pow_succ']; congr 1; omega
    have h32 : 2 ^ k * 2 ^ (31 - k) = 2 ^ 31 := by rw [← Nat.pow_add]; congr 1; omega
    show (if _ then _ else _ : UInt32).toNat = (2 * qN r.toNat k + _) * 2 ^ (32 - (k + 1))
    rw [show 32 - (k + 1) = 31 - k by omega]
    by_cases hb : r.toNat.testBit k = false
    · rw [if_pos (hbit.2 hb), hb, UInt32.toNat_add, hp, ih, hpow]
      simp only [Bool.false_eq_true, if_false]
      have hle : (2 * qN r.toNat k + 1) * 2 ^ (31 - k) < 2 ^ 32 := by
        have h1 : 2 * qN r.toNat k + 1 < 2 * 2 ^ k := by omega
        calc _ < (2 * 2 ^ k) * 2 ^ (31 - k) := Nat.mul_lt_mul_of_pos_right h1 (Nat.pow_pos (by omega))
          _ = 2 ^ 32 := by rw [Nat.mul_assoc, h32]
      rw [show qN r.toNat k * (2 * 2 ^ (31 - k)) + 2 ^ (31 - k) = (2 * qN r.toNat k + 1) * 2 ^ (31 - k) by rw [Nat.add_mul, Nat.one_mul, ← Nat.mul_assoc, Nat.mul_comm (qN r.toNat k) 2]]
      exact Nat.mod_eq_of_lt hle
    · rw [if_neg (fun hx => hb (hbit.1 hx)), ih, hpow]
      simp only [Bool.not_eq_false] at hb
      rw [hb]; simp only [if_true, Nat.add_zero]
      rw [← Nat.mul_assoc, Nat.mul_comm (qN r.toNat k) 2]

/-- THE REFERENCE's SUM IS THE PROGRAM's. -/
theorem refSum_eq (xs : List UInt8) : refOut (refRest xs (8 * xs.length + 32)) 32 = crcMore 0 xs := by
  apply UInt32.toBitVec_inj.1
  have h1 := fold_bv xs (~~~0) xs.length (Nat.le_refl _)
  rw [List.take_length] at h1
  unfold crcMore
  rw [UInt32.toBitVec_not, h1]
  have e0 : (~~~(0 : UInt32)).toBitVec = BitVec.allOnes 32 := by decide
  rw [e0, ← v_end]
  apply BitVec.eq_of_getLsbD_eq
  intro i hi
  show (refOut _ 32).toNat.testBit i = _
  rw [refOut_q _ 32 (by omega)]
  simp only [Nat.sub_self, Nat.pow_zero, Nat.mul_one]
  rw [qN_bit _ 32 i hi, rest_rel xs _ (32 - 1 - i), BitVec.getLsbD_not]
  simp [hi, show 31 - i < 32 by omega, show 31 - (31 - i) = i by omega]
end Go.Proofs.Ytmlndnfehcafgaa
