/- Powers in digits to the base 65536, roots, primes: plain Lean. -/
import Derived.Test.YtbdgnlbbijpfmaaShaM
set_option linter.unusedVariables false
set_option linter.unusedSimpArgs false
namespace Go.Proofs.Ytbdgnlbbijpfmaa

def mulN (q : List Nat) (pi i x : Nat) : Nat → List Nat
  | 0 => q
  | j + 1 => (mulN q pi i x j).set (i + j) (((mulN q pi i x j).getD (i + j) 0 + pi * (x / 65536 ^ j % 65536) % 18446744073709551616) % 18446744073709551616)
def carA (q : List Nat) (j : Nat) : List Nat := q.set (j + 1) ((q.getD (j + 1) 0 + q.getD j 0 / 65536 % 18446744073709551616) % 18446744073709551616)
def carN (q : List Nat) : Nat → List Nat
  | 0 => q
  | j + 1 => (carA (carN q j) j).set j ((carA (carN q j) j).getD j 0 % 65536)
def zer12 : List Nat := List.replicate 12 0
def stepN (p : List Nat) (x : Nat) : Nat → List Nat
  | 0 => zer12
  | i + 1 => carN (mulN (stepN p x i) (p.getD i 0) i x (12 - i)) 11
def powN (x : Nat) : Nat → List Nat
  | 0 => zer12.set 0 1
  | n + 1 => stepN (powN x n) x 12
def aboveN (d e : List Nat) : Nat → Bool
  | 0 => false
  | i + 1 => if d.getD i 0 = e.getD i 0 then aboveN d e i else decide (e.getD i 0 < d.getD i 0)
def rootD (p n : Nat) : Nat → Nat
  | 0 => 0
  | k + 1 => if aboveN (powN (rootD p n k + 2 ^ (37 - k)) n) (zer12.set (2 * n) p) 12 = true then rootD p n k else rootD p n k + 2 ^ (37 - k)
/-- The same by the number itself. -/
def rootF (p n : Nat) : Nat → Nat
  | 0 => 0
  | k + 1 => if p * 2 ^ (32 * n) < (rootF p n k + 2 ^ (37 - k)) ^ n then rootF p n k else rootF p n k + 2 ^ (37 - k)

def val : List Nat → Nat
  | [] => 0
  | d :: r => d + 65536 * val r
theorem val_set : ∀ (L : List Nat) (i v : Nat), i < L.length → val (L.set i v) + L.getD i 0 * 65536 ^ i = val L + v * 65536 ^ i
  | [], i, v, h => by simp at h
  | d :: r, 0, v, _ => by simp [val]; omega
  | d :: r, i + 1, v, h => by
    have ih := val_set r i v (by simpa using h)
    simp only [List.set_cons_succ, val, List.getD_cons_succ]
    have e : (65536 : Nat) ^ (i + 1) = 65536 * 65536 ^ i := by rw [Nat.pow_succ, Nat.mul_comm]
    rw [e, Nat.mul_left_comm, Nat.mul_left_comm v]
    omega
theorem getD_set_self (L : List Nat) (i v : Nat) (h : i < L.length) : (L.set i v).getD i 0 = v := by simp [h]
theorem getD_set_ne (L : List Nat) (i j v : Nat) (h : i ≠ j) : (L.set i v).getD j 0 = L.getD j 0 := by
  rw [List.getD_eq_getElem?_getD, List.getD_eq_getElem?_getD, List.getElem?_set_ne h]
theorem mulN_length (q : List Nat) (pi i x : Nat) : ∀ j, (mulN q pi i x j).length = q.length
  | 0 => rfl
  | j + 1 => by unfold mulN; rw [List.length_set, mulN_length q pi i x j]
theorem carA_length (q : List Nat) (j : Nat) : (carA q j).length = q.length := by simp [carA]
theorem carN_length (q : List Nat) : ∀ j, (carN q j).length = q.length
  | 0 => rfl
  | j + 1 => by unfold carN; rw [List.length_set, carA_length, carN_length q j]
theorem stepN_length (p : List Nat) (x : Nat) : ∀ i, (stepN p x i).length = 12
  | 0 => rfl
  | i + 1 => by unfold stepN; rw [carN_length, mulN_length, stepN_length p x i]
theorem powN_length (x : Nat) : ∀ n, (powN x n).length = 12
  | 0 => rfl
  | n + 1 => stepN_length _ _ _
/-- Digits below 65536. -/
def Nm (L : List Nat) : Prop := ∀ k, L.getD k 0 < 65536
theorem mulN_spec {q : List Nat} {pi i x : Nat} (hq : q.length = 12) (hn : Nm q) (hp : pi < 65536) : ∀ j, i + j ≤ 12 →
    (∀ k, i + j ≤ k → (mulN q pi i x j).getD k 0 = q.getD k 0) ∧ (∀ k, (mulN q pi i x j).getD k 0 < 4294967296) ∧ val (mulN q pi i x j) = val q + pi * (x % 65536 ^ j) * 65536 ^ i
  | 0, _ => ⟨fun _ _ => rfl, fun k => by have := hn k; simp only [mulN]; omega, by simp [mulN, Nat.mod_one]⟩
  | j + 1, h => by
    obtain ⟨h1, h2, h3⟩ := mulN_spec (i := i) (x := x) hq hn hp j (by omega)
    have hl := mulN_length q pi i x j
    have hc := h1 (i + j) (Nat.le_refl _)
    have hcl := hn (i + j)
    have hy : x / 65536 ^ j % 65536 < 65536 := Nat.mod_lt _ (by decide)
    have hm := Nat.mul_le_mul (show pi ≤ 65535 by omega) (show x / 65536 ^ j % 65536 ≤ 65535 by omega)
    have hv : ((mulN q pi i x j).getD (i + j) 0 + pi * (x / 65536 ^ j % 65536) % 18446744073709551616) % 18446744073709551616 = q.getD (i + j) 0 + pi * (x / 65536 ^ j % 65536) := by
      rw [hc]; generalize pi * (x / 65536 ^ j % 65536) = m at *; omega
    unfold mulN
    rw [hv]
    refine ⟨fun k hk => ?_, fun k => ?_, ?_⟩
    · rw [getD_set_ne _ (i + j) k _ (by omega)]; exact h1 k (by omega)
    · by_cases e : i + j = k
      · subst e
        rw [getD_set_self _ _ _ (by omega)]
        generalize pi * (x / 65536 ^ j % 65536) = m at *; omega
      · rw [getD_set_ne _ _ _ _ e]; exact h2 k
    · have hs := val_set (mulN q pi i x j) (i + j) (q.getD (i + j) 0 + pi * (x / 65536 ^ j % 65536)) (by omega)
      rw [hc, h3, Nat.add_mul] at hs
      have e : pi * (x % 65536 ^ (j + 1)) * 65536 ^ i = pi * (x % 65536 ^ j) * 65536 ^ i + pi * (x / 65536 ^ j % 65536) * 65536 ^ (i + j) := by
        rw [Nat.mod_pow_succ, Nat.mul_add, Nat.add_mul, Nat.pow_add]
        refine congrArg (pi * (x % 65536 ^ j) * 65536 ^ i + ·) ?_
        generalize x / 65536 ^ j % 65536 = Y
        generalize 65536 ^ j = B
        generalize 65536 ^ i = A
        rw [Nat.mul_comm B Y, ← Nat.mul_assoc pi, Nat.mul_assoc (pi * Y), Nat.mul_comm B A]
      rw [e]; omega
theorem carN_spec {r : List Nat} (hr : r.length = 12) (hb : ∀ k, r.getD k 0 < 4294967296) : ∀ j, j ≤ 11 →
    (∀ k, k < j → (carN r j).getD k 0 < 65536) ∧ (∀ k, j < k → (carN r j).getD k 0 = r.getD k 0) ∧ (carN r j).getD j 0 < 8589934592 ∧ val (carN r j) = val r
  | 0, _ => ⟨fun k h => by omega, fun k _ => rfl, by have := hb 0; simp only [carN]; omega, rfl⟩
  | j + 1, h => by
    obtain ⟨h1, h2, h3, h4⟩ := carN_spec hr hb j (by omega)
    have hl := carN_length r j
    have hc := h2 (j + 1) (by omega)
    have hcl := hb (j + 1)
    have hv : ((carN r j).getD (j + 1) 0 + (carN r j).getD j 0 / 65536 % 18446744073709551616) % 18446744073709551616 = r.getD (j + 1) 0 + (carN r j).getD j 0 / 65536 := by rw [hc]; omega
    have hA : carA (carN r j) j = (carN r j).set (j + 1) (r.getD (j + 1) 0 + (carN r j).getD j 0 / 65536) := by unfold carA; rw [hv]
    have hAl := carA_length (carN r j) j
    have hAj : (carA (carN r j) j).getD j 0 = (carN r j).getD j 0 := by rw [hA, getD_set_ne _ (j + 1) j _ (by omega)]
    have hA1 : (carA (carN r j) j).getD (j + 1) 0 = r.getD (j + 1) 0 + (carN r j).getD j 0 / 65536 := by rw [hA, getD_set_self _ _ _ (by omega)]
    have hvA := val_set (carN r j) (j + 1) (r.getD (j + 1) 0 + (carN r j).getD j 0 / 65536) (by omega)
    rw [← hA, hc] at hvA
    unfold carN
    rw [hAj]
    refine ⟨fun k hk => ?_, fun k hk => ?_, ?_, ?_⟩
    · by_cases e : j = k
      · subst e; rw [getD_set_self _ _ _ (by omega)]; exact Nat.mod_lt _ (by decide)
      · rw [getD_set_ne _ _ _ _ e, hA, getD_set_ne _ (j + 1) k _ (by omega)]; exact h1 k (by omega)
    · rw [getD_set_ne _ j k _ (by omega), hA, getD_set_ne _ (j + 1) k _ (by omega)]; exact h2 k (by omega)
    · rw [getD_set_ne _ j (j + 1) _ (by omega), hA1]; omega
    · have hvB := val_set (carA (carN r j) j) j ((carN r j).getD j 0 % 65536) (by omega)
      rw [hAj] at hvB
      have e1 : (65536 : Nat) ^ (j + 1) = 65536 * 65536 ^ j := by rw [Nat.pow_succ, Nat.mul_comm]
      have e2 : (carN r j).getD j 0 * 65536 ^ j = ((carN r j).getD j 0 / 65536) * 65536 ^ (j + 1) + ((carN r j).getD j 0 % 65536) * 65536 ^ j := by
        rw [e1, ← Nat.mul_assoc, ← Nat.add_mul]; congr 1; omega
      rw [Nat.add_mul] at hvA
      omega
theorem val_ge : ∀ (L : List Nat) (i : Nat), L.getD i 0 * 65536 ^ i ≤ val L
  | [], i => by simp
  | d :: r, 0 => by simp [val]
  | d :: r, i + 1 => by
    have := val_ge r i
    simp only [List.getD_cons_succ, val]
    have e : (65536 : Nat) ^ (i + 1) = 65536 * 65536 ^ i := by rw [Nat.pow_succ, Nat.mul_comm]
    rw [e, Nat.mul_left_comm]; omega
theorem val_take : ∀ (L : List Nat) (i : Nat), val (L.take (i + 1)) = val (L.take i) + L.getD i 0 * 65536 ^ i
  | [], i => by simp [val]
  | d :: r, 0 => by simp [val]
  | d :: r, i + 1 => by
    have := val_take r i
    simp only [List.take_succ_cons, val, List.getD_cons_succ]
    have e : (65536 : Nat) ^ (i + 1) = 65536 * 65536 ^ i := by rw [Nat.pow_succ, Nat.mul_comm]
    rw [this, e, Nat.mul_left_comm]; omega
theorem val_take_le (L : List Nat) : ∀ i, val (L.take i) ≤ val L := by
  induction L with
  | nil => intro i; simp
  | cons d r ih => intro i; cases i with
    | zero => simp [val]
    | succ i => simp only [List.take_succ_cons, val]; have := ih i; omega
theorem stepN_spec {p : List Nat} {x : Nat} (hp : Nm p) (hv : val p < 65536 ^ 8) (hx : x < 65536 ^ 3) : ∀ i, i ≤ 12 → Nm (stepN p x i) ∧ val (stepN p x i) = x * val (p.take i)
  | 0, _ => ⟨fun k => by
      show zer12.getD k 0 < 65536
      have : zer12.getD k 0 = 0 := by unfold zer12; rw [List.getD_eq_getElem?_getD, List.getElem?_replicate]; split <;> rfl
      omega, by simp [stepN, val]; rfl⟩
  | i + 1, h => by
    obtain ⟨h1, h2⟩ := stepN_spec hp hv hx i (by omega)
    have hl := stepN_length p x i
    obtain ⟨_, m2, m3⟩ := mulN_spec (i := i) (x := x) hl h1 (hp i) (12 - i) (by omega)
    have hml := mulN_length (stepN p x i) (p.getD i 0) i x (12 - i)
    obtain ⟨c1, c2, c3, c4⟩ := carN_spec (by rw [hml]; exact hl) m2 11 (Nat.le_refl _)
    have hst : stepN p x (i + 1) = carN (mulN (stepN p x i) (p.getD i 0) i x (12 - i)) 11 := rfl
    have hval : val (stepN p x (i + 1)) = x * val (p.take (i + 1)) := by
      rw [hst, c4, m3, h2, val_take, Nat.mul_add]
      refine congrArg (x * val (p.take i) + ·) ?_
      by_cases h8 : i < 8
      · have hle := Nat.pow_le_pow_right (n := 65536) (by omega) (show 3 ≤ 12 - i by omega)
        rw [Nat.mod_eq_of_lt (by omega), Nat.mul_comm (p.getD i 0), Nat.mul_assoc]
      · have h0 : p.getD i 0 = 0 := by
          have hg := val_ge p i
          have hle := Nat.pow_le_pow_right (n := 65536) (by omega) (show 8 ≤ i by omega)
          apply Classical.byContradiction
          intro hne
          have := Nat.mul_le_mul_right (65536 ^ i) (show 1 ≤ p.getD i 0 by omega)
          omega
        rw [h0]; simp
    refine ⟨fun k => ?_, hval⟩
    have hL : (stepN p x (i + 1)).length = 12 := stepN_length p x (i + 1)
    by_cases hk : k < 11
    · rw [hst]; exact c1 k hk
    · by_cases hk2 : k = 11
      · subst hk2
        have hg := val_ge (stepN p x (i + 1)) 11
        rw [hval] at hg
        have ht := val_take_le p (i + 1)
        have hb := Nat.mul_lt_mul'' hx (Nat.lt_of_le_of_lt ht hv)
        generalize x * val (p.take (i + 1)) = m at *
        generalize (stepN p x (i + 1)).getD 11 0 = d at *
        rw [← Nat.pow_add] at hb
        apply Classical.byContradiction
        intro hc
        have h65 : 1 * 65536 ^ 11 ≤ d * 65536 ^ 11 := Nat.mul_le_mul_right _ (by omega)
        have e : (65536 : Nat) ^ (3 + 8) = 1 * 65536 ^ 11 := by rw [Nat.one_mul]
        rw [e] at hb
        exact Nat.lt_irrefl _ (Nat.lt_of_lt_of_le hb (Nat.le_trans h65 hg))
      · rw [List.getD_eq_getElem?_getD, List.getElem?_eq_none (by omega)]; decide
theorem powN_spec {x : Nat} (hx : x < 2 ^ 38) : ∀ n, n ≤ 3 → Nm (powN x n) ∧ val (powN x n) = x ^ n
  | 0, _ => ⟨fun k => by
      show (zer12.set 0 1).getD k 0 < 65536
      by_cases h : 0 = k
      · subst h; decide
      · rw [getD_set_ne _ _ _ _ h]
        have : zer12.getD k 0 = 0 := by unfold zer12; rw [List.getD_eq_getElem?_getD, List.getElem?_replicate]; split <;> rfl
        omega, rfl⟩
  | n + 1, h => by
    obtain ⟨h1, h2⟩ := powN_spec hx n (by omega)
    have hb : x ^ n < 65536 ^ 8 := by
      have := Nat.pow_le_pow_left (Nat.le_of_lt hx) n
      have h3 := Nat.pow_le_pow_right (n := 2 ^ 38) (by decide) (show n ≤ 3 by omega)
      have h4 : ((2 : Nat) ^ 38) ^ 3 < 65536 ^ 8 := by decide
      omega
    have hx3 : x < 65536 ^ 3 := Nat.lt_trans hx (by decide)
    obtain ⟨s1, s2⟩ := stepN_spec h1 (by rw [h2]; exact hb) hx3 12 (Nat.le_refl _)
    refine ⟨s1, ?_⟩
    show val (stepN (powN x n) x 12) = _
    rw [s2, List.take_of_length_le (by rw [powN_length]; decide), h2, Nat.pow_succ, Nat.mul_comm]
theorem val_take_lt (L : List Nat) (h : Nm L) : ∀ i, val (L.take i) < 65536 ^ i
  | 0 => by simp [val]
  | i + 1 => by
    rw [val_take, Nat.pow_succ]
    have h1 := val_take_lt L h i
    have h2 := Nat.mul_le_mul_right (65536 ^ i) (show L.getD i 0 ≤ 65535 by have := h i; omega)
    omega
theorem aboveN_spec (d e : List Nat) (hd : Nm d) (he : Nm e) : ∀ i, aboveN d e i = decide (val (e.take i) < val (d.take i))
  | 0 => by simp [aboveN, val]
  | i + 1 => by
    unfold aboveN
    rw [val_take, val_take]
    have h1 := val_take_lt d hd i
    have h2 := val_take_lt e he i
    split
    · next h => rw [aboveN_spec d e hd he i, h]; apply decide_eq_decide.2; omega
    · next h =>
      apply decide_eq_decide.2
      constructor
      · intro hlt
        have := Nat.mul_le_mul_right (65536 ^ i) (show e.getD i 0 + 1 ≤ d.getD i 0 by omega)
        rw [Nat.add_mul] at this; omega
      · intro hlt
        apply Classical.byContradiction
        intro hc
        have := Nat.mul_le_mul_right (65536 ^ i) (show d.getD i 0 + 1 ≤ e.getD i 0 by omega)
        rw [Nat.add_mul] at this; omega
theorem above_pow {y p n : Nat} (hy : y < 2 ^ 38) (hn : n ≤ 3) (hp : p < 1000) : aboveN (powN y n) (zer12.set (2 * n) p) 12 = decide (p * 2 ^ (32 * n) < y ^ n) := by
  obtain ⟨h1, h2⟩ := powN_spec hy n hn
  have hz : ∀ k, zer12.getD k 0 = 0 := fun k => by unfold zer12; rw [List.getD_eq_getElem?_getD, List.getElem?_replicate]; split <;> rfl
  have hN : Nm (zer12.set (2 * n) p) := fun k => by
    by_cases h : 2 * n = k
    · subst h; rw [getD_set_self _ _ _ (by show 2 * n < 12; omega)]; omega
    · rw [getD_set_ne _ _ _ _ h, hz]; decide
  rw [aboveN_spec _ _ h1 hN, List.take_of_length_le (l := powN y n) (by rw [powN_length]; decide), List.take_of_length_le (l := zer12.set (2 * n) p) (by rw [List.length_set]; decide), h2]
  have hv := val_set zer12 (2 * n) p (by show 2 * n < 12; omega)
  rw [hz, Nat.zero_mul, show val zer12 = 0 from rfl] at hv
  have e : (65536 : Nat) ^ (2 * n) = 2 ^ (32 * n) := by rw [show (65536 : Nat) = 2 ^ 16 from rfl, ← Nat.pow_mul]; congr 1; omega
  rw [e] at hv
  congr 1
  simp only [Nat.add_zero, Nat.zero_add] at hv
  rw [hv]
theorem rootD_le (p n : Nat) : ∀ k, k ≤ 38 → rootD p n k + 2 ^ (38 - k) ≤ 2 ^ 38
  | 0, _ => by simp [rootD]
  | k + 1, h => by
    have ih := rootD_le p n k (by omega)
    have e : 2 ^ (38 - k) = 2 * 2 ^ (37 - k) := by rw [show 38 - k = (37 - k) + 1 by omega, Nat.pow_succ]; omega
    unfold rootD
    rw [show 38 - (k + 1) = 37 - k by omega]
    split <;> omega
theorem rootD_eq {p n : Nat} (hn : n ≤ 3) (hp : p < 1000) : ∀ k, k ≤ 38 → rootD p n k = rootF p n k
  | 0, _ => rfl
  | k + 1, h => by
    have ih := rootD_eq hn hp k (by omega)
    have hl := rootD_le p n k (by omega)
    have e : 2 ^ (38 - k) = 2 * 2 ^ (37 - k) := by rw [show 38 - k = (37 - k) + 1 by omega, Nat.pow_succ]; omega
    have hpos := Nat.two_pow_pos (37 - k)
    unfold rootD rootF
    rw [above_pow (by omega) hn hp, ih]
    simp only [decide_eq_true_eq]
/-- Primes. -/
def noDiv (p : Nat) : Nat → Bool
  | 0 => true
  | q + 1 => noDiv p q && (q < 2 || p % q != 0)
def isPr (p : Nat) : Bool := noDiv p p
def cntPr : Nat → Nat
  | 0 => 0
  | p + 1 => cntPr p + if 2 ≤ p && isPr p then 1 else 0
def prs : List Nat := [2, 3, 5, 7, 11, 13, 17, 19, 23, 29, 31, 37, 41, 43, 47, 53, 59, 61, 67, 71, 73, 79, 83, 89, 97, 101, 103, 107, 109, 113, 127, 131, 137, 139, 149, 151, 157, 163, 167, 173, 179, 181, 191, 193, 197, 199, 211, 223, 227, 229, 233, 239, 241, 251, 257, 263, 269, 271, 277, 281, 283, 293, 307, 311]
theorem prs_cnt : ∀ p : Fin 312, 2 ≤ p.val → isPr p.val = true → prs.getD (cntPr p.val) 0 = p.val := by decide +kernel
theorem cnt_311 : isPr 311 = true ∧ cntPr 311 = 63 := by decide +kernel
theorem prs_lt : ∀ i : Fin 64, prs.getD i.val 0 < 1000 := by decide +kernel
theorem roots3 : ∀ i : Fin 64, (rootF (prs.getD i.val 0) 3 38) % 4294967296 = (shaK.getD i.val 0).toNat := by decide +kernel
theorem roots2 : ∀ i : Fin 8, (rootF (prs.getD i.val 0) 2 38) % 4294967296 = (first8.list.getD i.val 0).toNat := by decide +kernel
end Go.Proofs.Ytbdgnlbbijpfmaa
