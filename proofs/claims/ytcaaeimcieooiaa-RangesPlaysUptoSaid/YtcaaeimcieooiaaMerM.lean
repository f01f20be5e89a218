/- Trees of hashes, in plain Lean. -/
import Derived.Test.YtcaaeimcieooiaaShaM
import Derived.Lib.BitFns
set_option linter.unusedVariables false
set_option linter.unusedSimpArgs false
namespace Go.Proofs.Ytcaaeimcieooiaa

theorem bitLen_range : ∀ (n x : Nat), x < 2 ^ n → n ≤ 64 → 0 < x → 2 ^ (Lib.bitLen x - 1) ≤ x ∧ x < 2 ^ Lib.bitLen x ∧ 0 < Lib.bitLen x
  | 0, x, h, _, h0 => by simp at h; omega
  | n + 1, x, h, hn, h0 => by
    have hx64 : x < 2 ^ 64 := Nat.lt_of_lt_of_le h (Nat.pow_le_pow_right (by omega) hn)
    have hh := Lib.bitLen_half x (by omega) hx64
    rw [Nat.pow_succ] at h
    by_cases h1 : x = 1
    · subst h1; decide
    · have ih := bitLen_range n (x / 2) (by omega) (by omega) (by omega)
      rw [hh, Nat.add_comm, Nat.add_sub_cancel, Nat.pow_succ]
      obtain ⟨i1, i2, i3⟩ := ih
      have e : 2 ^ Lib.bitLen (x / 2) = 2 ^ (Lib.bitLen (x / 2) - 1) * 2 := by rw [← Nat.pow_succ]; congr 1; omega
      refine ⟨?_, ?_, by omega⟩
      · rw [e]; omega
      · omega
/-- The greatest power of 2 below n (n from 2 on). -/
def kOf (n : Nat) : Nat := 2 ^ (Lib.bitLen (n - 1) - 1)
theorem kOf_lt {n : Nat} (h : 2 ≤ n) (hn : n < 2 ^ 63) : kOf n < n ∧ n ≤ 2 * kOf n ∧ 1 ≤ kOf n := by
  obtain ⟨h1, h2, h3⟩ := bitLen_range 64 (n - 1) (by omega) (by omega) (by omega)
  unfold kOf
  have e : 2 ^ Lib.bitLen (n - 1) = 2 ^ (Lib.bitLen (n - 1) - 1) * 2 := by rw [← Nat.pow_succ]; congr 1; omega
  have := Nat.two_pow_pos (Lib.bitLen (n - 1) - 1)
  omega
/-- A power of 2 that is below n, whose double is not, is that one. -/
theorem kOf_unique {n j : Nat} (h : 2 ≤ n) (hn : n < 2 ^ 63) (h1 : 2 ^ j < n) (h2 : n ≤ 2 * 2 ^ j) : 2 ^ j = kOf n := by
  obtain ⟨a, b, _⟩ := kOf_lt h hn
  unfold kOf at *
  generalize Lib.bitLen (n - 1) - 1 = e at *
  rcases Nat.lt_trichotomy j e with hl | he | hg
  · have := Nat.pow_le_pow_right (n := 2) (by omega) (show j + 1 ≤ e by omega)
    rw [Nat.pow_succ] at this; omega
  · rw [he]
  · have := Nat.pow_le_pow_right (n := 2) (by omega) (show e + 1 ≤ j by omega)
    rw [Nat.pow_succ] at this; omega

def leafL (b : List UInt8) : List UInt8 := sha (0 :: b)
def nodeL (a b : List UInt8) : List UInt8 := sha (1 :: (a ++ b))
theorem leafL_length (b : List UInt8) : (leafL b).length = 32 := sha_length _
theorem nodeL_length (a b : List UInt8) : (nodeL a b).length = 32 := sha_length _
/-- The head of a list of leaves. -/
def rootN : Nat → List (List UInt8) → List UInt8
  | 0, _ => sha []
  | f + 1, l => if l.length = 0 then sha [] else if l.length = 1 then l.headD [] else nodeL (rootN f (l.take (kOf l.length))) (rootN f (l.drop (kOf l.length)))
def rootL (l : List (List UInt8)) : List UInt8 := rootN l.length l
theorem rootN_eq : ∀ (n f g : Nat) (l : List (List UInt8)), l.length ≤ n → n < 2 ^ 63 → n ≤ f → n ≤ g → rootN f l = rootN g l
  | 0, f, g, l, hl, _, _, _ => by
    have : l = [] := List.eq_nil_of_length_eq_zero (by omega)
    subst this
    cases f <;> cases g <;> simp [rootN]
  | n + 1, f, g, l, hl, hn, hf, hg => by
    obtain ⟨f', rfl⟩ : ∃ f', f = f' + 1 := ⟨f - 1, by omega⟩
    obtain ⟨g', rfl⟩ : ∃ g', g = g' + 1 := ⟨g - 1, by omega⟩
    unfold rootN
    split
    · rfl
    · split
      · rfl
      · have hk := kOf_lt (n := l.length) (by omega) (by omega)
        rw [rootN_eq n f' g' (l.take _) (by rw [List.length_take]; omega) (by omega) (by omega) (by omega), rootN_eq n f' g' (l.drop _) (by rw [List.length_drop]; omega) (by omega) (by omega) (by omega)]
theorem rootL_nil : rootL [] = sha [] := rfl
theorem rootL_one (x : List UInt8) : rootL [x] = x := rfl
theorem rootL_two {l : List (List UInt8)} (h : 2 ≤ l.length) (hn : l.length < 2 ^ 63) : rootL l = nodeL (rootL (l.take (kOf l.length))) (rootL (l.drop (kOf l.length))) := by
  have hk := kOf_lt h hn
  unfold rootL
  obtain ⟨n, hl⟩ : ∃ n, l.length = n + 1 := ⟨l.length - 1, by omega⟩
  rw [show rootN l.length l = rootN (n + 1) l by rw [hl]]
  conv => lhs; unfold rootN
  rw [if_neg (by omega), if_neg (by omega)]
  rw [rootN_eq n n _ (l.take _) (by rw [List.length_take]; omega) (by omega) (Nat.le_refl _) (show n ≤ n from Nat.le_refl _), rootN_eq n n _ (l.drop _) (by rw [List.length_drop]; omega) (by omega) (Nat.le_refl _) (show n ≤ n from Nat.le_refl _)]
  rw [rootN_eq _ (l.take (kOf l.length)).length n (l.take _) (Nat.le_refl _) (by rw [List.length_take]; omega) (Nat.le_refl _) (by rw [List.length_take]; omega), rootN_eq _ (l.drop (kOf l.length)).length n (l.drop _) (Nat.le_refl _) (by rw [List.length_drop]; omega) (Nat.le_refl _) (by rw [List.length_drop]; omega)]
theorem rootL_length : ∀ (n : Nat) (l : List (List UInt8)), l.length ≤ n → n < 2 ^ 63 → (∀ d ∈ l, d.length = 32) → (rootL l).length = 32
  | 0, l, hl, _, _ => by
    have : l = [] := List.eq_nil_of_length_eq_zero (by omega)
    subst this; exact sha_length _
  | n + 1, l, hl, hn, hd => by
    match l, hl, hd with
    | [], _, _ => exact sha_length _
    | [x], _, hd => exact hd x (by simp)
    | x :: y :: r, hl, hd => rw [rootL_two (by simp) (by omega)]; exact nodeL_length _ _
end Go.Proofs.Ytcaaeimcieooiaa
