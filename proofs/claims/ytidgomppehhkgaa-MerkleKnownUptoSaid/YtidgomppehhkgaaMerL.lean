/- Levels of a tree, peaks, in plain Lean. -/
import Derived.Test.YtidgomppehhkgaaMerM
set_option linter.unusedVariables false
set_option linter.unusedSimpArgs false
namespace Go.Proofs.Ytidgomppehhkgaa

theorem kOf_pow (i : Nat) (hi : i ≤ 60) : kOf (2 ^ (i + 1)) = 2 ^ i := by
  have h1 := Nat.pow_le_pow_right (n := 2) (by omega) (show i ≤ 60 by omega)
  have h2 := Nat.two_pow_pos i
  have e : 2 ^ (i + 1) = 2 * 2 ^ i := by rw [Nat.pow_succ]; omega
  refine (kOf_unique (j := i) ?_ ?_ ?_ ?_).symm <;> omega
/-- The heads of the whole parts of 2^i leaves. -/
def partL (ds : List (List UInt8)) (i k : Nat) : List UInt8 := rootL ((ds.drop (k * 2 ^ i)).take (2 ^ i))
def levN (ds : List (List UInt8)) (i : Nat) : List (List UInt8) := (List.range (ds.length / 2 ^ i)).map (partL ds i)
theorem levN_length (ds : List (List UInt8)) (i : Nat) : (levN ds i).length = ds.length / 2 ^ i := by simp [levN]
theorem levN_get (ds : List (List UInt8)) (i k : Nat) (h : k < ds.length / 2 ^ i) : (levN ds i).getD k [] = partL ds i k := by
  simp [levN, h]
theorem levN_zero (ds : List (List UInt8)) : levN ds 0 = ds := by
  unfold levN partL
  simp only [Nat.pow_zero, Nat.div_one, Nat.mul_one]
  apply List.ext_getElem
  · simp
  · intro k h1 h2
    simp only [List.getElem_map, List.getElem_range]
    have : (ds.drop k).take 1 = [ds[k]] := by rw [List.drop_eq_getElem_cons h2]; rfl
    rw [this, rootL_one]
theorem part_le {n i k : Nat} (h : k < n / 2 ^ i) : k * 2 ^ i + 2 ^ i ≤ n := by
  have h1 : (k + 1) * 2 ^ i ≤ n := Nat.le_trans (Nat.mul_le_mul_right _ h) (Nat.div_mul_le_self n (2 ^ i))
  rw [Nat.add_mul, Nat.one_mul] at h1; exact h1
theorem partL_succ (ds : List (List UInt8)) (i k : Nat) (hi : i ≤ 60) (h : k < ds.length / 2 ^ (i + 1)) : partL ds (i + 1) k = nodeL (partL ds i (2 * k)) (partL ds i (2 * k + 1)) := by
  have hp := part_le h
  have h1 := Nat.pow_le_pow_right (n := 2) (by omega) (show i ≤ 60 by omega)
  have h2 := Nat.two_pow_pos i
  have e : 2 ^ (i + 1) = 2 * 2 ^ i := by rw [Nat.pow_succ]; omega
  have hl : ((ds.drop (k * 2 ^ (i + 1))).take (2 ^ (i + 1))).length = 2 ^ (i + 1) := by rw [List.length_take, List.length_drop]; omega
  unfold partL
  rw [rootL_two (by rw [hl]; omega) (by rw [hl]; omega), hl, kOf_pow i hi]
  congr 2
  · rw [List.take_take, Nat.min_eq_left (by omega)]
    congr 2; rw [e, Nat.mul_comm 2 k, Nat.mul_assoc]
  · rw [List.drop_take, List.drop_drop]
    congr 2
    · omega
    · rw [e, Nat.add_mul, Nat.mul_comm 2 k, Nat.mul_assoc, Nat.one_mul]
theorem half_len (n i : Nat) : n / 2 ^ i / 2 = n / 2 ^ (i + 1) := by rw [Nat.div_div_eq_div_mul, Nat.pow_succ]
theorem levN_succ (ds : List (List UInt8)) (i : Nat) (hi : i ≤ 60) : levN ds (i + 1) = (List.range ((levN ds i).length / 2)).map fun k => nodeL ((levN ds i).getD (2 * k) []) ((levN ds i).getD (2 * k + 1) []) := by
  rw [levN_length, half_len]
  unfold levN
  apply List.map_congr_left
  intro k hk
  rw [List.mem_range] at hk
  have hk2 : 2 * k + 1 < ds.length / 2 ^ i := by rw [← half_len] at hk; omega
  rw [partL_succ ds i k hi hk]
  congr 1
  · exact (levN_get ds i (2 * k) (by omega)).symm
  · exact (levN_get ds i (2 * k + 1) hk2).symm
theorem levN_32 (ds : List (List UInt8)) (i : Nat) (h : ∀ d ∈ ds, d.length = 32) (hn : ds.length < 2 ^ 63) : ∀ d ∈ levN ds i, d.length = 32 := by
  intro d hd
  obtain ⟨k, _, rfl⟩ := List.mem_map.1 hd
  exact rootL_length _ _ (Nat.le_refl _) (by rw [List.length_take, List.length_drop]; omega) (fun d hd => h d (List.mem_of_mem_drop (List.mem_of_mem_take hd)))
/-- How many levels. -/
def lvl (n : Nat) : Nat := if n = 0 then 0 else Lib.bitLen n
theorem lvl_spec (n : Nat) (hn : n < 2 ^ 63) (i : Nat) : i < lvl n ↔ 0 < n / 2 ^ i := by
  unfold lvl
  split
  · next h => subst h; simp
  · next h =>
    obtain ⟨h1, h2, h3⟩ := bitLen_range 64 n (by omega) (by omega) (by omega)
    rw [Nat.div_pos_iff]
    constructor
    · intro hi
      exact ⟨Nat.two_pow_pos i, Nat.le_trans (Nat.pow_le_pow_right (by omega) (show i ≤ Lib.bitLen n - 1 by omega)) h1⟩
    · rintro ⟨_, h⟩
      apply Classical.byContradiction
      intro hc
      have := Nat.pow_le_pow_right (n := 2) (by omega) (show Lib.bitLen n ≤ i by omega)
      omega
theorem lvl_le (n : Nat) (hn : n ≤ 1048576) : lvl n ≤ 21 := by
  apply Classical.byContradiction
  intro hc
  have := (lvl_spec n (by omega) 21).1 (by omega)
  rw [Nat.div_pos_iff] at this
  have := this.2
  omega
def lvls (ds : List (List UInt8)) : List (List (List UInt8)) := (List.range (lvl ds.length)).map (levN ds)
theorem lvls_length (ds : List (List UInt8)) : (lvls ds).length = lvl ds.length := by simp [lvls]
theorem lvls_take (ds : List (List UInt8)) (i : Nat) (h : i < lvl ds.length) : (lvls ds).take (i + 1) = (lvls ds).take i ++ [levN ds i] := by
  have hl : i < (lvls ds).length := by rw [lvls_length]; exact h
  rw [List.take_succ_eq_append_getElem hl]
  congr 1
  simp [lvls]
theorem lvls_get (ds : List (List UInt8)) (i : Nat) (h : i < lvl ds.length) : (lvls ds).getD i [] = levN ds i := by simp [lvls, h]

/-- Peaks, joined from the last one on. -/
def joined (ps : List (List UInt8)) : List UInt8 := List.foldr nodeL (ps.getLastD []) (ps.dropLast)
theorem joined_snoc (ps : List (List UInt8)) (p : List UInt8) : joined (ps ++ [p]) = List.foldr nodeL p ps := by
  unfold joined; simp
theorem root_peak {l : List (List UInt8)} {j : Nat} (hn : l.length < 2 ^ 63) (h1 : 2 ^ j < l.length) (h2 : l.length ≤ 2 * 2 ^ j) : rootL l = nodeL (rootL (l.take (2 ^ j))) (rootL (l.drop (2 ^ j))) := by
  have hp := Nat.two_pow_pos j
  rw [rootL_two (by omega) hn, ← kOf_unique (by omega) hn h1 h2]
theorem rootL_2 (a b : List UInt8) : rootL [a, b] = nodeL a b := by
  rw [rootL_two (by simp) (by simp), show kOf [a, b].length = 1 from (by decide : kOf 2 = 1)]; rfl
theorem rootL_3 (a b c : List UInt8) : rootL [a, b, c] = nodeL (nodeL a b) c := by
  rw [rootL_two (by simp) (by simp), show kOf [a, b, c].length = 2 from (by decide : kOf 3 = 2)]
  show nodeL (rootL [a, b]) (rootL [c]) = _
  rw [rootL_2]; rfl
theorem lvls_3 (a b c : List UInt8) : lvls [a, b, c] = [[a, b, c], [nodeL a b]] := by
  unfold lvls
  rw [show lvl [a, b, c].length = 2 from (by decide : lvl 3 = 2)]
  show [levN [a, b, c] 0, levN [a, b, c] 1] = _
  rw [levN_zero, levN_succ _ 0 (by decide), levN_zero]
  simp [List.range, List.range.loop]
end Go.Proofs.Ytidgomppehhkgaa
