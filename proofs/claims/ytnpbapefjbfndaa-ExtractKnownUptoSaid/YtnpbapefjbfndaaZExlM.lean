/- The chapter's rows where nothing of the hash is kept (plain Lean). -/
import Derived.Test.YtnpbapefjbfndaaZExrK
set_option linter.unusedVariables false
set_option linter.unusedSimpArgs false
set_option maxRecDepth 10000
namespace Go.Proofs.Ytnpbapefjbfndaa

abbrev l123 : List (List UInt8) := [[1], [2], [3]]
def one32 : List UInt8 := 1 :: List.replicate 31 0
theorem one32_length : one32.length = 32 := by decide
theorem one32_ne : one32 ≠ zer := by decide
theorem k_d (ps : List (List UInt8)) (b : List UInt8) : includedL 0 l123 3 b ps = none := by
  unfold includedL; rw [if_pos (Or.inr (Or.inl (by decide)))]
theorem k_e (ps : List (List UInt8)) (b : List UInt8) : includedL 0 l123 (-1) b ps = none := by
  unfold includedL; rw [if_pos (Or.inl (by decide))]
theorem k_f : includedL 0 l123 0 [9] [zer] = none := by
  have h2 : kOf 2 = 1 := by decide
  have h3 : kOf 3 = 2 := by decide
  unfold includedL
  rw [if_neg (by decide)]
  simp [upN, h2, h3, initL, stepL, metL, mayL_zero, hashL_zero, rootX_zero, textL_one]
theorem k_g : (includedL 0 l123 2 [9] [zer]).isSome = true := by
  have h3 : kOf 3 = 2 := by decide
  unfold includedL
  rw [if_neg (by decide)]
  simp [upN, h3, initL, stepL, metL, mayL_zero, hashL_zero, rootX_zero, textL_one]
theorem k_i (old : List UInt8) (ps : List (List UInt8)) (f : List (List UInt8) → List UInt8) : consistentL 0 old old f l123 0 ps = none := by
  unfold consistentL; rw [if_pos (Or.inl (by decide))]
theorem k_j (old : List UInt8) (ps : List (List UInt8)) (f : List (List UInt8) → List UInt8) : consistentL 0 old old f l123 4 ps = none := by
  unfold consistentL; rw [if_pos (Or.inr (Or.inl (by decide)))]
theorem k_t (x y : List UInt8) : textL 0 [x, y] = ndL zer zer := by
  rw [textL_two (by simp) (by simp), rootX_zero, rootX_zero]
theorem k_k (f : List (List UInt8) → List UInt8) : consistentL 0 one32 one32 f l123 1 [zer, zer] = some (ndL one32 zer, ndL zer zer) := by
  have h2 : kOf 2 = 1 := by decide
  have h3 : kOf 3 = 2 := by decide
  have hne : ndL one32 zer ≠ ndL zer zer := by decide
  unfold consistentL
  rw [if_neg (by rw [rootX_zero]; intro h; rcases h with h | h | h; exact absurd h (by decide); exact absurd h (by decide); exact one32_ne h)]
  simp [growN, h2, h3, initL, lastL, stepL, metL, mayL_zero, hashL_zero, rootX_zero, textL_one, k_t, hne]
theorem k_m : listsL 0 [[1], [2]] [[1], [3]] = some ([0, 2], [0, 3]) := by
  have h2 : kOf 2 = 1 := by decide
  rw [listsL_right (by rw [rootX_zero, rootX_zero]; decide) (by rw [k_t, k_t]) (by decide) (by decide) (by simp [h2])]
  simp only [List.length_cons, List.length_nil, Nat.zero_add, Nat.reduceAdd, h2, List.drop_succ_cons, List.drop_zero]
  rw [listsL_some (by rw [rootX_zero, rootX_zero]; decide) (by rw [textL_one, textL_one]; decide)]; rfl
theorem k_may : mayL 0 (ndL one32 zer) (ndL zer zer) = true := by rw [mayL_zero]; decide
end Go.Proofs.Ytnpbapefjbfndaa
