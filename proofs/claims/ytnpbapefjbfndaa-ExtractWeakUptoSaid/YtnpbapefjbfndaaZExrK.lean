/- Hashes of which nothing is kept; the chapter's rows (plain Lean). -/
import Derived.Test.YtnpbapefjbfndaaZExtN
import Derived.Test.YtnpbapefjbfndaaZXm
set_option linter.unusedVariables false
set_option linter.unusedSimpArgs false
set_option maxRecDepth 10000
namespace Go.Proofs.Ytnpbapefjbfndaa

theorem struck (x : UInt8) : ((((((((x &&& ~~~((128 : UInt8) >>> UInt8.ofNat 0)) &&& ~~~((128 : UInt8) >>> UInt8.ofNat 1)) &&& ~~~((128 : UInt8) >>> UInt8.ofNat 2)) &&& ~~~((128 : UInt8) >>> UInt8.ofNat 3)) &&& ~~~((128 : UInt8) >>> UInt8.ofNat 4)) &&& ~~~((128 : UInt8) >>> UInt8.ofNat 5)) &&& ~~~((128 : UInt8) >>> UInt8.ofNat 6)) &&& ~~~((128 : UInt8) >>> UInt8.ofNat 7)) = 0 := by
  have h : ∀ n : Fin 256, (((((((((UInt8.ofNat n.val) &&& ~~~((128 : UInt8) >>> UInt8.ofNat 0)) &&& ~~~((128 : UInt8) >>> UInt8.ofNat 1)) &&& ~~~((128 : UInt8) >>> UInt8.ofNat 2)) &&& ~~~((128 : UInt8) >>> UInt8.ofNat 3)) &&& ~~~((128 : UInt8) >>> UInt8.ofNat 4)) &&& ~~~((128 : UInt8) >>> UInt8.ofNat 5)) &&& ~~~((128 : UInt8) >>> UInt8.ofNat 6)) &&& ~~~((128 : UInt8) >>> UInt8.ofNat 7)) = 0 := by decide +kernel
  have := h ⟨x.toNat, x.toNat_lt⟩
  rw [show UInt8.ofNat x.toNat = x from UInt8.ofNat_toNat] at this
  exact this
theorem mkN_step (d : List UInt8) (i : Nat) : mkN d 0 (i + 1) = (mkN d 0 i).set (i / 8) ((mkN d 0 i).getD (i / 8) 0 &&& ~~~(128 >>> UInt8.ofNat (i % 8))) := by
  conv => lhs; unfold mkN
  rw [if_neg (by omega)]
theorem set_get (l : List UInt8) (j : Nat) (x : UInt8) (h : j < l.length) : (l.set j x).getD j 0 = x := by simp [h]
theorem mkN_byte (d : List UInt8) (j : Nat) (hj : j < d.length) : mkN d 0 (8 * j + 8) = (mkN d 0 (8 * j)).set j 0 := by
  have hl := mkN_length d 0 (8 * j)
  generalize hL : mkN d 0 (8 * j) = L at *
  have e : ∀ t : Nat, t < 8 → (8 * j + t) / 8 = j ∧ (8 * j + t) % 8 = t := fun t h => by omega
  have s0 : mkN d 0 (8 * j + 1) = (mkN d 0 (8 * j)).set ((8 * j + 0) / 8) ((mkN d 0 (8 * j)).getD ((8 * j + 0) / 8) 0 &&& ~~~(128 >>> UInt8.ofNat ((8 * j + 0) % 8))) := mkN_step d (8 * j + 0)
  have s1 := mkN_step d (8 * j + 1)
  have s2 := mkN_step d (8 * j + 2)
  have s3 := mkN_step d (8 * j + 3)
  have s4 := mkN_step d (8 * j + 4)
  have s5 := mkN_step d (8 * j + 5)
  have s6 := mkN_step d (8 * j + 6)
  have s7 := mkN_step d (8 * j + 7)
  rw [(e 0 (by omega)).1, (e 0 (by omega)).2, hL] at s0
  rw [(e 1 (by omega)).1, (e 1 (by omega)).2, s0, set_get _ _ _ (by omega), List.set_set] at s1
  rw [(e 2 (by omega)).1, (e 2 (by omega)).2, s1, set_get _ _ _ (by omega), List.set_set] at s2
  rw [(e 3 (by omega)).1, (e 3 (by omega)).2, s2, set_get _ _ _ (by omega), List.set_set] at s3
  rw [(e 4 (by omega)).1, (e 4 (by omega)).2, s3, set_get _ _ _ (by omega), List.set_set] at s4
  rw [(e 5 (by omega)).1, (e 5 (by omega)).2, s4, set_get _ _ _ (by omega), List.set_set] at s5
  rw [(e 6 (by omega)).1, (e 6 (by omega)).2, s5, set_get _ _ _ (by omega), List.set_set] at s6
  rw [(e 7 (by omega)).1, (e 7 (by omega)).2, s6, set_get _ _ _ (by omega), List.set_set] at s7
  rw [show 8 * j + 8 = 8 * j + 7 + 1 from rfl, s7]
  congr 1
  exact struck _
theorem mkN_zeros (d : List UInt8) : ∀ j, j ≤ d.length → mkN d 0 (8 * j) = List.replicate j 0 ++ d.drop j
  | 0, _ => rfl
  | j + 1, h => by
    rw [show 8 * (j + 1) = 8 * j + 8 by omega, mkN_byte d j (by omega), mkN_zeros d j (by omega), List.set_append_right _ _ (by simp), List.length_replicate, Nat.sub_self, List.drop_eq_getElem_cons (by omega), List.set_cons_zero, List.replicate_succ', List.append_assoc]
    rfl
theorem hashL_zero (b : List UInt8) : hashL 0 b = zer := by
  unfold hashL
  rw [show 256 = 8 * 32 from rfl, mkN_zeros (sha b) 32 (Nat.le_of_eq (sha_length b).symm), List.drop_eq_nil_of_le (Nat.le_of_eq (sha_length b)), List.append_nil]
  rfl
theorem rootX_zero (l : List (List UInt8)) : rootX 0 l = zer := hashL_zero _
theorem mayL_zero (a b : List UInt8) : mayL 0 a b = !decide (a = b) := by unfold mayL; rw [hashL_zero, hashL_zero]; simp
theorem hashL_all (b : List UInt8) : hashL 256 b = sha b := mkN_lo _ 256 256 (Nat.le_refl _)
theorem w_lists1 : listsL 0 [[97]] [[98]] = some ([0, 97], [0, 98]) := by
  rw [listsL_some (by rw [rootX_zero, rootX_zero]; decide) (by rw [textL_one, textL_one]; decide)]; rfl
theorem w_lists2 : listsL 0 [[97]] [] = some ([0, 97], []) := by
  rw [listsL_some (by rw [rootX_zero, rootX_zero]; decide) (by rw [textL_one, textL_nil]; decide)]; rfl
theorem w_lists3 : listsL 0 [[97], [98]] [[97], [98]] = none := listsL_none (Or.inl rfl)
theorem w_lists4 : listsL 256 [[97]] [[98]] = none := listsL_none (Or.inr (by
  unfold rootX; rw [hashL_all, hashL_all, textL_one, textL_one]; decide +kernel))
theorem w_cons (ps l : List (List UInt8)) (m : Int) (d : List UInt8) (f : List (List UInt8) → List UInt8) : consistentL 0 zer d f l m ps = none := by
  unfold consistentL
  rw [if_pos (Or.inr (Or.inr (rootX_zero _).symm))]
theorem w_incl : includedL 0 [[97], [98], [99]] 1 [120] [zer, zer] = some ([0, 120], [0, 98]) := by
  have h2 : kOf 2 = 1 := by decide
  have h3 : kOf 3 = 2 := by decide
  unfold includedL
  rw [if_neg (by decide)]
  simp [upN, h2, h3, initL, stepL, metL, mayL_zero, hashL_zero, rootX_zero, textL_one]
theorem w_may : mayL 0 [0, 97] [0, 98] = true := by rw [mayL_zero]; decide
theorem w_root : rootX 256 [] = sha [] := by unfold rootX; rw [hashL_all, textL_nil]
end Go.Proofs.Ytnpbapefjbfndaa
