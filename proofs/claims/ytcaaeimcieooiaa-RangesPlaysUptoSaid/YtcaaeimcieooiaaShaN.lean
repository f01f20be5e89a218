/- What a state is that bytes were written to, in plain Lean. -/
import Derived.Test.YtcaaeimcieooiaaShaM
set_option linter.unusedVariables false
set_option linter.unusedSimpArgs false
namespace Go.Proofs.Ytcaaeimcieooiaa

/-- A state's numbers and its rest, behind these bytes. -/
def StR (zs : List UInt8) (s : S8) (rest : List UInt8) : Prop := rest.length = 64 ∧ rest.take (zs.length % 64) = zs.drop (zs.length / 64 * 64) ∧ s = shaState zs
/-- The rest behind a copy of new bytes. -/
def put (rest : List UInt8) (a : Nat) (new : List UInt8) : List UInt8 := rest.take a ++ new ++ rest.drop (a + new.length)
theorem put_length {rest : List UInt8} {a : Nat} {new : List UInt8} (hr : rest.length = 64) (ha : a + new.length ≤ 64) : (put rest a new).length = 64 := by
  simp [put, hr]; omega
theorem put_take {rest : List UInt8} {a : Nat} {new : List UInt8} (hr : rest.length = 64) (ha : a + new.length ≤ 64) : (put rest a new).take (a + new.length) = rest.take a ++ new := by
  unfold put
  rw [List.take_append_of_le_length (by simp [hr]; omega), List.take_of_length_le (by simp [hr]; omega)]
theorem StR.less {zs new : List UInt8} {s : S8} {rest : List UInt8} (h : StR zs s rest) (ha : zs.length % 64 + new.length < 64) : StR (zs ++ new) s (put rest (zs.length % 64) new) := by
  obtain ⟨h1, h2, h3⟩ := h
  have e1 : (zs ++ new).length % 64 = zs.length % 64 + new.length := by simp; omega
  have e2 : (zs ++ new).length / 64 = zs.length / 64 := by simp; omega
  refine ⟨put_length h1 (by omega), ?_, ?_⟩
  · rw [e1, e2, put_take h1 (by omega), h2, List.drop_append_of_le_length (by omega)]
  · rw [h3]; unfold shaState
    rw [e2, blocks_take _ _ zs, blocks_take _ _ (zs ++ new), List.take_append_of_le_length (by omega)]
theorem StR.full {zs new : List UInt8} {s : S8} {rest : List UInt8} (h : StR zs s rest) (ha : zs.length % 64 + new.length = 64) : StR (zs ++ new) (blockS s (put rest (zs.length % 64) new)) (put rest (zs.length % 64) new) := by
  obtain ⟨h1, h2, h3⟩ := h
  have e1 : (zs ++ new).length % 64 = 0 := by simp; omega
  have e2 : (zs ++ new).length / 64 = zs.length / 64 + 1 := by simp; omega
  have e3 : put rest (zs.length % 64) new = zs.drop (zs.length / 64 * 64) ++ new := by
    have := put_take h1 (by omega : zs.length % 64 + new.length ≤ 64)
    rw [ha, List.take_of_length_le (by rw [put_length h1 (by omega)]; omega), h2] at this
    exact this
  refine ⟨put_length h1 (by omega), ?_, ?_⟩
  · rw [e1, e2, List.take_zero]
    exact (List.drop_eq_nil_of_le (by simp; omega)).symm
  · rw [h3, e3]; unfold shaState
    rw [e2]
    have hz : zs ++ new = zs.take (zs.length / 64 * 64) ++ (zs.drop (zs.length / 64 * 64) ++ new) := by rw [← List.append_assoc, List.take_append_drop]
    have hl : (zs.take (zs.length / 64 * 64)).length = 64 * (zs.length / 64) := by rw [List.length_take]; omega
    conv => rhs; rw [hz]
    rw [blocks_append _ _ _ _ _ hl, blocks_take _ _ zs, Nat.mul_comm 64]
    generalize blocks _ _ _ = t
    have hb : (zs.drop (zs.length / 64 * 64) ++ new).length = 64 := by simp; omega
    show _ = blockS t ((zs.drop (zs.length / 64 * 64) ++ new).take 64)
    rw [List.take_of_length_le (by omega)]
theorem StR.nil : StR [] first8 (List.replicate 64 0) := ⟨rfl, rfl, rfl⟩
end Go.Proofs.Ytcaaeimcieooiaa
