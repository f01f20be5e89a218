/- Slices of bytes that are read out of cells. -/
import Derived.Test.YtidgomppehhkgaaOpL
set_option linter.unusedVariables false
set_option linter.unusedSimpArgs false
namespace Go.Proofs.Ytidgomppehhkgaa
open Go.ChangeShapes Go.WideShapes Go.ChangeAt Go.RowKit

theorem bytes_of_trod {H : Type} {enc : TypeId × Value → H} {W : World} {n : Nat} {cs : List Value} {x : DataW H × List MemPlace} (hf : DataW.trod enc Try.prog W 0 (fun _ => true) true n 41 cs = some x) :
    ∃ v xs, cs = [v] ∧ SlB W v xs ∧ xs.length + 1 ≤ Rows.uptoBulk x.1 := by
  rcases open_ints Try.underlying41 Try.underlying5 (by kernel_rfl) hf with ⟨hcs, hx⟩ | ⟨x', l, c, zs, hcs, _, hl, hm, hz, hd, hcell, hwz⟩
  · subst hcs; subst hx
    exact ⟨_, [], rfl, slB_nil W, by simp [Rows.uptoBulk]⟩
  · subst hcs
    have hzl : zs.length = c := by simpa using hz
    have hwf : ∀ n ∈ zs, 0 ≤ n ∧ n < 256 := fun n hn => by
      have := hwz n hn
      simp [Lit.wf, IntKind.min, IntKind.max, IntKind.signed, IntKind.bits] at this
      omega
    have hlen : ((zs.take l).map fun n => UInt8.ofNat n.toNat).length = l := by rw [List.length_map, List.length_take]; omega
    refine ⟨_, (zs.take l).map fun n => UInt8.ofNat n.toNat, rfl, ⟨some x', c, by rw [hlen], by rw [hlen]; exact hl, by simpa [maxLen] using hm, by simp, Rc.of_some fun j u hj => ?_⟩, ?_⟩
    · unfold bs at hj
      rw [List.map_map] at hj
      obtain ⟨n, hn, rfl⟩ := Option.map_eq_some_iff.1 (List.getElem?_map .. ▸ hj)
      rw [List.getElem?_take] at hn
      split at hn
      · have hjl : j < zs.length := (List.getElem?_eq_some_iff.1 hn).1
        rw [hcell j hjl]
        have hmem : n ∈ zs := List.mem_of_getElem? hn
        have := hwf n hmem
        have e : zs.getD j 0 = n := by rw [List.getD_eq_getElem?_getD, hn]; rfl
        rw [e]
        congr 2
        show n = c8 (UInt8.ofNat n.toNat)
        unfold c8
        rw [UInt8.toNat_ofNat']
        omega
      · cases hn
    · subst hd
      simp only [Rows.uptoBulk, List.length_map]
      have := bulk_le (lits .u8 (zs.take l) : List (DataW H))
      have e : (lits .u8 (zs.take l) : List (DataW H)).length = (zs.take l).length := by simp [lits]
      omega
end Go.Proofs.Ytidgomppehhkgaa
