/- Arguments laid open: what a value that came in holds, in this seat's own words. -/
import Derived.Test.YtcaaeimcieooiaaBa
import Derived.ProofKit
set_option linter.unusedVariables false
set_option linter.unusedSimpArgs false
set_option maxRecDepth 10000
namespace Go.Proofs.Ytcaaeimcieooiaa
open Go.ChangeShapes Go.WideShapes Go.ChangeAt Go.RowKit

variable {H : Type} {enc : TypeId × Value → H} {W : World} {base : Nat} {v : Value} {d : DataW H} {ps : List MemPlace}

theorem bulk_le (l : List (DataW H)) : l.length ≤ Rows.uptoBulkAll l := by
  induction l with
  | nil => simp [Rows.uptoBulkAll]
  | cons x r ih =>
    have h1 : 1 ≤ Rows.uptoBulk x := by
      cases x with
      | lit l => cases l <;> simp [Rows.uptoBulk]
      | _ => simp [Rows.uptoBulk]
    simp only [Rows.uptoBulkAll, List.length_cons]; omega

theorem open_bytes (hval : Value.okWide Try.prog W .any base 56 v) (h : DataW.Trod enc Try.prog W 0 (fun _ => true) true 56 v d ps) :
    ∃ xs : List UInt8, SlB W v xs ∧ xs.length ≤ Rows.uptoBulk d := by
  obtain ⟨a, len, cap, rfl⟩ := okWide_slice Try.underlying56 hval
  obtain ⟨fuel, hf⟩ := h
  rcases open_ints Try.underlying56 Try.underlying5 (by kernel_rfl) hf with ⟨hcs, _⟩ | ⟨x, l, c, zs, hcs, _, hl, hm, hz, hd, hcell, hwz⟩
  · simp [Value.cells] at hcs
    obtain ⟨rfl, rfl, rfl⟩ := hcs
    exact ⟨[], slB_nil W, by simp⟩
  · simp [Value.cells] at hcs
    obtain ⟨rfl, rfl, rfl⟩ := hcs
    have hzl : zs.length = cap := by simpa using hz
    have hwf : ∀ n ∈ zs, 0 ≤ n ∧ n < 256 := fun n hn => by
      have := hwz n hn
      simp [Lit.wf, IntKind.min, IntKind.max, IntKind.signed, IntKind.bits] at this
      omega
    have hlen : ((zs.take len).map fun n => UInt8.ofNat n.toNat).length = len := by rw [List.length_map, List.length_take]; omega
    refine ⟨(zs.take len).map fun n => UInt8.ofNat n.toNat, ⟨some x, cap, by rw [hlen], by rw [hlen]; exact hl, by simpa [maxLen] using hm, by simp, Rc.of_some fun j u hj => ?_⟩, ?_⟩
    · unfold bs at hj
      rw [List.map_map] at hj
      obtain ⟨n, hn, rfl⟩ := Option.map_eq_some_iff.1 (List.getElem?_map .. ▸ hj)
      rw [List.getElem?_take] at hn
      split at hn
      · have hjl : j < zs.length := (List.getElem?_eq_some_iff.1 hn).1
        rw [hcell j hjl]
        have hmem : n ∈ zs := List.mem_of_getElem? hn
        have := hwf n hmem
        have e : zs.getD j 0 = n := by rw [List.getD_eq_getElem?_getD, hn]; rfl
        rw [e]
        refine congrArg (fun q : Int => some (Value.int IntKind.u8 q)) ?_
        show n = c8 (UInt8.ofNat n.toNat)
        unfold c8
        rw [UInt8.toNat_ofNat']
        omega
      · cases hn
    · simp only [Prod.mk.injEq] at hd
      rw [hd.1]
      simp only [Rows.uptoBulk, List.length_map]
      have := bulk_le (lits .u8 (zs.take len) : List (DataW H))
      have e : (lits .u8 (zs.take len) : List (DataW H)).length = (zs.take len).length := by simp [lits]
      omega

theorem open_u32 (hval : Value.okWide Try.prog W .any base 73 v) (h : DataW.Trod enc Try.prog W 0 (fun _ => true) true 73 v d ps) : ∃ x : UInt32, v = .int .u32 (c32 x) := by
  obtain ⟨n, rfl, _, _, wf⟩ := open_int Try.underlying73 hval h
  refine ⟨UInt32.ofNat n.toNat, ?_⟩
  simp [Lit.wf, IntKind.min, IntKind.max, IntKind.signed, IntKind.bits] at wf
  congr 1; unfold c32; rw [UInt32.toNat_ofNat']; omega

theorem open_i64 (hval : Value.okWide Try.prog W .any base 3 v) (h : DataW.Trod enc Try.prog W 0 (fun _ => true) true 3 v d ps) : ∃ x : Int, v = .int .i64 x ∧ -9223372036854775808 ≤ x ∧ x ≤ 9223372036854775807 := by
  obtain ⟨n, rfl, _, _, wf⟩ := open_int Try.underlying3 hval h
  refine ⟨n, rfl, ?_⟩
  simp [Lit.wf, IntKind.min, IntKind.max, IntKind.signed, IntKind.bits] at wf
  omega
end Go.Proofs.Ytcaaeimcieooiaa
