/- Arguments laid open: arrays of bytes, strings. -/
import Derived.Test.YtcaaeimcieooiaaOp
import Derived.Test.YtcaaeimcieooiaaShaC
import Derived.ChangeMaps5
set_option linter.unusedVariables false
set_option linter.unusedSimpArgs false
set_option maxRecDepth 10000
namespace Go.Proofs.Ytcaaeimcieooiaa
open Go.ChangeShapes Go.WideShapes Go.ChangeAt Go.RowKit

def byteOf (v : Value) : UInt8 := match v with
  | .int _ n => UInt8.ofNat n.toNat
  | _ => 0
theorem byte_ok {W : World} {base : Nat} {v : Value} (h : Cell.okWide Try.prog W .any base 5 v) : v = .int .u8 (c8 (byteOf v)) := by
  unfold Cell.okWide at h
  rw [Try.underlying5] at h
  have h' : Cell.ok Try.prog W .any base 5 v := by cases v <;> exact h
  unfold Cell.ok at h'
  rw [Try.underlying5] at h'
  cases v with
  | int k n =>
    obtain ⟨rfl, hn⟩ := h'
    simp [IntKind.has, IntKind.min, IntKind.max, IntKind.signed, IntKind.bits] at hn
    show Value.int .u8 n = .int .u8 (((UInt8.ofNat n.toNat).toNat : Nat) : Int)
    rw [UInt8.toNat_ofNat']; congr 1; omega
  | _ => cases h'
theorem open_arr8 {t : TypeId} {n : Nat} (hu : Try.prog.underlying t = some (.array n 5)) (hc : Try.prog.cellsOf t = n) (hct : Try.prog.cellTypes Try.prog.depth t = some (List.replicate n 5))
    {W : World} {base : Nat} {v : Value} (hval : Value.okWide Try.prog W .any base t v) : ∃ xs : List UInt8, v = dg xs ∧ xs.length = n := by
  unfold Value.okWide at hval
  rw [hu] at hval
  obtain ⟨cs, rfl, hs, ts, hts, _, hrow⟩ := hval
  rw [hct] at hts; cases hts
  refine ⟨cs.toList.map byteOf, ?_, by simp [hs, hc]⟩
  unfold dg; congr 1
  apply Array.ext'
  show cs.toList = bs (cs.toList.map byteOf)
  unfold bs; rw [List.map_map]
  apply List.ext_getElem
  · simp
  · intro i h1 h2
    simp only [List.getElem_map, Function.comp]
    have hi : cs[i]? = some (cs.toList[i]) := by simp at h1; simp [h1]
    obtain ⟨u, hu', hok⟩ := hrow i _ hi
    have : u = 5 := by
      have := List.mem_of_getElem? hu'
      exact (List.mem_replicate.1 this).2
    subst this
    exact byte_ok hok
theorem open_digest {H : Type} {enc : TypeId × Value → H} {W : World} {base : Nat} {v : Value} {d : DataW H} {ps : List MemPlace} (hval : Value.okWide Try.prog W .any base 29 v) (_h : DataW.Trod enc Try.prog W 0 (fun _ => true) true 29 v d ps) :
    ∃ xs : List UInt8, v = dg xs ∧ xs.length = 32 := open_arr8 (by kernel_rfl) (by kernel_rfl) (by kernel_rfl) hval
theorem open_str {H : Type} {enc : TypeId × Value → H} {W : World} {base : Nat} {v : Value} {d : DataW H} {ps : List MemPlace} (hval : Value.okWide Try.prog W .any base 9 v) (h : DataW.Trod enc Try.prog W 0 (fun _ => true) true 9 v d ps) :
    ∃ xs : List UInt8, v = .string (str xs) ∧ xs.length ≤ 9223372036854775807 := by
  obtain ⟨s, rfl, _, _, hs⟩ := Go.ChangeMaps.open_string Try.underlying9 hval h
  refine ⟨s.data.toList, rfl, ?_⟩
  have : s.size = s.data.toList.length := (Array.length_toList (xs := s.data)).symm
  unfold maxLen at hs; omega
end Go.Proofs.Ytcaaeimcieooiaa
