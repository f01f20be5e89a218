/- Ranges in memory: none, Size, New (walks). -/
import Derived.Test.YtcaaeimcieooiaaRngM
import Derived.Test.YtcaaeimcieooiaaMerO
set_option linter.unusedVariables false
set_option linter.unusedSimpArgs false
set_option maxRecDepth 10000
namespace Go.Proofs.Ytcaaeimcieooiaa
open Go.RowKit
attribute [local go_sem high] dg_cells guard_dg

/-- Block p holds a range. -/
def RgAt (w : World) (p : Nat) (n : Nat) (v : Value) (m : Bool) : Prop := w.heap[p]? = some (.cells #[.int .u64 (n : Int), v, .bool m] 49 (0, 0))
theorem RgAt.below {w w' : World} {p n : Nat} {v : Value} {m : Bool} (h : RgAt w p n v m) (hb : Below w.heap.size w w') : RgAt w' p n v m := (hb.block p (Array.getElem?_eq_some_iff.1 h).1).trans h
theorem RgAt.lt {w : World} {p n : Nat} {v : Value} {m : Bool} (h : RgAt w p n v m) : p < w.heap.size := (Array.getElem?_eq_some_iff.1 h).1
theorem RgAt.c0 {w : World} {p n : Nat} {v : Value} {m : Bool} (h : RgAt w p n v m) : w.cell? ⟨p, 0, none⟩ = some (.int .u64 (n : Int)) ∧ w.frozen? ⟨p, 0, none⟩ = false := ⟨cell_of_row _ _ _ _ _ _ h, frozen_of_row _ _ _ _ _ h⟩
theorem RgAt.c1 {w : World} {p n : Nat} {v : Value} {m : Bool} (h : RgAt w p n v m) : w.cell? ⟨p, 1, none⟩ = some v ∧ w.frozen? ⟨p, 1, none⟩ = false := ⟨cell_of_row _ _ _ _ _ _ h, frozen_of_row _ _ _ _ _ h⟩
theorem RgAt.c2 {w : World} {p n : Nat} {v : Value} {m : Bool} (h : RgAt w p n v m) : w.cell? ⟨p, 2, none⟩ = some (.bool m) ∧ w.frozen? ⟨p, 2, none⟩ = false := ⟨cell_of_row _ _ _ _ _ _ h, frozen_of_row _ _ _ _ _ h⟩
abbrev ptr (p : Nat) : Value := .pointer (some ⟨p, 0, none⟩)
theorem none_nil (w : World) : Calls Try.prog 21 #[.pointer none] w fun e w' => e = .returned (.bool true) ∧ w = w' := by
  go_enter Try.func21, Try.ntmps21
  go_wp2_with fail
  go_ret
  exact ⟨rfl, rfl⟩
theorem none_at {w : World} {p n : Nat} {v : Value} {m : Bool} (h : RgAt w p n v m) : Calls Try.prog 21 #[ptr p] w fun e w' => e = .returned (.bool (!m)) ∧ w = w' := by
  have c := h.c2.1
  go_enter Try.func21, Try.ntmps21
  go_wp2_with fail
  go_ret
  exact ⟨rfl, rfl⟩
theorem size_nil (w : World) : Calls Try.prog 13 #[.pointer none] w fun e w' => e = .returned (.int .u64 0) ∧ w = w' := by
  go_enter Try.func13, Try.ntmps13
  go_wp2_with fail
  refine (none_nil _).mono ?_; rintro e w1 ⟨rfl, rfl⟩
  go_wp2_with fail
  go_ret
  exact ⟨rfl, rfl⟩
theorem size_at {w : World} {p n : Nat} {v : Value} {m : Bool} (h : RgAt w p n v m) : Calls Try.prog 13 #[ptr p] w fun e w' => e = .returned (.int .u64 (if m then (n : Int) else 0)) ∧ w = w' := by
  have c := h.c0.1
  go_enter Try.func13, Try.ntmps13
  go_wp2_with fail
  refine (none_at h).mono ?_; rintro e w1 ⟨rfl, rfl⟩
  cases m
  · go_wp2_with fail
    go_ret
    exact ⟨rfl, rfl⟩
  · go_wp2_with fail
    go_ret
    exact ⟨rfl, rfl⟩
theorem rnew_any (w : World) : Calls Try.prog 5 #[] w fun e w' => ∃ p, e = .returned (ptr p) ∧ w.heap.size ≤ p ∧ RgAt w' p 0 (.slice none 0 0) true ∧ Below w.heap.size w w' := by
  have b := ext_alloc w (.cells #[.int .u64 0, .slice none 0 0, .bool true] 49 (0, 0))
  have h : RgAt _ w.heap.size 0 (.slice none 0 0) true := heap_alloc_new w (.cells #[.int .u64 0, .slice none 0 0, .bool true] 49 (0, 0))
  go_enter Try.func5, Try.ntmps5
  go_wp2_with fail
  go_ret
  exact ⟨_, rfl, Nat.le_refl _, h, b⟩
end Go.Proofs.Ytcaaeimcieooiaa
