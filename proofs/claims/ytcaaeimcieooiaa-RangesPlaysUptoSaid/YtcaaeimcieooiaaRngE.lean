/- ranges.From, where it makes none (walks). -/
import Derived.Test.YtcaaeimcieooiaaRngD
set_option linter.unusedVariables false
set_option linter.unusedSimpArgs false
set_option maxRecDepth 10000
namespace Go.Proofs.Ytcaaeimcieooiaa
open Go.RowKit

theorem from_big (A : Option Addr) (n c : Nat) (w : World) (size : Nat) (h : 1048576 < size) :
    Calls Try.prog 14 #[.slice A n c, .int .u64 (size : Int)] w fun e w' => e = .returned (.tuple #[.pointer none, .int .i64 1]) ∧ w = w' := by
  have d1 : decide ((1048576 : Int) < size) = true := decide_eq_true (by omega)
  have d2 : decide (1048576 < size) = true := decide_eq_true h
  go_enter Try.func14, Try.ntmps14
  go_wp2_with fail
  go_ret2
  exact ⟨rfl, rfl⟩
theorem from_other (A : Option Addr) (n c : Nat) (w : World) (size : Nat) (h : size ≤ 1048576) (hn : n ≠ popN 21 size) :
    Calls Try.prog 14 #[.slice A n c, .int .u64 (size : Int)] w fun e w' => e = .returned (.tuple #[.pointer none, .int .i64 1]) ∧ w = w' := by
  have d1 : decide ((1048576 : Int) < size) = false := decide_eq_false (by omega)
  have d2 : decide (1048576 < size) = false := decide_eq_false (by omega)
  have ho := ones_any size w (by omega)
  generalize popN 21 size = m at *
  have q1 : ((n : Int) != (m : Int)) = true := by simp; omega
  have q2 : (n != m) = true := by simpa using hn
  have q3 : (n == m) = false := by simpa using hn
  have q4 : ((n : Int) == (m : Int)) = false := by simp; omega
  go_enter Try.func14, Try.ntmps14
  go_wp2_with fail
  refine ho.mono ?_; rintro e w1 ⟨rfl, rfl⟩
  go_wp2_with fail
  go_ret2
  exact ⟨rfl, rfl⟩
end Go.Proofs.Ytcaaeimcieooiaa
