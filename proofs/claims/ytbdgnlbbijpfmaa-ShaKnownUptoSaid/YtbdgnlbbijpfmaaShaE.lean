/- Len of a state (walks). -/
import Derived.Test.YtbdgnlbbijpfmaaShaC
set_option linter.unusedVariables false
set_option linter.unusedSimpArgs false
namespace Go.Proofs.Ytbdgnlbbijpfmaa
open Go.RowKit

theorem len_nil (w : World) :
    Calls Try.prog 18 #[.pointer none] w fun e w' => e = .returned (.int .u64 0) ∧ w = w' := by
  go_enter Try.func18, Try.ntmps18
  go_wp2_with fail
  go_ret
  exact ⟨rfl, rfl⟩
theorem len_cell (g : Nat) (n : Nat) (w : World) (h : w.cell? ⟨g, 72, none⟩ = some (.int .u64 n)) :
    Calls Try.prog 18 #[.pointer (some ⟨g, 0, none⟩)] w fun e w' => e = .returned (.int .u64 n) ∧ w = w' := by
  go_enter Try.func18, Try.ntmps18
  go_wp2_with fail
  go_ret
  exact ⟨rfl, rfl⟩
theorem len_any (g : Nat) (xs : List UInt8) (w : World) (hs : St w g xs) :
    Calls Try.prog 18 #[.pointer (some ⟨g, 0, none⟩)] w fun e w' => e = .returned (.int .u64 xs.length) ∧ w = w' := by
  obtain ⟨hl, s, rest, hR, hA⟩ := st_iff.1 hs
  exact len_cell g xs.length w (hA.cell (stCells_72 _ _ _ _ hR.1)).1

end Go.Proofs.Ytbdgnlbbijpfmaa
