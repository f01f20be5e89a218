/- Arguments laid open: signatures. -/
import Derived.Test.YtpdkonkgkjkkmaaOpD
set_option linter.unusedVariables false
set_option linter.unusedSimpArgs false
namespace Go.Proofs.Ytpdkonkgkjkkmaa
open Go.ChangeShapes Go.WideShapes Go.ChangeAt Go.RowKit
theorem open_sg {H : Type} {enc : TypeId × Value → H} {W : World} {base : Nat} {v : Value} {d : DataW H} {ps : List MemPlace} (hval : Value.okWide Try.prog W .any base 22 v) (_h : DataW.Trod enc Try.prog W 0 (fun _ => true) true 22 v d ps) :
    ∃ xs : List UInt8, v = dg xs ∧ xs.length = 64 := open_arr8 (by kernel_rfl) (by kernel_rfl) (by kernel_rfl) hval
end Go.Proofs.Ytpdkonkgkjkkmaa
