/-
  No cell of these rows narrows 'for every input' (looked for: loops, veiled, ifaces, maps, wideKeys, modest, calm, conditions, laid).
  DERIVED. THE GIVEN ROWS OF THIS SEAT. 5 by the template 'for every input the law returns true; each argument reads behind the call as it read before'; 0 by the template 'total and deterministic' (their statements: YtpdkonkgkjkkmaaTotals.lean).
  GIVEN WITH THE SEED: the statements are not yours to turn. If you find one false, say at which input.
  Laid BY PROGRAM, IN A SANDBOX (cutbox-rows.mjs): the forced cells as the released guide's own fill.sh prints them over the translation 5635cd4f185addee… (all of the seat's roots in one cut). By AI agents, Wed Nov 11 2026. No macro, syntax, notation, axiom, sorry.
-/
import Derived.Test.YtpdkonkgkjkkmaaChecked
import GoSem.Claim
import GoSem.ClaimJoined
import GoSem.ClaimMapViews
import Derived.JoinedTies
import Derived.KernelRfl
namespace Go.Proofs.Ytpdkonkgkjkkmaa
/- THE CELL 'sum', in the pinned program and in every row, IS THE sha256 OF THE DUMP (.gsa) THAT YtpdkonkgkjkkmaaProg.lean LOADS. Nothing in Lean hashes anything: it is a label: what it is worth is what the hold of that sum in a sandbox is worth. -/
noncomputable def Try.pinned : Pinned := { name := "ytpdkonkgkjkkmaa", sum := "5635cd4f185addeea1731f5e03de5407d8826ec905870368a82d4bf40fc886c5", checked := Try.checked }
namespace Rows
def none {H : Type} : Left H := { results := [], args := [] }

/-- 'escritoirelaw06.SignMarks': WHATEVER THE INPUT: true; the input reads as it did. -/
def signMarksSpec : ChangeSpec := { name := "signMarks", fn := fun _ => fun
  | [d1, d2] => { results := [.lit (.bool true)], args := [d1, d2] }
  | _ => none }
def signMarksRow : OpenClaim := { program := "ytpdkonkgkjkkmaa", sum := "5635cd4f185addeea1731f5e03de5407d8826ec905870368a82d4bf40fc886c5", func := "escritoire/escritoirelaw06.SignMarks", spec := "signMarks", apart := false }
def SignMarksSaid : Prop := signMarksRow.holds Try.pinned (OpenSpec.ofChange signMarksSpec)

/-- ITS FALSE NEIGHBOUR: 'it returns false'. Refute it at one input. -/
def signMarksWrong : ChangeSpec := { name := "signMarks", fn := fun _ => fun
  | [d1, d2] => { results := [.lit (.bool false)], args := [d1, d2] }
  | _ => none }
def SignMarksWrongFalsely : Prop := signMarksRow.holds Try.pinned (OpenSpec.ofChange signMarksWrong)

/-- 'escritoirelaw06.SignBack': WHATEVER THE INPUT: true; the input reads as it did. -/
def signBackSpec : ChangeSpec := { name := "signBack", fn := fun _ => fun
  | [d1, d2] => { results := [.lit (.bool true)], args := [d1, d2] }
  | _ => none }
def signBackRow : OpenClaim := { program := "ytpdkonkgkjkkmaa", sum := "5635cd4f185addeea1731f5e03de5407d8826ec905870368a82d4bf40fc886c5", func := "escritoire/escritoirelaw06.SignBack", spec := "signBack", apart := false }
def SignBackSaid : Prop := signBackRow.holds Try.pinned (OpenSpec.ofChange signBackSpec)

/-- ITS FALSE NEIGHBOUR: 'it returns false'. Refute it at one input. -/
def signBackWrong : ChangeSpec := { name := "signBack", fn := fun _ => fun
  | [d1, d2] => { results := [.lit (.bool false)], args := [d1, d2] }
  | _ => none }
def SignBackWrongFalsely : Prop := signBackRow.holds Try.pinned (OpenSpec.ofChange signBackWrong)

/-- 'escritoirelaw06.SignSigns': WHATEVER THE INPUT: true; the input reads as it did. -/
def signSignsSpec : ChangeSpec := { name := "signSigns", fn := fun _ => fun
  | [d1, d2, d3] => { results := [.lit (.bool true)], args := [d1, d2, d3] }
  | _ => none }
def signSignsRow : OpenClaim := { program := "ytpdkonkgkjkkmaa", sum := "5635cd4f185addeea1731f5e03de5407d8826ec905870368a82d4bf40fc886c5", func := "escritoire/escritoirelaw06.SignSigns", spec := "signSigns", apart := false }
def SignSignsSaid : Prop := signSignsRow.holds Try.pinned (OpenSpec.ofChange signSignsSpec)

/-- ITS FALSE NEIGHBOUR: 'it returns false'. Refute it at one input. -/
def signSignsWrong : ChangeSpec := { name := "signSigns", fn := fun _ => fun
  | [d1, d2, d3] => { results := [.lit (.bool false)], args := [d1, d2, d3] }
  | _ => none }
def SignSignsWrongFalsely : Prop := signSignsRow.holds Try.pinned (OpenSpec.ofChange signSignsWrong)

/-- 'escritoirelaw06.SignKnown': WHATEVER THE INPUT: true; the input reads as it did. -/
def signKnownSpec : ChangeSpec := { name := "signKnown", fn := fun _ => fun
  | [] => { results := [.lit (.bool true)], args := [] }
  | _ => none }
def signKnownRow : OpenClaim := { program := "ytpdkonkgkjkkmaa", sum := "5635cd4f185addeea1731f5e03de5407d8826ec905870368a82d4bf40fc886c5", func := "escritoire/escritoirelaw06.SignKnown", spec := "signKnown", apart := false }
def SignKnownSaid : Prop := signKnownRow.holds Try.pinned (OpenSpec.ofChange signKnownSpec)

/-- ITS FALSE NEIGHBOUR: 'it returns false'. Refute it at one input. -/
def signKnownWrong : ChangeSpec := { name := "signKnown", fn := fun _ => fun
  | [] => { results := [.lit (.bool false)], args := [] }
  | _ => none }
def SignKnownWrongFalsely : Prop := signKnownRow.holds Try.pinned (OpenSpec.ofChange signKnownWrong)

/-- 'escritoirelaw06.SignHolds': WHATEVER THE INPUT: true; the input reads as it did. -/
def signHoldsSpec : ChangeSpec := { name := "signHolds", fn := fun _ => fun
  | [d1, d2, d3, d4, d5] => { results := [.lit (.bool true)], args := [d1, d2, d3, d4, d5] }
  | _ => none }
def signHoldsRow : OpenClaim := { program := "ytpdkonkgkjkkmaa", sum := "5635cd4f185addeea1731f5e03de5407d8826ec905870368a82d4bf40fc886c5", func := "escritoire/escritoirelaw06.SignHolds", spec := "signHolds", apart := false }
def SignHoldsSaid : Prop := signHoldsRow.holds Try.pinned (OpenSpec.ofChange signHoldsSpec)

/-- ITS FALSE NEIGHBOUR: 'it returns false'. Refute it at one input. -/
def signHoldsWrong : ChangeSpec := { name := "signHolds", fn := fun _ => fun
  | [d1, d2, d3, d4, d5] => { results := [.lit (.bool false)], args := [d1, d2, d3, d4, d5] }
  | _ => none }
def SignHoldsWrongFalsely : Prop := signHoldsRow.holds Try.pinned (OpenSpec.ofChange signHoldsWrong)

/- THE SECOND FORM. 'bulk': how many values and letters a reading holds, each counted each time it is reached (what is shared counts as often as it is met; a slice's spare places count too). A statement '..UptoSaid' is the law's where the arguments, and the package variables that the reading takes, are together of bulk at most 1048576: NARROWER than '..Said'. Prove '..Said' where nothing that the law and all that it calls make is longer than what came in: it says more and counts as full. Else prove '..UptoSaid'. A law counts once. -/
mutual
def uptoBulk {H : Type} : DataW H → Nat
  | .lit (.string bytes) => bytes.length + 1
  | .lit _ => 1
  | .nil => 1
  | .ptr d => uptoBulk d + 1
  | .slice elems spare => uptoBulkAll elems + uptoBulkAll spare + 1
  | .agg parts => uptoBulkAll parts + 1
  | .iface _ d => uptoBulk d + 1
  | .map entries => uptoBulkEntries entries + 1
  | .held _ => 1
def uptoBulkAll {H : Type} : List (DataW H) → Nat
  | [] => 0
  | d :: r => uptoBulk d + uptoBulkAll r
def uptoBulkEntries {H : Type} : List (Lit × DataW H) → Nat
  | [] => 0
  | x :: r => uptoBulkEntry x + uptoBulkEntries r
def uptoBulkEntry {H : Type} : Lit × DataW H → Nat
  | (.string bytes, d) => bytes.length + uptoBulk d + 1
  | (_, d) => uptoBulk d + 1
 end
def uptoSmall : (H : Type) → List (DataW H) → Bool := fun _ ds => decide (uptoBulkAll ds ≤ 1048576)
def OpenSpec.upto (s : _root_.Go.ChangeSpec) : _root_.Go.OpenSpec := { _root_.Go.OpenSpec.ofChange s with cond := some uptoSmall }

/-- 'escritoirelaw06.SignMarks', WHERE WHAT IT READS IS OF BULK AT MOST 1048576: true; the input reads as it did. -/
def signMarksUptoRow : OpenClaim := { program := "ytpdkonkgkjkkmaa", sum := "5635cd4f185addeea1731f5e03de5407d8826ec905870368a82d4bf40fc886c5", func := "escritoire/escritoirelaw06.SignMarks", spec := "signMarks", apart := false, narrowed := true }
def SignMarksUptoSaid : Prop := signMarksUptoRow.holds Try.pinned (OpenSpec.upto signMarksSpec)

/-- 'escritoirelaw06.SignBack', WHERE WHAT IT READS IS OF BULK AT MOST 1048576: true; the input reads as it did. -/
def signBackUptoRow : OpenClaim := { program := "ytpdkonkgkjkkmaa", sum := "5635cd4f185addeea1731f5e03de5407d8826ec905870368a82d4bf40fc886c5", func := "escritoire/escritoirelaw06.SignBack", spec := "signBack", apart := false, narrowed := true }
def SignBackUptoSaid : Prop := signBackUptoRow.holds Try.pinned (OpenSpec.upto signBackSpec)

/-- 'escritoirelaw06.SignSigns', WHERE WHAT IT READS IS OF BULK AT MOST 1048576: true; the input reads as it did. -/
def signSignsUptoRow : OpenClaim := { program := "ytpdkonkgkjkkmaa", sum := "5635cd4f185addeea1731f5e03de5407d8826ec905870368a82d4bf40fc886c5", func := "escritoire/escritoirelaw06.SignSigns", spec := "signSigns", apart := false, narrowed := true }
def SignSignsUptoSaid : Prop := signSignsUptoRow.holds Try.pinned (OpenSpec.upto signSignsSpec)

/-- 'escritoirelaw06.SignKnown', WHERE WHAT IT READS IS OF BULK AT MOST 1048576: true; the input reads as it did. -/
def signKnownUptoRow : OpenClaim := { program := "ytpdkonkgkjkkmaa", sum := "5635cd4f185addeea1731f5e03de5407d8826ec905870368a82d4bf40fc886c5", func := "escritoire/escritoirelaw06.SignKnown", spec := "signKnown", apart := false, narrowed := true }
def SignKnownUptoSaid : Prop := signKnownUptoRow.holds Try.pinned (OpenSpec.upto signKnownSpec)

/-- 'escritoirelaw06.SignHolds', WHERE WHAT IT READS IS OF BULK AT MOST 1048576: true; the input reads as it did. -/
def signHoldsUptoRow : OpenClaim := { program := "ytpdkonkgkjkkmaa", sum := "5635cd4f185addeea1731f5e03de5407d8826ec905870368a82d4bf40fc886c5", func := "escritoire/escritoirelaw06.SignHolds", spec := "signHolds", apart := false, narrowed := true }
def SignHoldsUptoSaid : Prop := signHoldsUptoRow.holds Try.pinned (OpenSpec.upto signHoldsSpec)

end Rows
end Go.Proofs.Ytpdkonkgkjkkmaa
