/-
  No cell of these rows narrows 'for every input' (looked for: loops, veiled, ifaces, maps, wideKeys, modest, calm, conditions, laid).
  DERIVED. THE GIVEN ROWS OF THIS SEAT. 6 by the template 'for every input the law returns true; each argument reads behind the call as it read before'; 0 by the template 'total and deterministic' (their statements: YtnpbapefjbfndaaTotals.lean).
  GIVEN WITH THE SEED: the statements are not yours to turn. If you find one false, say at which input.
  Laid BY PROGRAM, IN A SANDBOX (cutbox-rows.mjs): the forced cells as the released guide's own fill.sh prints them over the translation 3d370db8d9d78f6c… (all of the seat's roots in one cut). By AI agents, Wed Nov 11 2026. No macro, syntax, notation, axiom, sorry.
-/
import Derived.Test.YtnpbapefjbfndaaChecked
import GoSem.Claim
import GoSem.ClaimJoined
import GoSem.ClaimMapViews
import Derived.JoinedTies
import Derived.KernelRfl
namespace Go.Proofs.Ytnpbapefjbfndaa
/- THE CELL 'sum', in the pinned program and in every row, IS THE sha256 OF THE DUMP (.gsa) THAT YtnpbapefjbfndaaProg.lean LOADS. Nothing in Lean hashes anything: it is a label: what it is worth is what the hold of that sum in a sandbox is worth. -/
noncomputable def Try.pinned : Pinned := { name := "ytnpbapefjbfndaa", sum := "3d370db8d9d78f6c6d91e3395f742f9081fbd57e7544d095c2860b1ef7916cb0", checked := Try.checked }
namespace Rows
def none {H : Type} : Left H := { results := [], args := [] }

/-- 'escritoirelaw12.ExtractLists': WHATEVER THE INPUT: true; the input reads as it did. -/
def extractListsSpec : ChangeSpec := { name := "extractLists", fn := fun _ => fun
  | [d1, d2, d3, d4, d5] => { results := [.lit (.bool true)], args := [d1, d2, d3, d4, d5] }
  | _ => none }
def extractListsRow : OpenClaim := { program := "ytnpbapefjbfndaa", sum := "3d370db8d9d78f6c6d91e3395f742f9081fbd57e7544d095c2860b1ef7916cb0", func := "escritoire/escritoirelaw12.ExtractLists", spec := "extractLists", inPlace := ["internal/bytealg.MakeNoZero"], unfollowed := true, recurses := true, apart := false }
def ExtractListsSaid : Prop := extractListsRow.holds Try.pinned (OpenSpec.ofChange extractListsSpec)

/-- ITS FALSE NEIGHBOUR: 'it returns false'. Refute it at one input. -/
def extractListsWrong : ChangeSpec := { name := "extractLists", fn := fun _ => fun
  | [d1, d2, d3, d4, d5] => { results := [.lit (.bool false)], args := [d1, d2, d3, d4, d5] }
  | _ => none }
def ExtractListsWrongFalsely : Prop := extractListsRow.holds Try.pinned (OpenSpec.ofChange extractListsWrong)

/-- 'escritoirelaw12.ExtractIncluded': WHATEVER THE INPUT: true; the input reads as it did. -/
def extractIncludedSpec : ChangeSpec := { name := "extractIncluded", fn := fun _ => fun
  | [d1, d2, d3, d4, d5] => { results := [.lit (.bool true)], args := [d1, d2, d3, d4, d5] }
  | _ => none }
def extractIncludedRow : OpenClaim := { program := "ytnpbapefjbfndaa", sum := "3d370db8d9d78f6c6d91e3395f742f9081fbd57e7544d095c2860b1ef7916cb0", func := "escritoire/escritoirelaw12.ExtractIncluded", spec := "extractIncluded", inPlace := ["internal/bytealg.MakeNoZero"], unfollowed := true, recurses := true, apart := false }
def ExtractIncludedSaid : Prop := extractIncludedRow.holds Try.pinned (OpenSpec.ofChange extractIncludedSpec)

/-- ITS FALSE NEIGHBOUR: 'it returns false'. Refute it at one input. -/
def extractIncludedWrong : ChangeSpec := { name := "extractIncluded", fn := fun _ => fun
  | [d1, d2, d3, d4, d5] => { results := [.lit (.bool false)], args := [d1, d2, d3, d4, d5] }
  | _ => none }
def ExtractIncludedWrongFalsely : Prop := extractIncludedRow.holds Try.pinned (OpenSpec.ofChange extractIncludedWrong)

/-- 'escritoirelaw12.ExtractConsistent': WHATEVER THE INPUT: true; the input reads as it did. -/
def extractConsistentSpec : ChangeSpec := { name := "extractConsistent", fn := fun _ => fun
  | [d1, d2, d3, d4, d5] => { results := [.lit (.bool true)], args := [d1, d2, d3, d4, d5] }
  | _ => none }
def extractConsistentRow : OpenClaim := { program := "ytnpbapefjbfndaa", sum := "3d370db8d9d78f6c6d91e3395f742f9081fbd57e7544d095c2860b1ef7916cb0", func := "escritoire/escritoirelaw12.ExtractConsistent", spec := "extractConsistent", inPlace := ["internal/bytealg.MakeNoZero"], unfollowed := true, recurses := true, apart := false }
def ExtractConsistentSaid : Prop := extractConsistentRow.holds Try.pinned (OpenSpec.ofChange extractConsistentSpec)

/-- ITS FALSE NEIGHBOUR: 'it returns false'. Refute it at one input. -/
def extractConsistentWrong : ChangeSpec := { name := "extractConsistent", fn := fun _ => fun
  | [d1, d2, d3, d4, d5] => { results := [.lit (.bool false)], args := [d1, d2, d3, d4, d5] }
  | _ => none }
def ExtractConsistentWrongFalsely : Prop := extractConsistentRow.holds Try.pinned (OpenSpec.ofChange extractConsistentWrong)

/-- 'escritoirelaw12.ExtractFinds': WHATEVER THE INPUT: true; the input reads as it did. -/
def extractFindsSpec : ChangeSpec := { name := "extractFinds", fn := fun _ => fun
  | [d1, d2, d3] => { results := [.lit (.bool true)], args := [d1, d2, d3] }
  | _ => none }
def extractFindsRow : OpenClaim := { program := "ytnpbapefjbfndaa", sum := "3d370db8d9d78f6c6d91e3395f742f9081fbd57e7544d095c2860b1ef7916cb0", func := "escritoire/escritoirelaw12.ExtractFinds", spec := "extractFinds", inPlace := ["internal/bytealg.MakeNoZero"], unfollowed := true, recurses := true, apart := false }
def ExtractFindsSaid : Prop := extractFindsRow.holds Try.pinned (OpenSpec.ofChange extractFindsSpec)

/-- ITS FALSE NEIGHBOUR: 'it returns false'. Refute it at one input. -/
def extractFindsWrong : ChangeSpec := { name := "extractFinds", fn := fun _ => fun
  | [d1, d2, d3] => { results := [.lit (.bool false)], args := [d1, d2, d3] }
  | _ => none }
def ExtractFindsWrongFalsely : Prop := extractFindsRow.holds Try.pinned (OpenSpec.ofChange extractFindsWrong)

/-- 'escritoirelaw12.ExtractWeak': WHATEVER THE INPUT: true; the input reads as it did. -/
def extractWeakSpec : ChangeSpec := { name := "extractWeak", fn := fun _ => fun
  | [d1, d2, d3, d4, d5, d6] => { results := [.lit (.bool true)], args := [d1, d2, d3, d4, d5, d6] }
  | _ => none }
def extractWeakRow : OpenClaim := { program := "ytnpbapefjbfndaa", sum := "3d370db8d9d78f6c6d91e3395f742f9081fbd57e7544d095c2860b1ef7916cb0", func := "escritoire/escritoirelaw12.ExtractWeak", spec := "extractWeak", inPlace := ["internal/bytealg.MakeNoZero"], unfollowed := true, recurses := true, apart := false }
def ExtractWeakSaid : Prop := extractWeakRow.holds Try.pinned (OpenSpec.ofChange extractWeakSpec)

/-- ITS FALSE NEIGHBOUR: 'it returns false'. Refute it at one input. -/
def extractWeakWrong : ChangeSpec := { name := "extractWeak", fn := fun _ => fun
  | [d1, d2, d3, d4, d5, d6] => { results := [.lit (.bool false)], args := [d1, d2, d3, d4, d5, d6] }
  | _ => none }
def ExtractWeakWrongFalsely : Prop := extractWeakRow.holds Try.pinned (OpenSpec.ofChange extractWeakWrong)

/-- 'escritoirelaw12.ExtractKnown': WHATEVER THE INPUT: true; the input reads as it did. -/
def extractKnownSpec : ChangeSpec := { name := "extractKnown", fn := fun _ => fun
  | [] => { results := [.lit (.bool true)], args := [] }
  | _ => none }
def extractKnownRow : OpenClaim := { program := "ytnpbapefjbfndaa", sum := "3d370db8d9d78f6c6d91e3395f742f9081fbd57e7544d095c2860b1ef7916cb0", func := "escritoire/escritoirelaw12.ExtractKnown", spec := "extractKnown", inPlace := ["internal/bytealg.MakeNoZero"], unfollowed := true, recurses := true, apart := false }
def ExtractKnownSaid : Prop := extractKnownRow.holds Try.pinned (OpenSpec.ofChange extractKnownSpec)

/-- ITS FALSE NEIGHBOUR: 'it returns false'. Refute it at one input. -/
def extractKnownWrong : ChangeSpec := { name := "extractKnown", fn := fun _ => fun
  | [] => { results := [.lit (.bool false)], args := [] }
  | _ => none }
def ExtractKnownWrongFalsely : Prop := extractKnownRow.holds Try.pinned (OpenSpec.ofChange extractKnownWrong)

/- THE SECOND FORM. 'bulk': how many values and letters a reading holds, each counted each time it is reached (what is shared counts as often as it is met; a slice's spare places count too). A statement '..UptoSaid' is the law's where the arguments, and the package variables that the reading takes, are together of bulk at most 1048576: NARROWER than '..Said'. Prove '..Said' where nothing that the law and all that it calls make is longer than what came in: it says more and counts as full. Else prove '..UptoSaid'. A law counts once. -/
mutual
def uptoBulk {H : Type} : DataW H → Nat
  | .lit (.string bytes) => bytes.length + 1
  | .lit _ => 1
  | .nil => 1
  | .ptr d => uptoBulk d + 1
  | .slice elems spare => uptoBulkAll elems + uptoBulkAll spare + 1
  | .agg parts => uptoBulkAll parts + 1
  | .iface _ d => uptoBulk d + 1
  | .map entries => uptoBulkEntries entries + 1
  | .held _ => 1
def uptoBulkAll {H : Type} : List (DataW H) → Nat
  | [] => 0
  | d :: r => uptoBulk d + uptoBulkAll r
def uptoBulkEntries {H : Type} : List (Lit × DataW H) → Nat
  | [] => 0
  | x :: r => uptoBulkEntry x + uptoBulkEntries r
def uptoBulkEntry {H : Type} : Lit × DataW H → Nat
  | (.string bytes, d) => bytes.length + uptoBulk d + 1
  | (_, d) => uptoBulk d + 1
 end
def uptoSmall : (H : Type) → List (DataW H) → Bool := fun _ ds => decide (uptoBulkAll ds ≤ 1048576)
def OpenSpec.upto (s : _root_.Go.ChangeSpec) : _root_.Go.OpenSpec := { _root_.Go.OpenSpec.ofChange s with cond := some uptoSmall }

/-- 'escritoirelaw12.ExtractLists', WHERE WHAT IT READS IS OF BULK AT MOST 1048576: true; the input reads as it did. -/
def extractListsUptoRow : OpenClaim := { program := "ytnpbapefjbfndaa", sum := "3d370db8d9d78f6c6d91e3395f742f9081fbd57e7544d095c2860b1ef7916cb0", func := "escritoire/escritoirelaw12.ExtractLists", spec := "extractLists", inPlace := ["internal/bytealg.MakeNoZero"], unfollowed := true, recurses := true, apart := false, narrowed := true }
def ExtractListsUptoSaid : Prop := extractListsUptoRow.holds Try.pinned (OpenSpec.upto extractListsSpec)

/-- 'escritoirelaw12.ExtractIncluded', WHERE WHAT IT READS IS OF BULK AT MOST 1048576: true; the input reads as it did. -/
def extractIncludedUptoRow : OpenClaim := { program := "ytnpbapefjbfndaa", sum := "3d370db8d9d78f6c6d91e3395f742f9081fbd57e7544d095c2860b1ef7916cb0", func := "escritoire/escritoirelaw12.ExtractIncluded", spec := "extractIncluded", inPlace := ["internal/bytealg.MakeNoZero"], unfollowed := true, recurses := true, apart := false, narrowed := true }
def ExtractIncludedUptoSaid : Prop := extractIncludedUptoRow.holds Try.pinned (OpenSpec.upto extractIncludedSpec)

/-- 'escritoirelaw12.ExtractConsistent', WHERE WHAT IT READS IS OF BULK AT MOST 1048576: true; the input reads as it did. -/
def extractConsistentUptoRow : OpenClaim := { program := "ytnpbapefjbfndaa", sum := "3d370db8d9d78f6c6d91e3395f742f9081fbd57e7544d095c2860b1ef7916cb0", func := "escritoire/escritoirelaw12.ExtractConsistent", spec := "extractConsistent", inPlace := ["internal/bytealg.MakeNoZero"], unfollowed := true, recurses := true, apart := false, narrowed := true }
def ExtractConsistentUptoSaid : Prop := extractConsistentUptoRow.holds Try.pinned (OpenSpec.upto extractConsistentSpec)

/-- 'escritoirelaw12.ExtractFinds', WHERE WHAT IT READS IS OF BULK AT MOST 1048576: true; the input reads as it did. -/
def extractFindsUptoRow : OpenClaim := { program := "ytnpbapefjbfndaa", sum := "3d370db8d9d78f6c6d91e3395f742f9081fbd57e7544d095c2860b1ef7916cb0", func := "escritoire/escritoirelaw12.ExtractFinds", spec := "extractFinds", inPlace := ["internal/bytealg.MakeNoZero"], unfollowed := true, recurses := true, apart := false, narrowed := true }
def ExtractFindsUptoSaid : Prop := extractFindsUptoRow.holds Try.pinned (OpenSpec.upto extractFindsSpec)

/-- 'escritoirelaw12.ExtractWeak', WHERE WHAT IT READS IS OF BULK AT MOST 1048576: true; the input reads as it did. -/
def extractWeakUptoRow : OpenClaim := { program := "ytnpbapefjbfndaa", sum := "3d370db8d9d78f6c6d91e3395f742f9081fbd57e7544d095c2860b1ef7916cb0", func := "escritoire/escritoirelaw12.ExtractWeak", spec := "extractWeak", inPlace := ["internal/bytealg.MakeNoZero"], unfollowed := true, recurses := true, apart := false, narrowed := true }
def ExtractWeakUptoSaid : Prop := extractWeakUptoRow.holds Try.pinned (OpenSpec.upto extractWeakSpec)

/-- 'escritoirelaw12.ExtractKnown', WHERE WHAT IT READS IS OF BULK AT MOST 1048576: true; the input reads as it did. -/
def extractKnownUptoRow : OpenClaim := { program := "ytnpbapefjbfndaa", sum := "3d370db8d9d78f6c6d91e3395f742f9081fbd57e7544d095c2860b1ef7916cb0", func := "escritoire/escritoirelaw12.ExtractKnown", spec := "extractKnown", inPlace := ["internal/bytealg.MakeNoZero"], unfollowed := true, recurses := true, apart := false, narrowed := true }
def ExtractKnownUptoSaid : Prop := extractKnownUptoRow.holds Try.pinned (OpenSpec.upto extractKnownSpec)

end Rows
end Go.Proofs.Ytnpbapefjbfndaa
