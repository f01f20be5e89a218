/-
  No cell of these rows narrows 'for every input' (looked for: loops, veiled, ifaces, maps, wideKeys, modest, calm, conditions, laid).
  DERIVED. THE GIVEN ROWS OF THIS SEAT. 5 by the template 'for every input the law returns true; each argument reads behind the call as it read before'; 0 by the template 'total and deterministic' (their statements: YtidgomppehhkgaaTotals.lean).
  GIVEN WITH THE SEED: the statements are not yours to turn. If you find one false, say at which input.
  Laid BY PROGRAM, IN A SANDBOX (cutbox-rows.mjs): the forced cells as the released guide's own fill.sh prints them over the translation 87a8c2ad72a8fbd0… (all of the seat's roots in one cut). By AI agents, Wed Nov 11 2026. No macro, syntax, notation, axiom, sorry.
-/
import Derived.Test.YtidgomppehhkgaaChecked
import GoSem.Claim
import GoSem.ClaimJoined
import GoSem.ClaimMapViews
import Derived.JoinedTies
import Derived.KernelRfl
namespace Go.Proofs.Ytidgomppehhkgaa
/- THE CELL 'sum', in the pinned program and in every row, IS THE sha256 OF THE DUMP (.gsa) THAT YtidgomppehhkgaaProg.lean LOADS. Nothing in Lean hashes anything: it is a label: what it is worth is what the hold of that sum in a sandbox is worth. -/
noncomputable def Try.pinned : Pinned := { name := "ytidgomppehhkgaa", sum := "87a8c2ad72a8fbd04bd035fa1b22d2e11238db8fa4ae63ae222220b37a59bc17", checked := Try.checked }
namespace Rows
def none {H : Type} : Left H := { results := [], args := [] }

/-- 'escritoirelaw08.MerkleRoots': WHATEVER THE INPUT: true; the input reads as it did. -/
def merkleRootsSpec : ChangeSpec := { name := "merkleRoots", fn := fun _ => fun
  | [d1, d2, d3] => { results := [.lit (.bool true)], args := [d1, d2, d3] }
  | _ => none }
def merkleRootsRow : OpenClaim := { program := "ytidgomppehhkgaa", sum := "87a8c2ad72a8fbd04bd035fa1b22d2e11238db8fa4ae63ae222220b37a59bc17", func := "escritoire/escritoirelaw08.MerkleRoots", spec := "merkleRoots", recurses := true, apart := false }
def MerkleRootsSaid : Prop := merkleRootsRow.holds Try.pinned (OpenSpec.ofChange merkleRootsSpec)

/-- ITS FALSE NEIGHBOUR: 'it returns false'. Refute it at one input. -/
def merkleRootsWrong : ChangeSpec := { name := "merkleRoots", fn := fun _ => fun
  | [d1, d2, d3] => { results := [.lit (.bool false)], args := [d1, d2, d3] }
  | _ => none }
def MerkleRootsWrongFalsely : Prop := merkleRootsRow.holds Try.pinned (OpenSpec.ofChange merkleRootsWrong)

/-- 'escritoirelaw08.MerkleJoins': WHATEVER THE INPUT: true; the input reads as it did. -/
def merkleJoinsSpec : ChangeSpec := { name := "merkleJoins", fn := fun _ => fun
  | [d] => { results := [.lit (.bool true)], args := [d] }
  | _ => none }
def merkleJoinsRow : OpenClaim := { program := "ytidgomppehhkgaa", sum := "87a8c2ad72a8fbd04bd035fa1b22d2e11238db8fa4ae63ae222220b37a59bc17", func := "escritoire/escritoirelaw08.MerkleJoins", spec := "merkleJoins", recurses := true, apart := false }
def MerkleJoinsSaid : Prop := merkleJoinsRow.holds Try.pinned (OpenSpec.ofChange merkleJoinsSpec)

/-- ITS FALSE NEIGHBOUR: 'it returns false'. Refute it at one input. -/
def merkleJoinsWrong : ChangeSpec := { name := "merkleJoins", fn := fun _ => fun
  | [d] => { results := [.lit (.bool false)], args := [d] }
  | _ => none }
def MerkleJoinsWrongFalsely : Prop := merkleJoinsRow.holds Try.pinned (OpenSpec.ofChange merkleJoinsWrong)

/-- 'escritoirelaw08.MerkleStands': WHATEVER THE INPUT: true; the input reads as it did. -/
def merkleStandsSpec : ChangeSpec := { name := "merkleStands", fn := fun _ => fun
  | [d1, d2, d3] => { results := [.lit (.bool true)], args := [d1, d2, d3] }
  | _ => none }
def merkleStandsRow : OpenClaim := { program := "ytidgomppehhkgaa", sum := "87a8c2ad72a8fbd04bd035fa1b22d2e11238db8fa4ae63ae222220b37a59bc17", func := "escritoire/escritoirelaw08.MerkleStands", spec := "merkleStands", recurses := true, apart := false }
def MerkleStandsSaid : Prop := merkleStandsRow.holds Try.pinned (OpenSpec.ofChange merkleStandsSpec)

/-- ITS FALSE NEIGHBOUR: 'it returns false'. Refute it at one input. -/
def merkleStandsWrong : ChangeSpec := { name := "merkleStands", fn := fun _ => fun
  | [d1, d2, d3] => { results := [.lit (.bool false)], args := [d1, d2, d3] }
  | _ => none }
def MerkleStandsWrongFalsely : Prop := merkleStandsRow.holds Try.pinned (OpenSpec.ofChange merkleStandsWrong)

/-- 'escritoirelaw08.MerkleHashes': WHATEVER THE INPUT: true; the input reads as it did. -/
def merkleHashesSpec : ChangeSpec := { name := "merkleHashes", fn := fun _ => fun
  | [d1, d2, d3, d4] => { results := [.lit (.bool true)], args := [d1, d2, d3, d4] }
  | _ => none }
def merkleHashesRow : OpenClaim := { program := "ytidgomppehhkgaa", sum := "87a8c2ad72a8fbd04bd035fa1b22d2e11238db8fa4ae63ae222220b37a59bc17", func := "escritoire/escritoirelaw08.MerkleHashes", spec := "merkleHashes", recurses := true, apart := false }
def MerkleHashesSaid : Prop := merkleHashesRow.holds Try.pinned (OpenSpec.ofChange merkleHashesSpec)

/-- ITS FALSE NEIGHBOUR: 'it returns false'. Refute it at one input. -/
def merkleHashesWrong : ChangeSpec := { name := "merkleHashes", fn := fun _ => fun
  | [d1, d2, d3, d4] => { results := [.lit (.bool false)], args := [d1, d2, d3, d4] }
  | _ => none }
def MerkleHashesWrongFalsely : Prop := merkleHashesRow.holds Try.pinned (OpenSpec.ofChange merkleHashesWrong)

/-- 'escritoirelaw08.MerkleKnown': WHATEVER THE INPUT: true; the input reads as it did. -/
def merkleKnownSpec : ChangeSpec := { name := "merkleKnown", fn := fun _ => fun
  | [] => { results := [.lit (.bool true)], args := [] }
  | _ => none }
def merkleKnownRow : OpenClaim := { program := "ytidgomppehhkgaa", sum := "87a8c2ad72a8fbd04bd035fa1b22d2e11238db8fa4ae63ae222220b37a59bc17", func := "escritoire/escritoirelaw08.MerkleKnown", spec := "merkleKnown", recurses := true, apart := false }
def MerkleKnownSaid : Prop := merkleKnownRow.holds Try.pinned (OpenSpec.ofChange merkleKnownSpec)

/-- ITS FALSE NEIGHBOUR: 'it returns false'. Refute it at one input. -/
def merkleKnownWrong : ChangeSpec := { name := "merkleKnown", fn := fun _ => fun
  | [] => { results := [.lit (.bool false)], args := [] }
  | _ => none }
def MerkleKnownWrongFalsely : Prop := merkleKnownRow.holds Try.pinned (OpenSpec.ofChange merkleKnownWrong)

/- THE SECOND FORM. 'bulk': how many values and letters a reading holds, each counted each time it is reached (what is shared counts as often as it is met; a slice's spare places count too). A statement '..UptoSaid' is the law's where the arguments, and the package variables that the reading takes, are together of bulk at most 1048576: NARROWER than '..Said'. Prove '..Said' where nothing that the law and all that it calls make is longer than what came in: it says more and counts as full. Else prove '..UptoSaid'. A law counts once. -/
mutual
def uptoBulk {H : Type} : DataW H → Nat
  | .lit (.string bytes) => bytes.length + 1
  | .lit _ => 1
  | .nil => 1
  | .ptr d => uptoBulk d + 1
  | .slice elems spare => uptoBulkAll elems + uptoBulkAll spare + 1
  | .agg parts => uptoBulkAll parts + 1
  | .iface _ d => uptoBulk d + 1
  | .map entries => uptoBulkEntries entries + 1
  | .held _ => 1
def uptoBulkAll {H : Type} : List (DataW H) → Nat
  | [] => 0
  | d :: r => uptoBulk d + uptoBulkAll r
def uptoBulkEntries {H : Type} : List (Lit × DataW H) → Nat
  | [] => 0
  | x :: r => uptoBulkEntry x + uptoBulkEntries r
def uptoBulkEntry {H : Type} : Lit × DataW H → Nat
  | (.string bytes, d) => bytes.length + uptoBulk d + 1
  | (_, d) => uptoBulk d + 1
 end
def uptoSmall : (H : Type) → List (DataW H) → Bool := fun _ ds => decide (uptoBulkAll ds ≤ 1048576)
def OpenSpec.upto (s : _root_.Go.ChangeSpec) : _root_.Go.OpenSpec := { _root_.Go.OpenSpec.ofChange s with cond := some uptoSmall }

/-- 'escritoirelaw08.MerkleRoots', WHERE WHAT IT READS IS OF BULK AT MOST 1048576: true; the input reads as it did. -/
def merkleRootsUptoRow : OpenClaim := { program := "ytidgomppehhkgaa", sum := "87a8c2ad72a8fbd04bd035fa1b22d2e11238db8fa4ae63ae222220b37a59bc17", func := "escritoire/escritoirelaw08.MerkleRoots", spec := "merkleRoots", recurses := true, apart := false, narrowed := true }
def MerkleRootsUptoSaid : Prop := merkleRootsUptoRow.holds Try.pinned (OpenSpec.upto merkleRootsSpec)

/-- 'escritoirelaw08.MerkleJoins', WHERE WHAT IT READS IS OF BULK AT MOST 1048576: true; the input reads as it did. -/
def merkleJoinsUptoRow : OpenClaim := { program := "ytidgomppehhkgaa", sum := "87a8c2ad72a8fbd04bd035fa1b22d2e11238db8fa4ae63ae222220b37a59bc17", func := "escritoire/escritoirelaw08.MerkleJoins", spec := "merkleJoins", recurses := true, apart := false, narrowed := true }
def MerkleJoinsUptoSaid : Prop := merkleJoinsUptoRow.holds Try.pinned (OpenSpec.upto merkleJoinsSpec)

/-- 'escritoirelaw08.MerkleStands', WHERE WHAT IT READS IS OF BULK AT MOST 1048576: true; the input reads as it did. -/
def merkleStandsUptoRow : OpenClaim := { program := "ytidgomppehhkgaa", sum := "87a8c2ad72a8fbd04bd035fa1b22d2e11238db8fa4ae63ae222220b37a59bc17", func := "escritoire/escritoirelaw08.MerkleStands", spec := "merkleStands", recurses := true, apart := false, narrowed := true }
def MerkleStandsUptoSaid : Prop := merkleStandsUptoRow.holds Try.pinned (OpenSpec.upto merkleStandsSpec)

/-- 'escritoirelaw08.MerkleHashes', WHERE WHAT IT READS IS OF BULK AT MOST 1048576: true; the input reads as it did. -/
def merkleHashesUptoRow : OpenClaim := { program := "ytidgomppehhkgaa", sum := "87a8c2ad72a8fbd04bd035fa1b22d2e11238db8fa4ae63ae222220b37a59bc17", func := "escritoire/escritoirelaw08.MerkleHashes", spec := "merkleHashes", recurses := true, apart := false, narrowed := true }
def MerkleHashesUptoSaid : Prop := merkleHashesUptoRow.holds Try.pinned (OpenSpec.upto merkleHashesSpec)

/-- 'escritoirelaw08.MerkleKnown', WHERE WHAT IT READS IS OF BULK AT MOST 1048576: true; the input reads as it did. -/
def merkleKnownUptoRow : OpenClaim := { program := "ytidgomppehhkgaa", sum := "87a8c2ad72a8fbd04bd035fa1b22d2e11238db8fa4ae63ae222220b37a59bc17", func := "escritoire/escritoirelaw08.MerkleKnown", spec := "merkleKnown", recurses := true, apart := false, narrowed := true }
def MerkleKnownUptoSaid : Prop := merkleKnownUptoRow.holds Try.pinned (OpenSpec.upto merkleKnownSpec)

end Rows
end Go.Proofs.Ytidgomppehhkgaa
