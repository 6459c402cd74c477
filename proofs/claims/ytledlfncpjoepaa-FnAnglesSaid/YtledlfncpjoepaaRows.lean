/-
  No cell of these rows narrows 'for every input' (looked for: loops, veiled, ifaces, maps, wideKeys, modest, calm, conditions, laid).
  DERIVED. THE GIVEN ROWS OF THIS SEAT. 12 by the template 'for every input the law returns true; each argument reads behind the call as it read before'; 0 by the template 'total and deterministic' (their statements: YtledlfncpjoepaaTotals.lean).
  GIVEN WITH THE SEED: the statements are not yours to turn. If you find one false, say at which input.
  Laid BY PROGRAM, IN A SANDBOX (cutbox-rows.mjs): the forced cells as the released guide's own fill.sh prints them over the translation 9f7e8a60204b4cca… (all of the seat's roots in one cut). By AI agents, Wed Nov 11 2026. No macro, syntax, notation, axiom, sorry.
-/
import Derived.Test.YtledlfncpjoepaaChecked
import GoSem.Claim
import GoSem.ClaimJoined
import GoSem.ClaimMapViews
import Derived.JoinedTies
import Derived.KernelRfl
namespace Go.Proofs.Ytledlfncpjoepaa
/- THE CELL 'sum', in the pinned program and in every row, IS THE sha256 OF THE DUMP (.gsa) THAT YtledlfncpjoepaaProg.lean LOADS. Nothing in Lean hashes anything: it is a label: what it is worth is what the hold of that sum in a sandbox is worth. -/
noncomputable def Try.pinned : Pinned := { name := "ytledlfncpjoepaa", sum := "9f7e8a60204b4ccaf3a4a9b78f16b09c207df2b7f3858afb8069a2a4a77ece1c", checked := Try.checked }
namespace Rows
def none {H : Type} : Left H := { results := [], args := [] }

/-- 'laws.FnExactTangentOf': WHATEVER THE INPUT: true; the input reads as it did. -/
def fnExactTangentOfSpec : ChangeSpec := { name := "fnExactTangentOf", fn := fun _ => fun
  | [d] => { results := [.lit (.bool true)], args := [d] }
  | _ => none }
def fnExactTangentOfRow : OpenClaim := { program := "ytledlfncpjoepaa", sum := "9f7e8a60204b4ccaf3a4a9b78f16b09c207df2b7f3858afb8069a2a4a77ece1c", func := "loop.example/g01055/laws.FnExactTangentOf", spec := "fnExactTangentOf", recurses := true, apart := false }
def FnExactTangentOfSaid : Prop := fnExactTangentOfRow.holds Try.pinned (OpenSpec.ofChange fnExactTangentOfSpec)

/-- ITS FALSE NEIGHBOUR: 'it returns false'. Refute it at one input. -/
def fnExactTangentOfWrong : ChangeSpec := { name := "fnExactTangentOf", fn := fun _ => fun
  | [d] => { results := [.lit (.bool false)], args := [d] }
  | _ => none }
def FnExactTangentOfWrongFalsely : Prop := fnExactTangentOfRow.holds Try.pinned (OpenSpec.ofChange fnExactTangentOfWrong)

/-- 'laws.FnExactRingsOf': WHATEVER THE INPUT: true; the input reads as it did. -/
def fnExactRingsOfSpec : ChangeSpec := { name := "fnExactRingsOf", fn := fun _ => fun
  | [d1, d2] => { results := [.lit (.bool true)], args := [d1, d2] }
  | _ => none }
def fnExactRingsOfRow : OpenClaim := { program := "ytledlfncpjoepaa", sum := "9f7e8a60204b4ccaf3a4a9b78f16b09c207df2b7f3858afb8069a2a4a77ece1c", func := "loop.example/g01055/laws.FnExactRingsOf", spec := "fnExactRingsOf", apart := false }
def FnExactRingsOfSaid : Prop := fnExactRingsOfRow.holds Try.pinned (OpenSpec.ofChange fnExactRingsOfSpec)

/-- ITS FALSE NEIGHBOUR: 'it returns false'. Refute it at one input. -/
def fnExactRingsOfWrong : ChangeSpec := { name := "fnExactRingsOf", fn := fun _ => fun
  | [d1, d2] => { results := [.lit (.bool false)], args := [d1, d2] }
  | _ => none }
def FnExactRingsOfWrongFalsely : Prop := fnExactRingsOfRow.holds Try.pinned (OpenSpec.ofChange fnExactRingsOfWrong)

/-- 'laws.FnExactArcOf': WHATEVER THE INPUT: true; the input reads as it did. -/
def fnExactArcOfSpec : ChangeSpec := { name := "fnExactArcOf", fn := fun _ => fun
  | [d] => { results := [.lit (.bool true)], args := [d] }
  | _ => none }
def fnExactArcOfRow : OpenClaim := { program := "ytledlfncpjoepaa", sum := "9f7e8a60204b4ccaf3a4a9b78f16b09c207df2b7f3858afb8069a2a4a77ece1c", func := "loop.example/g01055/laws.FnExactArcOf", spec := "fnExactArcOf", recurses := true, apart := false }
def FnExactArcOfSaid : Prop := fnExactArcOfRow.holds Try.pinned (OpenSpec.ofChange fnExactArcOfSpec)

/-- ITS FALSE NEIGHBOUR: 'it returns false'. Refute it at one input. -/
def fnExactArcOfWrong : ChangeSpec := { name := "fnExactArcOf", fn := fun _ => fun
  | [d] => { results := [.lit (.bool false)], args := [d] }
  | _ => none }
def FnExactArcOfWrongFalsely : Prop := fnExactArcOfRow.holds Try.pinned (OpenSpec.ofChange fnExactArcOfWrong)

/-- 'laws.FnExactFewestGores': WHATEVER THE INPUT: true; the input reads as it did. -/
def fnExactFewestGoresSpec : ChangeSpec := { name := "fnExactFewestGores", fn := fun _ => fun
  | [d1, d2] => { results := [.lit (.bool true)], args := [d1, d2] }
  | _ => none }
def fnExactFewestGoresRow : OpenClaim := { program := "ytledlfncpjoepaa", sum := "9f7e8a60204b4ccaf3a4a9b78f16b09c207df2b7f3858afb8069a2a4a77ece1c", func := "loop.example/g01055/laws.FnExactFewestGores", spec := "fnExactFewestGores", recurses := true, apart := false }
def FnExactFewestGoresSaid : Prop := fnExactFewestGoresRow.holds Try.pinned (OpenSpec.ofChange fnExactFewestGoresSpec)

/-- ITS FALSE NEIGHBOUR: 'it returns false'. Refute it at one input. -/
def fnExactFewestGoresWrong : ChangeSpec := { name := "fnExactFewestGores", fn := fun _ => fun
  | [d1, d2] => { results := [.lit (.bool false)], args := [d1, d2] }
  | _ => none }
def FnExactFewestGoresWrongFalsely : Prop := fnExactFewestGoresRow.holds Try.pinned (OpenSpec.ofChange fnExactFewestGoresWrong)

/-- 'laws.FnAngles': WHATEVER THE INPUT: true; the input reads as it did. -/
def fnAnglesSpec : ChangeSpec := { name := "fnAngles", fn := fun _ => fun
  | [d1, d2] => { results := [.lit (.bool true)], args := [d1, d2] }
  | _ => none }
def fnAnglesRow : OpenClaim := { program := "ytledlfncpjoepaa", sum := "9f7e8a60204b4ccaf3a4a9b78f16b09c207df2b7f3858afb8069a2a4a77ece1c", func := "loop.example/g01055/laws.FnAngles", spec := "fnAngles", apart := false }
def FnAnglesSaid : Prop := fnAnglesRow.holds Try.pinned (OpenSpec.ofChange fnAnglesSpec)

/-- ITS FALSE NEIGHBOUR: 'it returns false'. Refute it at one input. -/
def fnAnglesWrong : ChangeSpec := { name := "fnAngles", fn := fun _ => fun
  | [d1, d2] => { results := [.lit (.bool false)], args := [d1, d2] }
  | _ => none }
def FnAnglesWrongFalsely : Prop := fnAnglesRow.holds Try.pinned (OpenSpec.ofChange fnAnglesWrong)

/-- 'laws.FnExactGoreWidth': WHATEVER THE INPUT: true; the input reads as it did. -/
def fnExactGoreWidthSpec : ChangeSpec := { name := "fnExactGoreWidth", fn := fun _ => fun
  | [d1, d2, d3] => { results := [.lit (.bool true)], args := [d1, d2, d3] }
  | _ => none }
def fnExactGoreWidthRow : OpenClaim := { program := "ytledlfncpjoepaa", sum := "9f7e8a60204b4ccaf3a4a9b78f16b09c207df2b7f3858afb8069a2a4a77ece1c", func := "loop.example/g01055/laws.FnExactGoreWidth", spec := "fnExactGoreWidth", recurses := true, apart := false }
def FnExactGoreWidthSaid : Prop := fnExactGoreWidthRow.holds Try.pinned (OpenSpec.ofChange fnExactGoreWidthSpec)

/-- ITS FALSE NEIGHBOUR: 'it returns false'. Refute it at one input. -/
def fnExactGoreWidthWrong : ChangeSpec := { name := "fnExactGoreWidth", fn := fun _ => fun
  | [d1, d2, d3] => { results := [.lit (.bool false)], args := [d1, d2, d3] }
  | _ => none }
def FnExactGoreWidthWrongFalsely : Prop := fnExactGoreWidthRow.holds Try.pinned (OpenSpec.ofChange fnExactGoreWidthWrong)

/-- 'laws.FnExactRingOf': WHATEVER THE INPUT: true; the input reads as it did. -/
def fnExactRingOfSpec : ChangeSpec := { name := "fnExactRingOf", fn := fun _ => fun
  | [d1, d2, d3, d4] => { results := [.lit (.bool true)], args := [d1, d2, d3, d4] }
  | _ => none }
def fnExactRingOfRow : OpenClaim := { program := "ytledlfncpjoepaa", sum := "9f7e8a60204b4ccaf3a4a9b78f16b09c207df2b7f3858afb8069a2a4a77ece1c", func := "loop.example/g01055/laws.FnExactRingOf", spec := "fnExactRingOf", apart := false }
def FnExactRingOfSaid : Prop := fnExactRingOfRow.holds Try.pinned (OpenSpec.ofChange fnExactRingOfSpec)

/-- ITS FALSE NEIGHBOUR: 'it returns false'. Refute it at one input. -/
def fnExactRingOfWrong : ChangeSpec := { name := "fnExactRingOf", fn := fun _ => fun
  | [d1, d2, d3, d4] => { results := [.lit (.bool false)], args := [d1, d2, d3, d4] }
  | _ => none }
def FnExactRingOfWrongFalsely : Prop := fnExactRingOfRow.holds Try.pinned (OpenSpec.ofChange fnExactRingOfWrong)

/-- 'laws.FnExactCosDistance': WHATEVER THE INPUT: true; the input reads as it did. -/
def fnExactCosDistanceSpec : ChangeSpec := { name := "fnExactCosDistance", fn := fun _ => fun
  | [d1, d2] => { results := [.lit (.bool true)], args := [d1, d2] }
  | _ => none }
def fnExactCosDistanceRow : OpenClaim := { program := "ytledlfncpjoepaa", sum := "9f7e8a60204b4ccaf3a4a9b78f16b09c207df2b7f3858afb8069a2a4a77ece1c", func := "loop.example/g01055/laws.FnExactCosDistance", spec := "fnExactCosDistance", recurses := true, apart := false }
def FnExactCosDistanceSaid : Prop := fnExactCosDistanceRow.holds Try.pinned (OpenSpec.ofChange fnExactCosDistanceSpec)

/-- ITS FALSE NEIGHBOUR: 'it returns false'. Refute it at one input. -/
def fnExactCosDistanceWrong : ChangeSpec := { name := "fnExactCosDistance", fn := fun _ => fun
  | [d1, d2] => { results := [.lit (.bool false)], args := [d1, d2] }
  | _ => none }
def FnExactCosDistanceWrongFalsely : Prop := fnExactCosDistanceRow.holds Try.pinned (OpenSpec.ofChange fnExactCosDistanceWrong)

/-- 'laws.FnExactWorstStep': WHATEVER THE INPUT: true; the input reads as it did. -/
def fnExactWorstStepSpec : ChangeSpec := { name := "fnExactWorstStep", fn := fun _ => fun
  | [d1, d2] => { results := [.lit (.bool true)], args := [d1, d2] }
  | _ => none }
def fnExactWorstStepRow : OpenClaim := { program := "ytledlfncpjoepaa", sum := "9f7e8a60204b4ccaf3a4a9b78f16b09c207df2b7f3858afb8069a2a4a77ece1c", func := "loop.example/g01055/laws.FnExactWorstStep", spec := "fnExactWorstStep", recurses := true, apart := false }
def FnExactWorstStepSaid : Prop := fnExactWorstStepRow.holds Try.pinned (OpenSpec.ofChange fnExactWorstStepSpec)

/-- ITS FALSE NEIGHBOUR: 'it returns false'. Refute it at one input. -/
def fnExactWorstStepWrong : ChangeSpec := { name := "fnExactWorstStep", fn := fun _ => fun
  | [d1, d2] => { results := [.lit (.bool false)], args := [d1, d2] }
  | _ => none }
def FnExactWorstStepWrongFalsely : Prop := fnExactWorstStepRow.holds Try.pinned (OpenSpec.ofChange fnExactWorstStepWrong)

/-- 'laws.FnExactSineTable': WHATEVER THE INPUT: true; the input reads as it did. -/
def fnExactSineTableSpec : ChangeSpec := { name := "fnExactSineTable", fn := fun _ => fun
  | [d1, d2] => { results := [.lit (.bool true)], args := [d1, d2] }
  | _ => none }
def fnExactSineTableRow : OpenClaim := { program := "ytledlfncpjoepaa", sum := "9f7e8a60204b4ccaf3a4a9b78f16b09c207df2b7f3858afb8069a2a4a77ece1c", func := "loop.example/g01055/laws.FnExactSineTable", spec := "fnExactSineTable", recurses := true, apart := false }
def FnExactSineTableSaid : Prop := fnExactSineTableRow.holds Try.pinned (OpenSpec.ofChange fnExactSineTableSpec)

/-- ITS FALSE NEIGHBOUR: 'it returns false'. Refute it at one input. -/
def fnExactSineTableWrong : ChangeSpec := { name := "fnExactSineTable", fn := fun _ => fun
  | [d1, d2] => { results := [.lit (.bool false)], args := [d1, d2] }
  | _ => none }
def FnExactSineTableWrongFalsely : Prop := fnExactSineTableRow.holds Try.pinned (OpenSpec.ofChange fnExactSineTableWrong)

/-- 'laws.FnExactClosingAt': WHATEVER THE INPUT: true; the input reads as it did. -/
def fnExactClosingAtSpec : ChangeSpec := { name := "fnExactClosingAt", fn := fun _ => fun
  | [d1, d2, d3] => { results := [.lit (.bool true)], args := [d1, d2, d3] }
  | _ => none }
def fnExactClosingAtRow : OpenClaim := { program := "ytledlfncpjoepaa", sum := "9f7e8a60204b4ccaf3a4a9b78f16b09c207df2b7f3858afb8069a2a4a77ece1c", func := "loop.example/g01055/laws.FnExactClosingAt", spec := "fnExactClosingAt", recurses := true, apart := false }
def FnExactClosingAtSaid : Prop := fnExactClosingAtRow.holds Try.pinned (OpenSpec.ofChange fnExactClosingAtSpec)

/-- ITS FALSE NEIGHBOUR: 'it returns false'. Refute it at one input. -/
def fnExactClosingAtWrong : ChangeSpec := { name := "fnExactClosingAt", fn := fun _ => fun
  | [d1, d2, d3] => { results := [.lit (.bool false)], args := [d1, d2, d3] }
  | _ => none }
def FnExactClosingAtWrongFalsely : Prop := fnExactClosingAtRow.holds Try.pinned (OpenSpec.ofChange fnExactClosingAtWrong)

/-- 'laws.FnExactSlitsFor': WHATEVER THE INPUT: true; the input reads as it did. -/
def fnExactSlitsForSpec : ChangeSpec := { name := "fnExactSlitsFor", fn := fun _ => fun
  | [d1, d2, d3] => { results := [.lit (.bool true)], args := [d1, d2, d3] }
  | _ => none }
def fnExactSlitsForRow : OpenClaim := { program := "ytledlfncpjoepaa", sum := "9f7e8a60204b4ccaf3a4a9b78f16b09c207df2b7f3858afb8069a2a4a77ece1c", func := "loop.example/g01055/laws.FnExactSlitsFor", spec := "fnExactSlitsFor", recurses := true, apart := false }
def FnExactSlitsForSaid : Prop := fnExactSlitsForRow.holds Try.pinned (OpenSpec.ofChange fnExactSlitsForSpec)

/-- ITS FALSE NEIGHBOUR: 'it returns false'. Refute it at one input. -/
def fnExactSlitsForWrong : ChangeSpec := { name := "fnExactSlitsFor", fn := fun _ => fun
  | [d1, d2, d3] => { results := [.lit (.bool false)], args := [d1, d2, d3] }
  | _ => none }
def FnExactSlitsForWrongFalsely : Prop := fnExactSlitsForRow.holds Try.pinned (OpenSpec.ofChange fnExactSlitsForWrong)

/- THE SECOND FORM. 'bulk': how many values and letters a reading holds, each counted each time it is reached (what is shared counts as often as it is met; a slice's spare places count too). A statement '..UptoSaid' is the law's where the arguments, and the package variables that the reading takes, are together of bulk at most 1048576: NARROWER than '..Said'. Prove '..Said' where nothing that the law and all that it calls make is longer than what came in: it says more and counts as full. Else prove '..UptoSaid'. A law counts once. -/
mutual
def uptoBulk {H : Type} : DataW H → Nat
  | .lit (.string bytes) => bytes.length + 1
  | .lit _ => 1
  | .nil => 1
  | .ptr d => uptoBulk d + 1
  | .slice elems spare => uptoBulkAll elems + uptoBulkAll spare + 1
  | .agg parts => uptoBulkAll parts + 1
  | .iface _ d => uptoBulk d + 1
  | .map entries => uptoBulkEntries entries + 1
  | .held _ => 1
def uptoBulkAll {H : Type} : List (DataW H) → Nat
  | [] => 0
  | d :: r => uptoBulk d + uptoBulkAll r
def uptoBulkEntries {H : Type} : List (Lit × DataW H) → Nat
  | [] => 0
  | x :: r => uptoBulkEntry x + uptoBulkEntries r
def uptoBulkEntry {H : Type} : Lit × DataW H → Nat
  | (.string bytes, d) => bytes.length + uptoBulk d + 1
  | (_, d) => uptoBulk d + 1
 end
def uptoSmall : (H : Type) → List (DataW H) → Bool := fun _ ds => decide (uptoBulkAll ds ≤ 1048576)
def OpenSpec.upto (s : _root_.Go.ChangeSpec) : _root_.Go.OpenSpec := { _root_.Go.OpenSpec.ofChange s with cond := some uptoSmall }

/-- 'laws.FnExactTangentOf', WHERE WHAT IT READS IS OF BULK AT MOST 1048576: true; the input reads as it did. -/
def fnExactTangentOfUptoRow : OpenClaim := { program := "ytledlfncpjoepaa", sum := "9f7e8a60204b4ccaf3a4a9b78f16b09c207df2b7f3858afb8069a2a4a77ece1c", func := "loop.example/g01055/laws.FnExactTangentOf", spec := "fnExactTangentOf", recurses := true, apart := false, narrowed := true }
def FnExactTangentOfUptoSaid : Prop := fnExactTangentOfUptoRow.holds Try.pinned (OpenSpec.upto fnExactTangentOfSpec)

/-- 'laws.FnExactRingsOf', WHERE WHAT IT READS IS OF BULK AT MOST 1048576: true; the input reads as it did. -/
def fnExactRingsOfUptoRow : OpenClaim := { program := "ytledlfncpjoepaa", sum := "9f7e8a60204b4ccaf3a4a9b78f16b09c207df2b7f3858afb8069a2a4a77ece1c", func := "loop.example/g01055/laws.FnExactRingsOf", spec := "fnExactRingsOf", apart := false, narrowed := true }
def FnExactRingsOfUptoSaid : Prop := fnExactRingsOfUptoRow.holds Try.pinned (OpenSpec.upto fnExactRingsOfSpec)

/-- 'laws.FnExactArcOf', WHERE WHAT IT READS IS OF BULK AT MOST 1048576: true; the input reads as it did. -/
def fnExactArcOfUptoRow : OpenClaim := { program := "ytledlfncpjoepaa", sum := "9f7e8a60204b4ccaf3a4a9b78f16b09c207df2b7f3858afb8069a2a4a77ece1c", func := "loop.example/g01055/laws.FnExactArcOf", spec := "fnExactArcOf", recurses := true, apart := false, narrowed := true }
def FnExactArcOfUptoSaid : Prop := fnExactArcOfUptoRow.holds Try.pinned (OpenSpec.upto fnExactArcOfSpec)

/-- 'laws.FnExactFewestGores', WHERE WHAT IT READS IS OF BULK AT MOST 1048576: true; the input reads as it did. -/
def fnExactFewestGoresUptoRow : OpenClaim := { program := "ytledlfncpjoepaa", sum := "9f7e8a60204b4ccaf3a4a9b78f16b09c207df2b7f3858afb8069a2a4a77ece1c", func := "loop.example/g01055/laws.FnExactFewestGores", spec := "fnExactFewestGores", recurses := true, apart := false, narrowed := true }
def FnExactFewestGoresUptoSaid : Prop := fnExactFewestGoresUptoRow.holds Try.pinned (OpenSpec.upto fnExactFewestGoresSpec)

/-- 'laws.FnAngles', WHERE WHAT IT READS IS OF BULK AT MOST 1048576: true; the input reads as it did. -/
def fnAnglesUptoRow : OpenClaim := { program := "ytledlfncpjoepaa", sum := "9f7e8a60204b4ccaf3a4a9b78f16b09c207df2b7f3858afb8069a2a4a77ece1c", func := "loop.example/g01055/laws.FnAngles", spec := "fnAngles", apart := false, narrowed := true }
def FnAnglesUptoSaid : Prop := fnAnglesUptoRow.holds Try.pinned (OpenSpec.upto fnAnglesSpec)

/-- 'laws.FnExactGoreWidth', WHERE WHAT IT READS IS OF BULK AT MOST 1048576: true; the input reads as it did. -/
def fnExactGoreWidthUptoRow : OpenClaim := { program := "ytledlfncpjoepaa", sum := "9f7e8a60204b4ccaf3a4a9b78f16b09c207df2b7f3858afb8069a2a4a77ece1c", func := "loop.example/g01055/laws.FnExactGoreWidth", spec := "fnExactGoreWidth", recurses := true, apart := false, narrowed := true }
def FnExactGoreWidthUptoSaid : Prop := fnExactGoreWidthUptoRow.holds Try.pinned (OpenSpec.upto fnExactGoreWidthSpec)

/-- 'laws.FnExactRingOf', WHERE WHAT IT READS IS OF BULK AT MOST 1048576: true; the input reads as it did. -/
def fnExactRingOfUptoRow : OpenClaim := { program := "ytledlfncpjoepaa", sum := "9f7e8a60204b4ccaf3a4a9b78f16b09c207df2b7f3858afb8069a2a4a77ece1c", func := "loop.example/g01055/laws.FnExactRingOf", spec := "fnExactRingOf", apart := false, narrowed := true }
def FnExactRingOfUptoSaid : Prop := fnExactRingOfUptoRow.holds Try.pinned (OpenSpec.upto fnExactRingOfSpec)

/-- 'laws.FnExactCosDistance', WHERE WHAT IT READS IS OF BULK AT MOST 1048576: true; the input reads as it did. -/
def fnExactCosDistanceUptoRow : OpenClaim := { program := "ytledlfncpjoepaa", sum := "9f7e8a60204b4ccaf3a4a9b78f16b09c207df2b7f3858afb8069a2a4a77ece1c", func := "loop.example/g01055/laws.FnExactCosDistance", spec := "fnExactCosDistance", recurses := true, apart := false, narrowed := true }
def FnExactCosDistanceUptoSaid : Prop := fnExactCosDistanceUptoRow.holds Try.pinned (OpenSpec.upto fnExactCosDistanceSpec)

/-- 'laws.FnExactWorstStep', WHERE WHAT IT READS IS OF BULK AT MOST 1048576: true; the input reads as it did. -/
def fnExactWorstStepUptoRow : OpenClaim := { program := "ytledlfncpjoepaa", sum := "9f7e8a60204b4ccaf3a4a9b78f16b09c207df2b7f3858afb8069a2a4a77ece1c", func := "loop.example/g01055/laws.FnExactWorstStep", spec := "fnExactWorstStep", recurses := true, apart := false, narrowed := true }
def FnExactWorstStepUptoSaid : Prop := fnExactWorstStepUptoRow.holds Try.pinned (OpenSpec.upto fnExactWorstStepSpec)

/-- 'laws.FnExactSineTable', WHERE WHAT IT READS IS OF BULK AT MOST 1048576: true; the input reads as it did. -/
def fnExactSineTableUptoRow : OpenClaim := { program := "ytledlfncpjoepaa", sum := "9f7e8a60204b4ccaf3a4a9b78f16b09c207df2b7f3858afb8069a2a4a77ece1c", func := "loop.example/g01055/laws.FnExactSineTable", spec := "fnExactSineTable", recurses := true, apart := false, narrowed := true }
def FnExactSineTableUptoSaid : Prop := fnExactSineTableUptoRow.holds Try.pinned (OpenSpec.upto fnExactSineTableSpec)

/-- 'laws.FnExactClosingAt', WHERE WHAT IT READS IS OF BULK AT MOST 1048576: true; the input reads as it did. -/
def fnExactClosingAtUptoRow : OpenClaim := { program := "ytledlfncpjoepaa", sum := "9f7e8a60204b4ccaf3a4a9b78f16b09c207df2b7f3858afb8069a2a4a77ece1c", func := "loop.example/g01055/laws.FnExactClosingAt", spec := "fnExactClosingAt", recurses := true, apart := false, narrowed := true }
def FnExactClosingAtUptoSaid : Prop := fnExactClosingAtUptoRow.holds Try.pinned (OpenSpec.upto fnExactClosingAtSpec)

/-- 'laws.FnExactSlitsFor', WHERE WHAT IT READS IS OF BULK AT MOST 1048576: true; the input reads as it did. -/
def fnExactSlitsForUptoRow : OpenClaim := { program := "ytledlfncpjoepaa", sum := "9f7e8a60204b4ccaf3a4a9b78f16b09c207df2b7f3858afb8069a2a4a77ece1c", func := "loop.example/g01055/laws.FnExactSlitsFor", spec := "fnExactSlitsFor", recurses := true, apart := false, narrowed := true }
def FnExactSlitsForUptoSaid : Prop := fnExactSlitsForUptoRow.holds Try.pinned (OpenSpec.upto fnExactSlitsForSpec)

end Rows
end Go.Proofs.Ytledlfncpjoepaa
