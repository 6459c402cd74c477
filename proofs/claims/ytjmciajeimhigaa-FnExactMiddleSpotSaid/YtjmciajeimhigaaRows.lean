/-
  No cell of these rows narrows 'for every input' (looked for: loops, veiled, ifaces, maps, wideKeys, modest, calm, conditions, laid).
  DERIVED. THE GIVEN ROWS OF THIS SEAT. 12 by the template 'for every input the law returns true; each argument reads behind the call as it read before'; 0 by the template 'total and deterministic' (their statements: YtjmciajeimhigaaTotals.lean).
  GIVEN WITH THE SEED: the statements are not yours to turn. If you find one false, say at which input.
  Laid BY PROGRAM, IN A SANDBOX (cutbox-rows.mjs): the forced cells as the released guide's own fill.sh prints them over the translation 3d2504a1c1b4248e… (all of the seat's roots in one cut). By AI agents, Wed Nov 11 2026. No macro, syntax, notation, axiom, sorry.
-/
import Derived.Test.YtjmciajeimhigaaChecked
import GoSem.Claim
import GoSem.ClaimJoined
import GoSem.ClaimMapViews
import Derived.JoinedTies
import Derived.KernelRfl
namespace Go.Proofs.Ytjmciajeimhigaa
/- THE CELL 'sum', in the pinned program and in every row, IS THE sha256 OF THE DUMP (.gsa) THAT YtjmciajeimhigaaProg.lean LOADS. Nothing in Lean hashes anything: it is a label: what it is worth is what the hold of that sum in a sandbox is worth. -/
noncomputable def Try.pinned : Pinned := { name := "ytjmciajeimhigaa", sum := "3d2504a1c1b4248e4e26b66a1444116186f80abfc4b5fe8bcb3519da72a32302", checked := Try.checked }
namespace Rows
def none {H : Type} : Left H := { results := [], args := [] }

/-- 'laws.FnExactRingsOf': WHATEVER THE INPUT: true; the input reads as it did. -/
def fnExactRingsOfSpec : ChangeSpec := { name := "fnExactRingsOf", fn := fun _ => fun
  | [d1, d2] => { results := [.lit (.bool true)], args := [d1, d2] }
  | _ => none }
def fnExactRingsOfRow : OpenClaim := { program := "ytjmciajeimhigaa", sum := "3d2504a1c1b4248e4e26b66a1444116186f80abfc4b5fe8bcb3519da72a32302", func := "loop.example/g01055/laws.FnExactRingsOf", spec := "fnExactRingsOf", apart := false }
def FnExactRingsOfSaid : Prop := fnExactRingsOfRow.holds Try.pinned (OpenSpec.ofChange fnExactRingsOfSpec)

/-- ITS FALSE NEIGHBOUR: 'it returns false'. Refute it at one input. -/
def fnExactRingsOfWrong : ChangeSpec := { name := "fnExactRingsOf", fn := fun _ => fun
  | [d1, d2] => { results := [.lit (.bool false)], args := [d1, d2] }
  | _ => none }
def FnExactRingsOfWrongFalsely : Prop := fnExactRingsOfRow.holds Try.pinned (OpenSpec.ofChange fnExactRingsOfWrong)

/-- 'laws.FnSineTables': WHATEVER THE INPUT: true; the input reads as it did. -/
def fnSineTablesSpec : ChangeSpec := { name := "fnSineTables", fn := fun _ => fun
  | [d1, d2] => { results := [.lit (.bool true)], args := [d1, d2] }
  | _ => none }
def fnSineTablesRow : OpenClaim := { program := "ytjmciajeimhigaa", sum := "3d2504a1c1b4248e4e26b66a1444116186f80abfc4b5fe8bcb3519da72a32302", func := "loop.example/g01055/laws.FnSineTables", spec := "fnSineTables", recurses := true, apart := false }
def FnSineTablesSaid : Prop := fnSineTablesRow.holds Try.pinned (OpenSpec.ofChange fnSineTablesSpec)

/-- ITS FALSE NEIGHBOUR: 'it returns false'. Refute it at one input. -/
def fnSineTablesWrong : ChangeSpec := { name := "fnSineTables", fn := fun _ => fun
  | [d1, d2] => { results := [.lit (.bool false)], args := [d1, d2] }
  | _ => none }
def FnSineTablesWrongFalsely : Prop := fnSineTablesRow.holds Try.pinned (OpenSpec.ofChange fnSineTablesWrong)

/-- 'laws.FnExactGoreWidths': WHATEVER THE INPUT: true; the input reads as it did. -/
def fnExactGoreWidthsSpec : ChangeSpec := { name := "fnExactGoreWidths", fn := fun _ => fun
  | [d1, d2, d3] => { results := [.lit (.bool true)], args := [d1, d2, d3] }
  | _ => none }
def fnExactGoreWidthsRow : OpenClaim := { program := "ytjmciajeimhigaa", sum := "3d2504a1c1b4248e4e26b66a1444116186f80abfc4b5fe8bcb3519da72a32302", func := "loop.example/g01055/laws.FnExactGoreWidths", spec := "fnExactGoreWidths", recurses := true, apart := false }
def FnExactGoreWidthsSaid : Prop := fnExactGoreWidthsRow.holds Try.pinned (OpenSpec.ofChange fnExactGoreWidthsSpec)

/-- ITS FALSE NEIGHBOUR: 'it returns false'. Refute it at one input. -/
def fnExactGoreWidthsWrong : ChangeSpec := { name := "fnExactGoreWidths", fn := fun _ => fun
  | [d1, d2, d3] => { results := [.lit (.bool false)], args := [d1, d2, d3] }
  | _ => none }
def FnExactGoreWidthsWrongFalsely : Prop := fnExactGoreWidthsRow.holds Try.pinned (OpenSpec.ofChange fnExactGoreWidthsWrong)

/-- 'laws.FnExactWorstClosing': WHATEVER THE INPUT: true; the input reads as it did. -/
def fnExactWorstClosingSpec : ChangeSpec := { name := "fnExactWorstClosing", fn := fun _ => fun
  | [d1, d2, d3] => { results := [.lit (.bool true)], args := [d1, d2, d3] }
  | _ => none }
def fnExactWorstClosingRow : OpenClaim := { program := "ytjmciajeimhigaa", sum := "3d2504a1c1b4248e4e26b66a1444116186f80abfc4b5fe8bcb3519da72a32302", func := "loop.example/g01055/laws.FnExactWorstClosing", spec := "fnExactWorstClosing", recurses := true, apart := false }
def FnExactWorstClosingSaid : Prop := fnExactWorstClosingRow.holds Try.pinned (OpenSpec.ofChange fnExactWorstClosingSpec)

/-- ITS FALSE NEIGHBOUR: 'it returns false'. Refute it at one input. -/
def fnExactWorstClosingWrong : ChangeSpec := { name := "fnExactWorstClosing", fn := fun _ => fun
  | [d1, d2, d3] => { results := [.lit (.bool false)], args := [d1, d2, d3] }
  | _ => none }
def FnExactWorstClosingWrongFalsely : Prop := fnExactWorstClosingRow.holds Try.pinned (OpenSpec.ofChange fnExactWorstClosingWrong)

/-- 'laws.FnExactSheetsForGores': WHATEVER THE INPUT: true; the input reads as it did. -/
def fnExactSheetsForGoresSpec : ChangeSpec := { name := "fnExactSheetsForGores", fn := fun _ => fun
  | [d1, d2, d3] => { results := [.lit (.bool true)], args := [d1, d2, d3] }
  | _ => none }
def fnExactSheetsForGoresRow : OpenClaim := { program := "ytjmciajeimhigaa", sum := "3d2504a1c1b4248e4e26b66a1444116186f80abfc4b5fe8bcb3519da72a32302", func := "loop.example/g01055/laws.FnExactSheetsForGores", spec := "fnExactSheetsForGores", recurses := true, apart := false }
def FnExactSheetsForGoresSaid : Prop := fnExactSheetsForGoresRow.holds Try.pinned (OpenSpec.ofChange fnExactSheetsForGoresSpec)

/-- ITS FALSE NEIGHBOUR: 'it returns false'. Refute it at one input. -/
def fnExactSheetsForGoresWrong : ChangeSpec := { name := "fnExactSheetsForGores", fn := fun _ => fun
  | [d1, d2, d3] => { results := [.lit (.bool false)], args := [d1, d2, d3] }
  | _ => none }
def FnExactSheetsForGoresWrongFalsely : Prop := fnExactSheetsForGoresRow.holds Try.pinned (OpenSpec.ofChange fnExactSheetsForGoresWrong)

/-- 'laws.FnExactUnderCap': WHATEVER THE INPUT: true; the input reads as it did. -/
def fnExactUnderCapSpec : ChangeSpec := { name := "fnExactUnderCap", fn := fun _ => fun
  | [d1, d2, d3] => { results := [.lit (.bool true)], args := [d1, d2, d3] }
  | _ => none }
def fnExactUnderCapRow : OpenClaim := { program := "ytjmciajeimhigaa", sum := "3d2504a1c1b4248e4e26b66a1444116186f80abfc4b5fe8bcb3519da72a32302", func := "loop.example/g01055/laws.FnExactUnderCap", spec := "fnExactUnderCap", unfollowed := true, recurses := true, apart := false }
def FnExactUnderCapSaid : Prop := fnExactUnderCapRow.holds Try.pinned (OpenSpec.ofChange fnExactUnderCapSpec)

/-- ITS FALSE NEIGHBOUR: 'it returns false'. Refute it at one input. -/
def fnExactUnderCapWrong : ChangeSpec := { name := "fnExactUnderCap", fn := fun _ => fun
  | [d1, d2, d3] => { results := [.lit (.bool false)], args := [d1, d2, d3] }
  | _ => none }
def FnExactUnderCapWrongFalsely : Prop := fnExactUnderCapRow.holds Try.pinned (OpenSpec.ofChange fnExactUnderCapWrong)

/-- 'laws.FnExactDistanceOf': WHATEVER THE INPUT: true; the input reads as it did. -/
def fnExactDistanceOfSpec : ChangeSpec := { name := "fnExactDistanceOf", fn := fun _ => fun
  | [d1, d2] => { results := [.lit (.bool true)], args := [d1, d2] }
  | _ => none }
def fnExactDistanceOfRow : OpenClaim := { program := "ytjmciajeimhigaa", sum := "3d2504a1c1b4248e4e26b66a1444116186f80abfc4b5fe8bcb3519da72a32302", func := "loop.example/g01055/laws.FnExactDistanceOf", spec := "fnExactDistanceOf", recurses := true, apart := false }
def FnExactDistanceOfSaid : Prop := fnExactDistanceOfRow.holds Try.pinned (OpenSpec.ofChange fnExactDistanceOfSpec)

/-- ITS FALSE NEIGHBOUR: 'it returns false'. Refute it at one input. -/
def fnExactDistanceOfWrong : ChangeSpec := { name := "fnExactDistanceOf", fn := fun _ => fun
  | [d1, d2] => { results := [.lit (.bool false)], args := [d1, d2] }
  | _ => none }
def FnExactDistanceOfWrongFalsely : Prop := fnExactDistanceOfRow.holds Try.pinned (OpenSpec.ofChange fnExactDistanceOfWrong)

/-- 'laws.FnExactSpotsWithin': WHATEVER THE INPUT: true; the input reads as it did. -/
def fnExactSpotsWithinSpec : ChangeSpec := { name := "fnExactSpotsWithin", fn := fun _ => fun
  | [d1, d2, d3] => { results := [.lit (.bool true)], args := [d1, d2, d3] }
  | _ => none }
def fnExactSpotsWithinRow : OpenClaim := { program := "ytjmciajeimhigaa", sum := "3d2504a1c1b4248e4e26b66a1444116186f80abfc4b5fe8bcb3519da72a32302", func := "loop.example/g01055/laws.FnExactSpotsWithin", spec := "fnExactSpotsWithin", unfollowed := true, recurses := true, apart := false }
def FnExactSpotsWithinSaid : Prop := fnExactSpotsWithinRow.holds Try.pinned (OpenSpec.ofChange fnExactSpotsWithinSpec)

/-- ITS FALSE NEIGHBOUR: 'it returns false'. Refute it at one input. -/
def fnExactSpotsWithinWrong : ChangeSpec := { name := "fnExactSpotsWithin", fn := fun _ => fun
  | [d1, d2, d3] => { results := [.lit (.bool false)], args := [d1, d2, d3] }
  | _ => none }
def FnExactSpotsWithinWrongFalsely : Prop := fnExactSpotsWithinRow.holds Try.pinned (OpenSpec.ofChange fnExactSpotsWithinWrong)

/-- 'laws.FnExactRouteLength': WHATEVER THE INPUT: true; the input reads as it did. -/
def fnExactRouteLengthSpec : ChangeSpec := { name := "fnExactRouteLength", fn := fun _ => fun
  | [d] => { results := [.lit (.bool true)], args := [d] }
  | _ => none }
def fnExactRouteLengthRow : OpenClaim := { program := "ytjmciajeimhigaa", sum := "3d2504a1c1b4248e4e26b66a1444116186f80abfc4b5fe8bcb3519da72a32302", func := "loop.example/g01055/laws.FnExactRouteLength", spec := "fnExactRouteLength", unfollowed := true, recurses := true, apart := false }
def FnExactRouteLengthSaid : Prop := fnExactRouteLengthRow.holds Try.pinned (OpenSpec.ofChange fnExactRouteLengthSpec)

/-- ITS FALSE NEIGHBOUR: 'it returns false'. Refute it at one input. -/
def fnExactRouteLengthWrong : ChangeSpec := { name := "fnExactRouteLength", fn := fun _ => fun
  | [d] => { results := [.lit (.bool false)], args := [d] }
  | _ => none }
def FnExactRouteLengthWrongFalsely : Prop := fnExactRouteLengthRow.holds Try.pinned (OpenSpec.ofChange fnExactRouteLengthWrong)

/-- 'laws.FnExactFarthestPair': WHATEVER THE INPUT: true; the input reads as it did. -/
def fnExactFarthestPairSpec : ChangeSpec := { name := "fnExactFarthestPair", fn := fun _ => fun
  | [d] => { results := [.lit (.bool true)], args := [d] }
  | _ => none }
def fnExactFarthestPairRow : OpenClaim := { program := "ytjmciajeimhigaa", sum := "3d2504a1c1b4248e4e26b66a1444116186f80abfc4b5fe8bcb3519da72a32302", func := "loop.example/g01055/laws.FnExactFarthestPair", spec := "fnExactFarthestPair", unfollowed := true, recurses := true, apart := false }
def FnExactFarthestPairSaid : Prop := fnExactFarthestPairRow.holds Try.pinned (OpenSpec.ofChange fnExactFarthestPairSpec)

/-- ITS FALSE NEIGHBOUR: 'it returns false'. Refute it at one input. -/
def fnExactFarthestPairWrong : ChangeSpec := { name := "fnExactFarthestPair", fn := fun _ => fun
  | [d] => { results := [.lit (.bool false)], args := [d] }
  | _ => none }
def FnExactFarthestPairWrongFalsely : Prop := fnExactFarthestPairRow.holds Try.pinned (OpenSpec.ofChange fnExactFarthestPairWrong)

/-- 'laws.FnExactNearestSpot': WHATEVER THE INPUT: true; the input reads as it did. -/
def fnExactNearestSpotSpec : ChangeSpec := { name := "fnExactNearestSpot", fn := fun _ => fun
  | [d1, d2] => { results := [.lit (.bool true)], args := [d1, d2] }
  | _ => none }
def fnExactNearestSpotRow : OpenClaim := { program := "ytjmciajeimhigaa", sum := "3d2504a1c1b4248e4e26b66a1444116186f80abfc4b5fe8bcb3519da72a32302", func := "loop.example/g01055/laws.FnExactNearestSpot", spec := "fnExactNearestSpot", unfollowed := true, recurses := true, apart := false }
def FnExactNearestSpotSaid : Prop := fnExactNearestSpotRow.holds Try.pinned (OpenSpec.ofChange fnExactNearestSpotSpec)

/-- ITS FALSE NEIGHBOUR: 'it returns false'. Refute it at one input. -/
def fnExactNearestSpotWrong : ChangeSpec := { name := "fnExactNearestSpot", fn := fun _ => fun
  | [d1, d2] => { results := [.lit (.bool false)], args := [d1, d2] }
  | _ => none }
def FnExactNearestSpotWrongFalsely : Prop := fnExactNearestSpotRow.holds Try.pinned (OpenSpec.ofChange fnExactNearestSpotWrong)

/-- 'laws.FnExactMiddleSpot': WHATEVER THE INPUT: true; the input reads as it did. -/
def fnExactMiddleSpotSpec : ChangeSpec := { name := "fnExactMiddleSpot", fn := fun _ => fun
  | [d] => { results := [.lit (.bool true)], args := [d] }
  | _ => none }
def fnExactMiddleSpotRow : OpenClaim := { program := "ytjmciajeimhigaa", sum := "3d2504a1c1b4248e4e26b66a1444116186f80abfc4b5fe8bcb3519da72a32302", func := "loop.example/g01055/laws.FnExactMiddleSpot", spec := "fnExactMiddleSpot", unfollowed := true, recurses := true, apart := false }
def FnExactMiddleSpotSaid : Prop := fnExactMiddleSpotRow.holds Try.pinned (OpenSpec.ofChange fnExactMiddleSpotSpec)

/-- ITS FALSE NEIGHBOUR: 'it returns false'. Refute it at one input. -/
def fnExactMiddleSpotWrong : ChangeSpec := { name := "fnExactMiddleSpot", fn := fun _ => fun
  | [d] => { results := [.lit (.bool false)], args := [d] }
  | _ => none }
def FnExactMiddleSpotWrongFalsely : Prop := fnExactMiddleSpotRow.holds Try.pinned (OpenSpec.ofChange fnExactMiddleSpotWrong)

/- THE SECOND FORM. 'bulk': how many values and letters a reading holds, each counted each time it is reached (what is shared counts as often as it is met; a slice's spare places count too). A statement '..UptoSaid' is the law's where the arguments, and the package variables that the reading takes, are together of bulk at most 1048576: NARROWER than '..Said'. Prove '..Said' where nothing that the law and all that it calls make is longer than what came in: it says more and counts as full. Else prove '..UptoSaid'. A law counts once. -/
mutual
def uptoBulk {H : Type} : DataW H → Nat
  | .lit (.string bytes) => bytes.length + 1
  | .lit _ => 1
  | .nil => 1
  | .ptr d => uptoBulk d + 1
  | .slice elems spare => uptoBulkAll elems + uptoBulkAll spare + 1
  | .agg parts => uptoBulkAll parts + 1
  | .iface _ d => uptoBulk d + 1
  | .map entries => uptoBulkEntries entries + 1
  | .held _ => 1
def uptoBulkAll {H : Type} : List (DataW H) → Nat
  | [] => 0
  | d :: r => uptoBulk d + uptoBulkAll r
def uptoBulkEntries {H : Type} : List (Lit × DataW H) → Nat
  | [] => 0
  | x :: r => uptoBulkEntry x + uptoBulkEntries r
def uptoBulkEntry {H : Type} : Lit × DataW H → Nat
  | (.string bytes, d) => bytes.length + uptoBulk d + 1
  | (_, d) => uptoBulk d + 1
 end
def uptoSmall : (H : Type) → List (DataW H) → Bool := fun _ ds => decide (uptoBulkAll ds ≤ 1048576)
def OpenSpec.upto (s : _root_.Go.ChangeSpec) : _root_.Go.OpenSpec := { _root_.Go.OpenSpec.ofChange s with cond := some uptoSmall }

/-- 'laws.FnExactRingsOf', WHERE WHAT IT READS IS OF BULK AT MOST 1048576: true; the input reads as it did. -/
def fnExactRingsOfUptoRow : OpenClaim := { program := "ytjmciajeimhigaa", sum := "3d2504a1c1b4248e4e26b66a1444116186f80abfc4b5fe8bcb3519da72a32302", func := "loop.example/g01055/laws.FnExactRingsOf", spec := "fnExactRingsOf", apart := false, narrowed := true }
def FnExactRingsOfUptoSaid : Prop := fnExactRingsOfUptoRow.holds Try.pinned (OpenSpec.upto fnExactRingsOfSpec)

/-- 'laws.FnSineTables', WHERE WHAT IT READS IS OF BULK AT MOST 1048576: true; the input reads as it did. -/
def fnSineTablesUptoRow : OpenClaim := { program := "ytjmciajeimhigaa", sum := "3d2504a1c1b4248e4e26b66a1444116186f80abfc4b5fe8bcb3519da72a32302", func := "loop.example/g01055/laws.FnSineTables", spec := "fnSineTables", recurses := true, apart := false, narrowed := true }
def FnSineTablesUptoSaid : Prop := fnSineTablesUptoRow.holds Try.pinned (OpenSpec.upto fnSineTablesSpec)

/-- 'laws.FnExactGoreWidths', WHERE WHAT IT READS IS OF BULK AT MOST 1048576: true; the input reads as it did. -/
def fnExactGoreWidthsUptoRow : OpenClaim := { program := "ytjmciajeimhigaa", sum := "3d2504a1c1b4248e4e26b66a1444116186f80abfc4b5fe8bcb3519da72a32302", func := "loop.example/g01055/laws.FnExactGoreWidths", spec := "fnExactGoreWidths", recurses := true, apart := false, narrowed := true }
def FnExactGoreWidthsUptoSaid : Prop := fnExactGoreWidthsUptoRow.holds Try.pinned (OpenSpec.upto fnExactGoreWidthsSpec)

/-- 'laws.FnExactWorstClosing', WHERE WHAT IT READS IS OF BULK AT MOST 1048576: true; the input reads as it did. -/
def fnExactWorstClosingUptoRow : OpenClaim := { program := "ytjmciajeimhigaa", sum := "3d2504a1c1b4248e4e26b66a1444116186f80abfc4b5fe8bcb3519da72a32302", func := "loop.example/g01055/laws.FnExactWorstClosing", spec := "fnExactWorstClosing", recurses := true, apart := false, narrowed := true }
def FnExactWorstClosingUptoSaid : Prop := fnExactWorstClosingUptoRow.holds Try.pinned (OpenSpec.upto fnExactWorstClosingSpec)

/-- 'laws.FnExactSheetsForGores', WHERE WHAT IT READS IS OF BULK AT MOST 1048576: true; the input reads as it did. -/
def fnExactSheetsForGoresUptoRow : OpenClaim := { program := "ytjmciajeimhigaa", sum := "3d2504a1c1b4248e4e26b66a1444116186f80abfc4b5fe8bcb3519da72a32302", func := "loop.example/g01055/laws.FnExactSheetsForGores", spec := "fnExactSheetsForGores", recurses := true, apart := false, narrowed := true }
def FnExactSheetsForGoresUptoSaid : Prop := fnExactSheetsForGoresUptoRow.holds Try.pinned (OpenSpec.upto fnExactSheetsForGoresSpec)

/-- 'laws.FnExactUnderCap', WHERE WHAT IT READS IS OF BULK AT MOST 1048576: true; the input reads as it did. -/
def fnExactUnderCapUptoRow : OpenClaim := { program := "ytjmciajeimhigaa", sum := "3d2504a1c1b4248e4e26b66a1444116186f80abfc4b5fe8bcb3519da72a32302", func := "loop.example/g01055/laws.FnExactUnderCap", spec := "fnExactUnderCap", unfollowed := true, recurses := true, apart := false, narrowed := true }
def FnExactUnderCapUptoSaid : Prop := fnExactUnderCapUptoRow.holds Try.pinned (OpenSpec.upto fnExactUnderCapSpec)

/-- 'laws.FnExactDistanceOf', WHERE WHAT IT READS IS OF BULK AT MOST 1048576: true; the input reads as it did. -/
def fnExactDistanceOfUptoRow : OpenClaim := { program := "ytjmciajeimhigaa", sum := "3d2504a1c1b4248e4e26b66a1444116186f80abfc4b5fe8bcb3519da72a32302", func := "loop.example/g01055/laws.FnExactDistanceOf", spec := "fnExactDistanceOf", recurses := true, apart := false, narrowed := true }
def FnExactDistanceOfUptoSaid : Prop := fnExactDistanceOfUptoRow.holds Try.pinned (OpenSpec.upto fnExactDistanceOfSpec)

/-- 'laws.FnExactSpotsWithin', WHERE WHAT IT READS IS OF BULK AT MOST 1048576: true; the input reads as it did. -/
def fnExactSpotsWithinUptoRow : OpenClaim := { program := "ytjmciajeimhigaa", sum := "3d2504a1c1b4248e4e26b66a1444116186f80abfc4b5fe8bcb3519da72a32302", func := "loop.example/g01055/laws.FnExactSpotsWithin", spec := "fnExactSpotsWithin", unfollowed := true, recurses := true, apart := false, narrowed := true }
def FnExactSpotsWithinUptoSaid : Prop := fnExactSpotsWithinUptoRow.holds Try.pinned (OpenSpec.upto fnExactSpotsWithinSpec)

/-- 'laws.FnExactRouteLength', WHERE WHAT IT READS IS OF BULK AT MOST 1048576: true; the input reads as it did. -/
def fnExactRouteLengthUptoRow : OpenClaim := { program := "ytjmciajeimhigaa", sum := "3d2504a1c1b4248e4e26b66a1444116186f80abfc4b5fe8bcb3519da72a32302", func := "loop.example/g01055/laws.FnExactRouteLength", spec := "fnExactRouteLength", unfollowed := true, recurses := true, apart := false, narrowed := true }
def FnExactRouteLengthUptoSaid : Prop := fnExactRouteLengthUptoRow.holds Try.pinned (OpenSpec.upto fnExactRouteLengthSpec)

/-- 'laws.FnExactFarthestPair', WHERE WHAT IT READS IS OF BULK AT MOST 1048576: true; the input reads as it did. -/
def fnExactFarthestPairUptoRow : OpenClaim := { program := "ytjmciajeimhigaa", sum := "3d2504a1c1b4248e4e26b66a1444116186f80abfc4b5fe8bcb3519da72a32302", func := "loop.example/g01055/laws.FnExactFarthestPair", spec := "fnExactFarthestPair", unfollowed := true, recurses := true, apart := false, narrowed := true }
def FnExactFarthestPairUptoSaid : Prop := fnExactFarthestPairUptoRow.holds Try.pinned (OpenSpec.upto fnExactFarthestPairSpec)

/-- 'laws.FnExactNearestSpot', WHERE WHAT IT READS IS OF BULK AT MOST 1048576: true; the input reads as it did. -/
def fnExactNearestSpotUptoRow : OpenClaim := { program := "ytjmciajeimhigaa", sum := "3d2504a1c1b4248e4e26b66a1444116186f80abfc4b5fe8bcb3519da72a32302", func := "loop.example/g01055/laws.FnExactNearestSpot", spec := "fnExactNearestSpot", unfollowed := true, recurses := true, apart := false, narrowed := true }
def FnExactNearestSpotUptoSaid : Prop := fnExactNearestSpotUptoRow.holds Try.pinned (OpenSpec.upto fnExactNearestSpotSpec)

/-- 'laws.FnExactMiddleSpot', WHERE WHAT IT READS IS OF BULK AT MOST 1048576: true; the input reads as it did. -/
def fnExactMiddleSpotUptoRow : OpenClaim := { program := "ytjmciajeimhigaa", sum := "3d2504a1c1b4248e4e26b66a1444116186f80abfc4b5fe8bcb3519da72a32302", func := "loop.example/g01055/laws.FnExactMiddleSpot", spec := "fnExactMiddleSpot", unfollowed := true, recurses := true, apart := false, narrowed := true }
def FnExactMiddleSpotUptoSaid : Prop := fnExactMiddleSpotUptoRow.holds Try.pinned (OpenSpec.upto fnExactMiddleSpotSpec)

end Rows
end Go.Proofs.Ytjmciajeimhigaa
