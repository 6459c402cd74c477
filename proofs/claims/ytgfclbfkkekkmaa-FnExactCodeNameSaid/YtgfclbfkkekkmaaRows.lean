/-
  No cell of these rows narrows 'for every input' (looked for: loops, veiled, ifaces, maps, wideKeys, modest, calm, conditions, laid).
  DERIVED. THE GIVEN ROWS OF THIS SEAT. 12 by the template 'for every input the law returns true; each argument reads behind the call as it read before'; 0 by the template 'total and deterministic' (their statements: YtgfclbfkkekkmaaTotals.lean).
  GIVEN WITH THE SEED: the statements are not yours to turn. If you find one false, say at which input.
  Laid BY PROGRAM, IN A SANDBOX (cutbox-rows.mjs): the forced cells as the released guide's own fill.sh prints them over the translation 15123d0da5a54a64… (all of the seat's roots in one cut). By AI agents, Wed Nov 11 2026. No macro, syntax, notation, axiom, sorry.
-/
import Derived.Test.YtgfclbfkkekkmaaChecked
import GoSem.Claim
import GoSem.ClaimJoined
import GoSem.ClaimMapViews
import Derived.JoinedTies
import Derived.KernelRfl
namespace Go.Proofs.Ytgfclbfkkekkmaa
/- THE CELL 'sum', in the pinned program and in every row, IS THE sha256 OF THE DUMP (.gsa) THAT YtgfclbfkkekkmaaProg.lean LOADS. Nothing in Lean hashes anything: it is a label: what it is worth is what the hold of that sum in a sandbox is worth. -/
noncomputable def Try.pinned : Pinned := { name := "ytgfclbfkkekkmaa", sum := "15123d0da5a54a64d31a7b3d64c81f4eebc1b398ebc1357c282a83f13dcfb4b3", checked := Try.checked }
namespace Rows
def none {H : Type} : Left H := { results := [], args := [] }

/-- 'laws.FnExactConstants': WHATEVER THE INPUT: true; the input reads as it did. -/
def fnExactConstantsSpec : ChangeSpec := { name := "fnExactConstants", fn := fun _ => fun
  | [] => { results := [.lit (.bool true)], args := [] }
  | _ => none }
def fnExactConstantsRow : OpenClaim := { program := "ytgfclbfkkekkmaa", sum := "15123d0da5a54a64d31a7b3d64c81f4eebc1b398ebc1357c282a83f13dcfb4b3", func := "loop.example/g01055/laws.FnExactConstants", spec := "fnExactConstants", apart := false }
def FnExactConstantsSaid : Prop := fnExactConstantsRow.holds Try.pinned (OpenSpec.ofChange fnExactConstantsSpec)

/-- ITS FALSE NEIGHBOUR: 'it returns false'. Refute it at one input. -/
def fnExactConstantsWrong : ChangeSpec := { name := "fnExactConstants", fn := fun _ => fun
  | [] => { results := [.lit (.bool false)], args := [] }
  | _ => none }
def FnExactConstantsWrongFalsely : Prop := fnExactConstantsRow.holds Try.pinned (OpenSpec.ofChange fnExactConstantsWrong)

/-- 'laws.FnExactValidGores': WHATEVER THE INPUT: true; the input reads as it did. -/
def fnExactValidGoresSpec : ChangeSpec := { name := "fnExactValidGores", fn := fun _ => fun
  | [d] => { results := [.lit (.bool true)], args := [d] }
  | _ => none }
def fnExactValidGoresRow : OpenClaim := { program := "ytgfclbfkkekkmaa", sum := "15123d0da5a54a64d31a7b3d64c81f4eebc1b398ebc1357c282a83f13dcfb4b3", func := "loop.example/g01055/laws.FnExactValidGores", spec := "fnExactValidGores", apart := false }
def FnExactValidGoresSaid : Prop := fnExactValidGoresRow.holds Try.pinned (OpenSpec.ofChange fnExactValidGoresSpec)

/-- ITS FALSE NEIGHBOUR: 'it returns false'. Refute it at one input. -/
def fnExactValidGoresWrong : ChangeSpec := { name := "fnExactValidGores", fn := fun _ => fun
  | [d] => { results := [.lit (.bool false)], args := [d] }
  | _ => none }
def FnExactValidGoresWrongFalsely : Prop := fnExactValidGoresRow.holds Try.pinned (OpenSpec.ofChange fnExactValidGoresWrong)

/-- 'laws.FnExactValidSpot': WHATEVER THE INPUT: true; the input reads as it did. -/
def fnExactValidSpotSpec : ChangeSpec := { name := "fnExactValidSpot", fn := fun _ => fun
  | [d] => { results := [.lit (.bool true)], args := [d] }
  | _ => none }
def fnExactValidSpotRow : OpenClaim := { program := "ytgfclbfkkekkmaa", sum := "15123d0da5a54a64d31a7b3d64c81f4eebc1b398ebc1357c282a83f13dcfb4b3", func := "loop.example/g01055/laws.FnExactValidSpot", spec := "fnExactValidSpot", apart := false }
def FnExactValidSpotSaid : Prop := fnExactValidSpotRow.holds Try.pinned (OpenSpec.ofChange fnExactValidSpotSpec)

/-- ITS FALSE NEIGHBOUR: 'it returns false'. Refute it at one input. -/
def fnExactValidSpotWrong : ChangeSpec := { name := "fnExactValidSpot", fn := fun _ => fun
  | [d] => { results := [.lit (.bool false)], args := [d] }
  | _ => none }
def FnExactValidSpotWrongFalsely : Prop := fnExactValidSpotRow.holds Try.pinned (OpenSpec.ofChange fnExactValidSpotWrong)

/-- 'laws.FnExactCodeName': WHATEVER THE INPUT: true; the input reads as it did. -/
def fnExactCodeNameSpec : ChangeSpec := { name := "fnExactCodeName", fn := fun _ => fun
  | [d] => { results := [.lit (.bool true)], args := [d] }
  | _ => none }
def fnExactCodeNameRow : OpenClaim := { program := "ytgfclbfkkekkmaa", sum := "15123d0da5a54a64d31a7b3d64c81f4eebc1b398ebc1357c282a83f13dcfb4b3", func := "loop.example/g01055/laws.FnExactCodeName", spec := "fnExactCodeName", apart := false }
def FnExactCodeNameSaid : Prop := fnExactCodeNameRow.holds Try.pinned (OpenSpec.ofChange fnExactCodeNameSpec)

/-- ITS FALSE NEIGHBOUR: 'it returns false'. Refute it at one input. -/
def fnExactCodeNameWrong : ChangeSpec := { name := "fnExactCodeName", fn := fun _ => fun
  | [d] => { results := [.lit (.bool false)], args := [d] }
  | _ => none }
def FnExactCodeNameWrongFalsely : Prop := fnExactCodeNameRow.holds Try.pinned (OpenSpec.ofChange fnExactCodeNameWrong)

/-- 'laws.FnExactLonDifference': WHATEVER THE INPUT: true; the input reads as it did. -/
def fnExactLonDifferenceSpec : ChangeSpec := { name := "fnExactLonDifference", fn := fun _ => fun
  | [d1, d2] => { results := [.lit (.bool true)], args := [d1, d2] }
  | _ => none }
def fnExactLonDifferenceRow : OpenClaim := { program := "ytgfclbfkkekkmaa", sum := "15123d0da5a54a64d31a7b3d64c81f4eebc1b398ebc1357c282a83f13dcfb4b3", func := "loop.example/g01055/laws.FnExactLonDifference", spec := "fnExactLonDifference", apart := false }
def FnExactLonDifferenceSaid : Prop := fnExactLonDifferenceRow.holds Try.pinned (OpenSpec.ofChange fnExactLonDifferenceSpec)

/-- ITS FALSE NEIGHBOUR: 'it returns false'. Refute it at one input. -/
def fnExactLonDifferenceWrong : ChangeSpec := { name := "fnExactLonDifference", fn := fun _ => fun
  | [d1, d2] => { results := [.lit (.bool false)], args := [d1, d2] }
  | _ => none }
def FnExactLonDifferenceWrongFalsely : Prop := fnExactLonDifferenceRow.holds Try.pinned (OpenSpec.ofChange fnExactLonDifferenceWrong)

/-- 'laws.FnExactWrapLon': WHATEVER THE INPUT: true; the input reads as it did. -/
def fnExactWrapLonSpec : ChangeSpec := { name := "fnExactWrapLon", fn := fun _ => fun
  | [d] => { results := [.lit (.bool true)], args := [d] }
  | _ => none }
def fnExactWrapLonRow : OpenClaim := { program := "ytgfclbfkkekkmaa", sum := "15123d0da5a54a64d31a7b3d64c81f4eebc1b398ebc1357c282a83f13dcfb4b3", func := "loop.example/g01055/laws.FnExactWrapLon", spec := "fnExactWrapLon", apart := false }
def FnExactWrapLonSaid : Prop := fnExactWrapLonRow.holds Try.pinned (OpenSpec.ofChange fnExactWrapLonSpec)

/-- ITS FALSE NEIGHBOUR: 'it returns false'. Refute it at one input. -/
def fnExactWrapLonWrong : ChangeSpec := { name := "fnExactWrapLon", fn := fun _ => fun
  | [d] => { results := [.lit (.bool false)], args := [d] }
  | _ => none }
def FnExactWrapLonWrongFalsely : Prop := fnExactWrapLonRow.holds Try.pinned (OpenSpec.ofChange fnExactWrapLonWrong)

/-- 'laws.FnExactGoreSpan': WHATEVER THE INPUT: true; the input reads as it did. -/
def fnExactGoreSpanSpec : ChangeSpec := { name := "fnExactGoreSpan", fn := fun _ => fun
  | [d] => { results := [.lit (.bool true)], args := [d] }
  | _ => none }
def fnExactGoreSpanRow : OpenClaim := { program := "ytgfclbfkkekkmaa", sum := "15123d0da5a54a64d31a7b3d64c81f4eebc1b398ebc1357c282a83f13dcfb4b3", func := "loop.example/g01055/laws.FnExactGoreSpan", spec := "fnExactGoreSpan", apart := false }
def FnExactGoreSpanSaid : Prop := fnExactGoreSpanRow.holds Try.pinned (OpenSpec.ofChange fnExactGoreSpanSpec)

/-- ITS FALSE NEIGHBOUR: 'it returns false'. Refute it at one input. -/
def fnExactGoreSpanWrong : ChangeSpec := { name := "fnExactGoreSpan", fn := fun _ => fun
  | [d] => { results := [.lit (.bool false)], args := [d] }
  | _ => none }
def FnExactGoreSpanWrongFalsely : Prop := fnExactGoreSpanRow.holds Try.pinned (OpenSpec.ofChange fnExactGoreSpanWrong)

/-- 'laws.FnDistances': WHATEVER THE INPUT: true; the input reads as it did. -/
def fnDistancesSpec : ChangeSpec := { name := "fnDistances", fn := fun _ => fun
  | [d1, d2] => { results := [.lit (.bool true)], args := [d1, d2] }
  | _ => none }
def fnDistancesRow : OpenClaim := { program := "ytgfclbfkkekkmaa", sum := "15123d0da5a54a64d31a7b3d64c81f4eebc1b398ebc1357c282a83f13dcfb4b3", func := "loop.example/g01055/laws.FnDistances", spec := "fnDistances", recurses := true, apart := false }
def FnDistancesSaid : Prop := fnDistancesRow.holds Try.pinned (OpenSpec.ofChange fnDistancesSpec)

/-- ITS FALSE NEIGHBOUR: 'it returns false'. Refute it at one input. -/
def fnDistancesWrong : ChangeSpec := { name := "fnDistances", fn := fun _ => fun
  | [d1, d2] => { results := [.lit (.bool false)], args := [d1, d2] }
  | _ => none }
def FnDistancesWrongFalsely : Prop := fnDistancesRow.holds Try.pinned (OpenSpec.ofChange fnDistancesWrong)

/-- 'laws.FnExactArcLength': WHATEVER THE INPUT: true; the input reads as it did. -/
def fnExactArcLengthSpec : ChangeSpec := { name := "fnExactArcLength", fn := fun _ => fun
  | [d1, d2] => { results := [.lit (.bool true)], args := [d1, d2] }
  | _ => none }
def fnExactArcLengthRow : OpenClaim := { program := "ytgfclbfkkekkmaa", sum := "15123d0da5a54a64d31a7b3d64c81f4eebc1b398ebc1357c282a83f13dcfb4b3", func := "loop.example/g01055/laws.FnExactArcLength", spec := "fnExactArcLength", apart := false }
def FnExactArcLengthSaid : Prop := fnExactArcLengthRow.holds Try.pinned (OpenSpec.ofChange fnExactArcLengthSpec)

/-- ITS FALSE NEIGHBOUR: 'it returns false'. Refute it at one input. -/
def fnExactArcLengthWrong : ChangeSpec := { name := "fnExactArcLength", fn := fun _ => fun
  | [d1, d2] => { results := [.lit (.bool false)], args := [d1, d2] }
  | _ => none }
def FnExactArcLengthWrongFalsely : Prop := fnExactArcLengthRow.holds Try.pinned (OpenSpec.ofChange fnExactArcLengthWrong)

/-- 'laws.FnExactCapEdge': WHATEVER THE INPUT: true; the input reads as it did. -/
def fnExactCapEdgeSpec : ChangeSpec := { name := "fnExactCapEdge", fn := fun _ => fun
  | [d1, d2] => { results := [.lit (.bool true)], args := [d1, d2] }
  | _ => none }
def fnExactCapEdgeRow : OpenClaim := { program := "ytgfclbfkkekkmaa", sum := "15123d0da5a54a64d31a7b3d64c81f4eebc1b398ebc1357c282a83f13dcfb4b3", func := "loop.example/g01055/laws.FnExactCapEdge", spec := "fnExactCapEdge", apart := false }
def FnExactCapEdgeSaid : Prop := fnExactCapEdgeRow.holds Try.pinned (OpenSpec.ofChange fnExactCapEdgeSpec)

/-- ITS FALSE NEIGHBOUR: 'it returns false'. Refute it at one input. -/
def fnExactCapEdgeWrong : ChangeSpec := { name := "fnExactCapEdge", fn := fun _ => fun
  | [d1, d2] => { results := [.lit (.bool false)], args := [d1, d2] }
  | _ => none }
def FnExactCapEdgeWrongFalsely : Prop := fnExactCapEdgeRow.holds Try.pinned (OpenSpec.ofChange fnExactCapEdgeWrong)

/-- 'laws.FnExactGoreMiddle': WHATEVER THE INPUT: true; the input reads as it did. -/
def fnExactGoreMiddleSpec : ChangeSpec := { name := "fnExactGoreMiddle", fn := fun _ => fun
  | [d1, d2] => { results := [.lit (.bool true)], args := [d1, d2] }
  | _ => none }
def fnExactGoreMiddleRow : OpenClaim := { program := "ytgfclbfkkekkmaa", sum := "15123d0da5a54a64d31a7b3d64c81f4eebc1b398ebc1357c282a83f13dcfb4b3", func := "loop.example/g01055/laws.FnExactGoreMiddle", spec := "fnExactGoreMiddle", apart := false }
def FnExactGoreMiddleSaid : Prop := fnExactGoreMiddleRow.holds Try.pinned (OpenSpec.ofChange fnExactGoreMiddleSpec)

/-- ITS FALSE NEIGHBOUR: 'it returns false'. Refute it at one input. -/
def fnExactGoreMiddleWrong : ChangeSpec := { name := "fnExactGoreMiddle", fn := fun _ => fun
  | [d1, d2] => { results := [.lit (.bool false)], args := [d1, d2] }
  | _ => none }
def FnExactGoreMiddleWrongFalsely : Prop := fnExactGoreMiddleRow.holds Try.pinned (OpenSpec.ofChange fnExactGoreMiddleWrong)

/-- 'laws.FnExactCapRadius': WHATEVER THE INPUT: true; the input reads as it did. -/
def fnExactCapRadiusSpec : ChangeSpec := { name := "fnExactCapRadius", fn := fun _ => fun
  | [d1, d2] => { results := [.lit (.bool true)], args := [d1, d2] }
  | _ => none }
def fnExactCapRadiusRow : OpenClaim := { program := "ytgfclbfkkekkmaa", sum := "15123d0da5a54a64d31a7b3d64c81f4eebc1b398ebc1357c282a83f13dcfb4b3", func := "loop.example/g01055/laws.FnExactCapRadius", spec := "fnExactCapRadius", apart := false }
def FnExactCapRadiusSaid : Prop := fnExactCapRadiusRow.holds Try.pinned (OpenSpec.ofChange fnExactCapRadiusSpec)

/-- ITS FALSE NEIGHBOUR: 'it returns false'. Refute it at one input. -/
def fnExactCapRadiusWrong : ChangeSpec := { name := "fnExactCapRadius", fn := fun _ => fun
  | [d1, d2] => { results := [.lit (.bool false)], args := [d1, d2] }
  | _ => none }
def FnExactCapRadiusWrongFalsely : Prop := fnExactCapRadiusRow.holds Try.pinned (OpenSpec.ofChange fnExactCapRadiusWrong)

/- THE SECOND FORM. 'bulk': how many values and letters a reading holds, each counted each time it is reached (what is shared counts as often as it is met; a slice's spare places count too). A statement '..UptoSaid' is the law's where the arguments, and the package variables that the reading takes, are together of bulk at most 1048576: NARROWER than '..Said'. Prove '..Said' where nothing that the law and all that it calls make is longer than what came in: it says more and counts as full. Else prove '..UptoSaid'. A law counts once. -/
mutual
def uptoBulk {H : Type} : DataW H → Nat
  | .lit (.string bytes) => bytes.length + 1
  | .lit _ => 1
  | .nil => 1
  | .ptr d => uptoBulk d + 1
  | .slice elems spare => uptoBulkAll elems + uptoBulkAll spare + 1
  | .agg parts => uptoBulkAll parts + 1
  | .iface _ d => uptoBulk d + 1
  | .map entries => uptoBulkEntries entries + 1
  | .held _ => 1
def uptoBulkAll {H : Type} : List (DataW H) → Nat
  | [] => 0
  | d :: r => uptoBulk d + uptoBulkAll r
def uptoBulkEntries {H : Type} : List (Lit × DataW H) → Nat
  | [] => 0
  | x :: r => uptoBulkEntry x + uptoBulkEntries r
def uptoBulkEntry {H : Type} : Lit × DataW H → Nat
  | (.string bytes, d) => bytes.length + uptoBulk d + 1
  | (_, d) => uptoBulk d + 1
 end
def uptoSmall : (H : Type) → List (DataW H) → Bool := fun _ ds => decide (uptoBulkAll ds ≤ 1048576)
def OpenSpec.upto (s : _root_.Go.ChangeSpec) : _root_.Go.OpenSpec := { _root_.Go.OpenSpec.ofChange s with cond := some uptoSmall }

/-- 'laws.FnExactConstants', WHERE WHAT IT READS IS OF BULK AT MOST 1048576: true; the input reads as it did. -/
def fnExactConstantsUptoRow : OpenClaim := { program := "ytgfclbfkkekkmaa", sum := "15123d0da5a54a64d31a7b3d64c81f4eebc1b398ebc1357c282a83f13dcfb4b3", func := "loop.example/g01055/laws.FnExactConstants", spec := "fnExactConstants", apart := false, narrowed := true }
def FnExactConstantsUptoSaid : Prop := fnExactConstantsUptoRow.holds Try.pinned (OpenSpec.upto fnExactConstantsSpec)

/-- 'laws.FnExactValidGores', WHERE WHAT IT READS IS OF BULK AT MOST 1048576: true; the input reads as it did. -/
def fnExactValidGoresUptoRow : OpenClaim := { program := "ytgfclbfkkekkmaa", sum := "15123d0da5a54a64d31a7b3d64c81f4eebc1b398ebc1357c282a83f13dcfb4b3", func := "loop.example/g01055/laws.FnExactValidGores", spec := "fnExactValidGores", apart := false, narrowed := true }
def FnExactValidGoresUptoSaid : Prop := fnExactValidGoresUptoRow.holds Try.pinned (OpenSpec.upto fnExactValidGoresSpec)

/-- 'laws.FnExactValidSpot', WHERE WHAT IT READS IS OF BULK AT MOST 1048576: true; the input reads as it did. -/
def fnExactValidSpotUptoRow : OpenClaim := { program := "ytgfclbfkkekkmaa", sum := "15123d0da5a54a64d31a7b3d64c81f4eebc1b398ebc1357c282a83f13dcfb4b3", func := "loop.example/g01055/laws.FnExactValidSpot", spec := "fnExactValidSpot", apart := false, narrowed := true }
def FnExactValidSpotUptoSaid : Prop := fnExactValidSpotUptoRow.holds Try.pinned (OpenSpec.upto fnExactValidSpotSpec)

/-- 'laws.FnExactCodeName', WHERE WHAT IT READS IS OF BULK AT MOST 1048576: true; the input reads as it did. -/
def fnExactCodeNameUptoRow : OpenClaim := { program := "ytgfclbfkkekkmaa", sum := "15123d0da5a54a64d31a7b3d64c81f4eebc1b398ebc1357c282a83f13dcfb4b3", func := "loop.example/g01055/laws.FnExactCodeName", spec := "fnExactCodeName", apart := false, narrowed := true }
def FnExactCodeNameUptoSaid : Prop := fnExactCodeNameUptoRow.holds Try.pinned (OpenSpec.upto fnExactCodeNameSpec)

/-- 'laws.FnExactLonDifference', WHERE WHAT IT READS IS OF BULK AT MOST 1048576: true; the input reads as it did. -/
def fnExactLonDifferenceUptoRow : OpenClaim := { program := "ytgfclbfkkekkmaa", sum := "15123d0da5a54a64d31a7b3d64c81f4eebc1b398ebc1357c282a83f13dcfb4b3", func := "loop.example/g01055/laws.FnExactLonDifference", spec := "fnExactLonDifference", apart := false, narrowed := true }
def FnExactLonDifferenceUptoSaid : Prop := fnExactLonDifferenceUptoRow.holds Try.pinned (OpenSpec.upto fnExactLonDifferenceSpec)

/-- 'laws.FnExactWrapLon', WHERE WHAT IT READS IS OF BULK AT MOST 1048576: true; the input reads as it did. -/
def fnExactWrapLonUptoRow : OpenClaim := { program := "ytgfclbfkkekkmaa", sum := "15123d0da5a54a64d31a7b3d64c81f4eebc1b398ebc1357c282a83f13dcfb4b3", func := "loop.example/g01055/laws.FnExactWrapLon", spec := "fnExactWrapLon", apart := false, narrowed := true }
def FnExactWrapLonUptoSaid : Prop := fnExactWrapLonUptoRow.holds Try.pinned (OpenSpec.upto fnExactWrapLonSpec)

/-- 'laws.FnExactGoreSpan', WHERE WHAT IT READS IS OF BULK AT MOST 1048576: true; the input reads as it did. -/
def fnExactGoreSpanUptoRow : OpenClaim := { program := "ytgfclbfkkekkmaa", sum := "15123d0da5a54a64d31a7b3d64c81f4eebc1b398ebc1357c282a83f13dcfb4b3", func := "loop.example/g01055/laws.FnExactGoreSpan", spec := "fnExactGoreSpan", apart := false, narrowed := true }
def FnExactGoreSpanUptoSaid : Prop := fnExactGoreSpanUptoRow.holds Try.pinned (OpenSpec.upto fnExactGoreSpanSpec)

/-- 'laws.FnDistances', WHERE WHAT IT READS IS OF BULK AT MOST 1048576: true; the input reads as it did. -/
def fnDistancesUptoRow : OpenClaim := { program := "ytgfclbfkkekkmaa", sum := "15123d0da5a54a64d31a7b3d64c81f4eebc1b398ebc1357c282a83f13dcfb4b3", func := "loop.example/g01055/laws.FnDistances", spec := "fnDistances", recurses := true, apart := false, narrowed := true }
def FnDistancesUptoSaid : Prop := fnDistancesUptoRow.holds Try.pinned (OpenSpec.upto fnDistancesSpec)

/-- 'laws.FnExactArcLength', WHERE WHAT IT READS IS OF BULK AT MOST 1048576: true; the input reads as it did. -/
def fnExactArcLengthUptoRow : OpenClaim := { program := "ytgfclbfkkekkmaa", sum := "15123d0da5a54a64d31a7b3d64c81f4eebc1b398ebc1357c282a83f13dcfb4b3", func := "loop.example/g01055/laws.FnExactArcLength", spec := "fnExactArcLength", apart := false, narrowed := true }
def FnExactArcLengthUptoSaid : Prop := fnExactArcLengthUptoRow.holds Try.pinned (OpenSpec.upto fnExactArcLengthSpec)

/-- 'laws.FnExactCapEdge', WHERE WHAT IT READS IS OF BULK AT MOST 1048576: true; the input reads as it did. -/
def fnExactCapEdgeUptoRow : OpenClaim := { program := "ytgfclbfkkekkmaa", sum := "15123d0da5a54a64d31a7b3d64c81f4eebc1b398ebc1357c282a83f13dcfb4b3", func := "loop.example/g01055/laws.FnExactCapEdge", spec := "fnExactCapEdge", apart := false, narrowed := true }
def FnExactCapEdgeUptoSaid : Prop := fnExactCapEdgeUptoRow.holds Try.pinned (OpenSpec.upto fnExactCapEdgeSpec)

/-- 'laws.FnExactGoreMiddle', WHERE WHAT IT READS IS OF BULK AT MOST 1048576: true; the input reads as it did. -/
def fnExactGoreMiddleUptoRow : OpenClaim := { program := "ytgfclbfkkekkmaa", sum := "15123d0da5a54a64d31a7b3d64c81f4eebc1b398ebc1357c282a83f13dcfb4b3", func := "loop.example/g01055/laws.FnExactGoreMiddle", spec := "fnExactGoreMiddle", apart := false, narrowed := true }
def FnExactGoreMiddleUptoSaid : Prop := fnExactGoreMiddleUptoRow.holds Try.pinned (OpenSpec.upto fnExactGoreMiddleSpec)

/-- 'laws.FnExactCapRadius', WHERE WHAT IT READS IS OF BULK AT MOST 1048576: true; the input reads as it did. -/
def fnExactCapRadiusUptoRow : OpenClaim := { program := "ytgfclbfkkekkmaa", sum := "15123d0da5a54a64d31a7b3d64c81f4eebc1b398ebc1357c282a83f13dcfb4b3", func := "loop.example/g01055/laws.FnExactCapRadius", spec := "fnExactCapRadius", apart := false, narrowed := true }
def FnExactCapRadiusUptoSaid : Prop := fnExactCapRadiusUptoRow.holds Try.pinned (OpenSpec.upto fnExactCapRadiusSpec)

end Rows
end Go.Proofs.Ytgfclbfkkekkmaa
