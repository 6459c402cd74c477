/-
  No cell of these rows narrows 'for every input' (looked for: loops, veiled, ifaces, maps, wideKeys, modest, calm, conditions, laid).
  DERIVED. THE GIVEN ROWS OF THIS SEAT. 12 by the template 'for every input the law returns true; each argument reads behind the call as it read before'; 0 by the template 'total and deterministic' (their statements: YtckbhiphmdpjnaaTotals.lean).
  GIVEN WITH THE SEED: the statements are not yours to turn. If you find one false, say at which input.
  Laid BY PROGRAM, IN A SANDBOX (cutbox-rows.mjs): the forced cells as the released guide's own fill.sh prints them over the translation 16dba2bec8b27758… (all of the seat's roots in one cut). By AI agents, Wed Nov 11 2026. No macro, syntax, notation, axiom, sorry.
-/
import Derived.Test.YtckbhiphmdpjnaaChecked
import GoSem.Claim
import GoSem.ClaimJoined
import GoSem.ClaimMapViews
import Derived.JoinedTies
import Derived.KernelRfl
namespace Go.Proofs.Ytckbhiphmdpjnaa
/- THE CELL 'sum', in the pinned program and in every row, IS THE sha256 OF THE DUMP (.gsa) THAT YtckbhiphmdpjnaaProg.lean LOADS. Nothing in Lean hashes anything: it is a label: what it is worth is what the hold of that sum in a sandbox is worth. -/
noncomputable def Try.pinned : Pinned := { name := "ytckbhiphmdpjnaa", sum := "16dba2bec8b27758390bc94e28660bf6f07336c3216e3176305a319627fe225d", checked := Try.checked }
namespace Rows
def none {H : Type} : Left H := { results := [], args := [] }

/-- 'laws.FnExactGoreOf': WHATEVER THE INPUT: true; the input reads as it did. -/
def fnExactGoreOfSpec : ChangeSpec := { name := "fnExactGoreOf", fn := fun _ => fun
  | [d1, d2] => { results := [.lit (.bool true)], args := [d1, d2] }
  | _ => none }
def fnExactGoreOfRow : OpenClaim := { program := "ytckbhiphmdpjnaa", sum := "16dba2bec8b27758390bc94e28660bf6f07336c3216e3176305a319627fe225d", func := "loop.example/g01055/laws.FnExactGoreOf", spec := "fnExactGoreOf", apart := false }
def FnExactGoreOfSaid : Prop := fnExactGoreOfRow.holds Try.pinned (OpenSpec.ofChange fnExactGoreOfSpec)

/-- ITS FALSE NEIGHBOUR: 'it returns false'. Refute it at one input. -/
def fnExactGoreOfWrong : ChangeSpec := { name := "fnExactGoreOf", fn := fun _ => fun
  | [d1, d2] => { results := [.lit (.bool false)], args := [d1, d2] }
  | _ => none }
def FnExactGoreOfWrongFalsely : Prop := fnExactGoreOfRow.holds Try.pinned (OpenSpec.ofChange fnExactGoreOfWrong)

/-- 'laws.FnExactAntipode': WHATEVER THE INPUT: true; the input reads as it did. -/
def fnExactAntipodeSpec : ChangeSpec := { name := "fnExactAntipode", fn := fun _ => fun
  | [d] => { results := [.lit (.bool true)], args := [d] }
  | _ => none }
def fnExactAntipodeRow : OpenClaim := { program := "ytckbhiphmdpjnaa", sum := "16dba2bec8b27758390bc94e28660bf6f07336c3216e3176305a319627fe225d", func := "loop.example/g01055/laws.FnExactAntipode", spec := "fnExactAntipode", apart := false }
def FnExactAntipodeSaid : Prop := fnExactAntipodeRow.holds Try.pinned (OpenSpec.ofChange fnExactAntipodeSpec)

/-- ITS FALSE NEIGHBOUR: 'it returns false'. Refute it at one input. -/
def fnExactAntipodeWrong : ChangeSpec := { name := "fnExactAntipode", fn := fun _ => fun
  | [d] => { results := [.lit (.bool false)], args := [d] }
  | _ => none }
def FnExactAntipodeWrongFalsely : Prop := fnExactAntipodeRow.holds Try.pinned (OpenSpec.ofChange fnExactAntipodeWrong)

/-- 'laws.FnExactTurnSpot': WHATEVER THE INPUT: true; the input reads as it did. -/
def fnExactTurnSpotSpec : ChangeSpec := { name := "fnExactTurnSpot", fn := fun _ => fun
  | [d1, d2] => { results := [.lit (.bool true)], args := [d1, d2] }
  | _ => none }
def fnExactTurnSpotRow : OpenClaim := { program := "ytckbhiphmdpjnaa", sum := "16dba2bec8b27758390bc94e28660bf6f07336c3216e3176305a319627fe225d", func := "loop.example/g01055/laws.FnExactTurnSpot", spec := "fnExactTurnSpot", apart := false }
def FnExactTurnSpotSaid : Prop := fnExactTurnSpotRow.holds Try.pinned (OpenSpec.ofChange fnExactTurnSpotSpec)

/-- ITS FALSE NEIGHBOUR: 'it returns false'. Refute it at one input. -/
def fnExactTurnSpotWrong : ChangeSpec := { name := "fnExactTurnSpot", fn := fun _ => fun
  | [d1, d2] => { results := [.lit (.bool false)], args := [d1, d2] }
  | _ => none }
def FnExactTurnSpotWrongFalsely : Prop := fnExactTurnSpotRow.holds Try.pinned (OpenSpec.ofChange fnExactTurnSpotWrong)

/-- 'laws.FnSines': WHATEVER THE INPUT: true; the input reads as it did. -/
def fnSinesSpec : ChangeSpec := { name := "fnSines", fn := fun _ => fun
  | [d1, d2] => { results := [.lit (.bool true)], args := [d1, d2] }
  | _ => none }
def fnSinesRow : OpenClaim := { program := "ytckbhiphmdpjnaa", sum := "16dba2bec8b27758390bc94e28660bf6f07336c3216e3176305a319627fe225d", func := "loop.example/g01055/laws.FnSines", spec := "fnSines", recurses := true, apart := false }
def FnSinesSaid : Prop := fnSinesRow.holds Try.pinned (OpenSpec.ofChange fnSinesSpec)

/-- ITS FALSE NEIGHBOUR: 'it returns false'. Refute it at one input. -/
def fnSinesWrong : ChangeSpec := { name := "fnSines", fn := fun _ => fun
  | [d1, d2] => { results := [.lit (.bool false)], args := [d1, d2] }
  | _ => none }
def FnSinesWrongFalsely : Prop := fnSinesRow.holds Try.pinned (OpenSpec.ofChange fnSinesWrong)

/-- 'laws.FnExactSmallestCap': WHATEVER THE INPUT: true; the input reads as it did. -/
def fnExactSmallestCapSpec : ChangeSpec := { name := "fnExactSmallestCap", fn := fun _ => fun
  | [d1, d2, d3] => { results := [.lit (.bool true)], args := [d1, d2, d3] }
  | _ => none }
def fnExactSmallestCapRow : OpenClaim := { program := "ytckbhiphmdpjnaa", sum := "16dba2bec8b27758390bc94e28660bf6f07336c3216e3176305a319627fe225d", func := "loop.example/g01055/laws.FnExactSmallestCap", spec := "fnExactSmallestCap", apart := false }
def FnExactSmallestCapSaid : Prop := fnExactSmallestCapRow.holds Try.pinned (OpenSpec.ofChange fnExactSmallestCapSpec)

/-- ITS FALSE NEIGHBOUR: 'it returns false'. Refute it at one input. -/
def fnExactSmallestCapWrong : ChangeSpec := { name := "fnExactSmallestCap", fn := fun _ => fun
  | [d1, d2, d3] => { results := [.lit (.bool false)], args := [d1, d2, d3] }
  | _ => none }
def FnExactSmallestCapWrongFalsely : Prop := fnExactSmallestCapRow.holds Try.pinned (OpenSpec.ofChange fnExactSmallestCapWrong)

/-- 'laws.FnExactChordOf': WHATEVER THE INPUT: true; the input reads as it did. -/
def fnExactChordOfSpec : ChangeSpec := { name := "fnExactChordOf", fn := fun _ => fun
  | [d] => { results := [.lit (.bool true)], args := [d] }
  | _ => none }
def fnExactChordOfRow : OpenClaim := { program := "ytckbhiphmdpjnaa", sum := "16dba2bec8b27758390bc94e28660bf6f07336c3216e3176305a319627fe225d", func := "loop.example/g01055/laws.FnExactChordOf", spec := "fnExactChordOf", recurses := true, apart := false }
def FnExactChordOfSaid : Prop := fnExactChordOfRow.holds Try.pinned (OpenSpec.ofChange fnExactChordOfSpec)

/-- ITS FALSE NEIGHBOUR: 'it returns false'. Refute it at one input. -/
def fnExactChordOfWrong : ChangeSpec := { name := "fnExactChordOf", fn := fun _ => fun
  | [d] => { results := [.lit (.bool false)], args := [d] }
  | _ => none }
def FnExactChordOfWrongFalsely : Prop := fnExactChordOfRow.holds Try.pinned (OpenSpec.ofChange fnExactChordOfWrong)

/-- 'laws.FnExactSineOf': WHATEVER THE INPUT: true; the input reads as it did. -/
def fnExactSineOfSpec : ChangeSpec := { name := "fnExactSineOf", fn := fun _ => fun
  | [d] => { results := [.lit (.bool true)], args := [d] }
  | _ => none }
def fnExactSineOfRow : OpenClaim := { program := "ytckbhiphmdpjnaa", sum := "16dba2bec8b27758390bc94e28660bf6f07336c3216e3176305a319627fe225d", func := "loop.example/g01055/laws.FnExactSineOf", spec := "fnExactSineOf", recurses := true, apart := false }
def FnExactSineOfSaid : Prop := fnExactSineOfRow.holds Try.pinned (OpenSpec.ofChange fnExactSineOfSpec)

/-- ITS FALSE NEIGHBOUR: 'it returns false'. Refute it at one input. -/
def fnExactSineOfWrong : ChangeSpec := { name := "fnExactSineOf", fn := fun _ => fun
  | [d] => { results := [.lit (.bool false)], args := [d] }
  | _ => none }
def FnExactSineOfWrongFalsely : Prop := fnExactSineOfRow.holds Try.pinned (OpenSpec.ofChange fnExactSineOfWrong)

/-- 'laws.FnExactWidthAt': WHATEVER THE INPUT: true; the input reads as it did. -/
def fnExactWidthAtSpec : ChangeSpec := { name := "fnExactWidthAt", fn := fun _ => fun
  | [d1, d2] => { results := [.lit (.bool true)], args := [d1, d2] }
  | _ => none }
def fnExactWidthAtRow : OpenClaim := { program := "ytckbhiphmdpjnaa", sum := "16dba2bec8b27758390bc94e28660bf6f07336c3216e3176305a319627fe225d", func := "loop.example/g01055/laws.FnExactWidthAt", spec := "fnExactWidthAt", recurses := true, apart := false }
def FnExactWidthAtSaid : Prop := fnExactWidthAtRow.holds Try.pinned (OpenSpec.ofChange fnExactWidthAtSpec)

/-- ITS FALSE NEIGHBOUR: 'it returns false'. Refute it at one input. -/
def fnExactWidthAtWrong : ChangeSpec := { name := "fnExactWidthAt", fn := fun _ => fun
  | [d1, d2] => { results := [.lit (.bool false)], args := [d1, d2] }
  | _ => none }
def FnExactWidthAtWrongFalsely : Prop := fnExactWidthAtRow.holds Try.pinned (OpenSpec.ofChange fnExactWidthAtWrong)

/-- 'laws.FnExactCosineOf': WHATEVER THE INPUT: true; the input reads as it did. -/
def fnExactCosineOfSpec : ChangeSpec := { name := "fnExactCosineOf", fn := fun _ => fun
  | [d] => { results := [.lit (.bool true)], args := [d] }
  | _ => none }
def fnExactCosineOfRow : OpenClaim := { program := "ytckbhiphmdpjnaa", sum := "16dba2bec8b27758390bc94e28660bf6f07336c3216e3176305a319627fe225d", func := "loop.example/g01055/laws.FnExactCosineOf", spec := "fnExactCosineOf", recurses := true, apart := false }
def FnExactCosineOfSaid : Prop := fnExactCosineOfRow.holds Try.pinned (OpenSpec.ofChange fnExactCosineOfSpec)

/-- ITS FALSE NEIGHBOUR: 'it returns false'. Refute it at one input. -/
def fnExactCosineOfWrong : ChangeSpec := { name := "fnExactCosineOf", fn := fun _ => fun
  | [d] => { results := [.lit (.bool false)], args := [d] }
  | _ => none }
def FnExactCosineOfWrongFalsely : Prop := fnExactCosineOfRow.holds Try.pinned (OpenSpec.ofChange fnExactCosineOfWrong)

/-- 'laws.FnExactBetweenSine': WHATEVER THE INPUT: true; the input reads as it did. -/
def fnExactBetweenSineSpec : ChangeSpec := { name := "fnExactBetweenSine", fn := fun _ => fun
  | [d1, d2] => { results := [.lit (.bool true)], args := [d1, d2] }
  | _ => none }
def fnExactBetweenSineRow : OpenClaim := { program := "ytckbhiphmdpjnaa", sum := "16dba2bec8b27758390bc94e28660bf6f07336c3216e3176305a319627fe225d", func := "loop.example/g01055/laws.FnExactBetweenSine", spec := "fnExactBetweenSine", recurses := true, apart := false }
def FnExactBetweenSineSaid : Prop := fnExactBetweenSineRow.holds Try.pinned (OpenSpec.ofChange fnExactBetweenSineSpec)

/-- ITS FALSE NEIGHBOUR: 'it returns false'. Refute it at one input. -/
def fnExactBetweenSineWrong : ChangeSpec := { name := "fnExactBetweenSine", fn := fun _ => fun
  | [d1, d2] => { results := [.lit (.bool false)], args := [d1, d2] }
  | _ => none }
def FnExactBetweenSineWrongFalsely : Prop := fnExactBetweenSineRow.holds Try.pinned (OpenSpec.ofChange fnExactBetweenSineWrong)

/-- 'laws.FnExactCapOverlap': WHATEVER THE INPUT: true; the input reads as it did. -/
def fnExactCapOverlapSpec : ChangeSpec := { name := "fnExactCapOverlap", fn := fun _ => fun
  | [d1, d2, d3] => { results := [.lit (.bool true)], args := [d1, d2, d3] }
  | _ => none }
def fnExactCapOverlapRow : OpenClaim := { program := "ytckbhiphmdpjnaa", sum := "16dba2bec8b27758390bc94e28660bf6f07336c3216e3176305a319627fe225d", func := "loop.example/g01055/laws.FnExactCapOverlap", spec := "fnExactCapOverlap", apart := false }
def FnExactCapOverlapSaid : Prop := fnExactCapOverlapRow.holds Try.pinned (OpenSpec.ofChange fnExactCapOverlapSpec)

/-- ITS FALSE NEIGHBOUR: 'it returns false'. Refute it at one input. -/
def fnExactCapOverlapWrong : ChangeSpec := { name := "fnExactCapOverlap", fn := fun _ => fun
  | [d1, d2, d3] => { results := [.lit (.bool false)], args := [d1, d2, d3] }
  | _ => none }
def FnExactCapOverlapWrongFalsely : Prop := fnExactCapOverlapRow.holds Try.pinned (OpenSpec.ofChange fnExactCapOverlapWrong)

/-- 'laws.FnExactRimExcess': WHATEVER THE INPUT: true; the input reads as it did. -/
def fnExactRimExcessSpec : ChangeSpec := { name := "fnExactRimExcess", fn := fun _ => fun
  | [d1, d2] => { results := [.lit (.bool true)], args := [d1, d2] }
  | _ => none }
def fnExactRimExcessRow : OpenClaim := { program := "ytckbhiphmdpjnaa", sum := "16dba2bec8b27758390bc94e28660bf6f07336c3216e3176305a319627fe225d", func := "loop.example/g01055/laws.FnExactRimExcess", spec := "fnExactRimExcess", recurses := true, apart := false }
def FnExactRimExcessSaid : Prop := fnExactRimExcessRow.holds Try.pinned (OpenSpec.ofChange fnExactRimExcessSpec)

/-- ITS FALSE NEIGHBOUR: 'it returns false'. Refute it at one input. -/
def fnExactRimExcessWrong : ChangeSpec := { name := "fnExactRimExcess", fn := fun _ => fun
  | [d1, d2] => { results := [.lit (.bool false)], args := [d1, d2] }
  | _ => none }
def FnExactRimExcessWrongFalsely : Prop := fnExactRimExcessRow.holds Try.pinned (OpenSpec.ofChange fnExactRimExcessWrong)

/- THE SECOND FORM. 'bulk': how many values and letters a reading holds, each counted each time it is reached (what is shared counts as often as it is met; a slice's spare places count too). A statement '..UptoSaid' is the law's where the arguments, and the package variables that the reading takes, are together of bulk at most 1048576: NARROWER than '..Said'. Prove '..Said' where nothing that the law and all that it calls make is longer than what came in: it says more and counts as full. Else prove '..UptoSaid'. A law counts once. -/
mutual
def uptoBulk {H : Type} : DataW H → Nat
  | .lit (.string bytes) => bytes.length + 1
  | .lit _ => 1
  | .nil => 1
  | .ptr d => uptoBulk d + 1
  | .slice elems spare => uptoBulkAll elems + uptoBulkAll spare + 1
  | .agg parts => uptoBulkAll parts + 1
  | .iface _ d => uptoBulk d + 1
  | .map entries => uptoBulkEntries entries + 1
  | .held _ => 1
def uptoBulkAll {H : Type} : List (DataW H) → Nat
  | [] => 0
  | d :: r => uptoBulk d + uptoBulkAll r
def uptoBulkEntries {H : Type} : List (Lit × DataW H) → Nat
  | [] => 0
  | x :: r => uptoBulkEntry x + uptoBulkEntries r
def uptoBulkEntry {H : Type} : Lit × DataW H → Nat
  | (.string bytes, d) => bytes.length + uptoBulk d + 1
  | (_, d) => uptoBulk d + 1
 end
def uptoSmall : (H : Type) → List (DataW H) → Bool := fun _ ds => decide (uptoBulkAll ds ≤ 1048576)
def OpenSpec.upto (s : _root_.Go.ChangeSpec) : _root_.Go.OpenSpec := { _root_.Go.OpenSpec.ofChange s with cond := some uptoSmall }

/-- 'laws.FnExactGoreOf', WHERE WHAT IT READS IS OF BULK AT MOST 1048576: true; the input reads as it did. -/
def fnExactGoreOfUptoRow : OpenClaim := { program := "ytckbhiphmdpjnaa", sum := "16dba2bec8b27758390bc94e28660bf6f07336c3216e3176305a319627fe225d", func := "loop.example/g01055/laws.FnExactGoreOf", spec := "fnExactGoreOf", apart := false, narrowed := true }
def FnExactGoreOfUptoSaid : Prop := fnExactGoreOfUptoRow.holds Try.pinned (OpenSpec.upto fnExactGoreOfSpec)

/-- 'laws.FnExactAntipode', WHERE WHAT IT READS IS OF BULK AT MOST 1048576: true; the input reads as it did. -/
def fnExactAntipodeUptoRow : OpenClaim := { program := "ytckbhiphmdpjnaa", sum := "16dba2bec8b27758390bc94e28660bf6f07336c3216e3176305a319627fe225d", func := "loop.example/g01055/laws.FnExactAntipode", spec := "fnExactAntipode", apart := false, narrowed := true }
def FnExactAntipodeUptoSaid : Prop := fnExactAntipodeUptoRow.holds Try.pinned (OpenSpec.upto fnExactAntipodeSpec)

/-- 'laws.FnExactTurnSpot', WHERE WHAT IT READS IS OF BULK AT MOST 1048576: true; the input reads as it did. -/
def fnExactTurnSpotUptoRow : OpenClaim := { program := "ytckbhiphmdpjnaa", sum := "16dba2bec8b27758390bc94e28660bf6f07336c3216e3176305a319627fe225d", func := "loop.example/g01055/laws.FnExactTurnSpot", spec := "fnExactTurnSpot", apart := false, narrowed := true }
def FnExactTurnSpotUptoSaid : Prop := fnExactTurnSpotUptoRow.holds Try.pinned (OpenSpec.upto fnExactTurnSpotSpec)

/-- 'laws.FnSines', WHERE WHAT IT READS IS OF BULK AT MOST 1048576: true; the input reads as it did. -/
def fnSinesUptoRow : OpenClaim := { program := "ytckbhiphmdpjnaa", sum := "16dba2bec8b27758390bc94e28660bf6f07336c3216e3176305a319627fe225d", func := "loop.example/g01055/laws.FnSines", spec := "fnSines", recurses := true, apart := false, narrowed := true }
def FnSinesUptoSaid : Prop := fnSinesUptoRow.holds Try.pinned (OpenSpec.upto fnSinesSpec)

/-- 'laws.FnExactSmallestCap', WHERE WHAT IT READS IS OF BULK AT MOST 1048576: true; the input reads as it did. -/
def fnExactSmallestCapUptoRow : OpenClaim := { program := "ytckbhiphmdpjnaa", sum := "16dba2bec8b27758390bc94e28660bf6f07336c3216e3176305a319627fe225d", func := "loop.example/g01055/laws.FnExactSmallestCap", spec := "fnExactSmallestCap", apart := false, narrowed := true }
def FnExactSmallestCapUptoSaid : Prop := fnExactSmallestCapUptoRow.holds Try.pinned (OpenSpec.upto fnExactSmallestCapSpec)

/-- 'laws.FnExactChordOf', WHERE WHAT IT READS IS OF BULK AT MOST 1048576: true; the input reads as it did. -/
def fnExactChordOfUptoRow : OpenClaim := { program := "ytckbhiphmdpjnaa", sum := "16dba2bec8b27758390bc94e28660bf6f07336c3216e3176305a319627fe225d", func := "loop.example/g01055/laws.FnExactChordOf", spec := "fnExactChordOf", recurses := true, apart := false, narrowed := true }
def FnExactChordOfUptoSaid : Prop := fnExactChordOfUptoRow.holds Try.pinned (OpenSpec.upto fnExactChordOfSpec)

/-- 'laws.FnExactSineOf', WHERE WHAT IT READS IS OF BULK AT MOST 1048576: true; the input reads as it did. -/
def fnExactSineOfUptoRow : OpenClaim := { program := "ytckbhiphmdpjnaa", sum := "16dba2bec8b27758390bc94e28660bf6f07336c3216e3176305a319627fe225d", func := "loop.example/g01055/laws.FnExactSineOf", spec := "fnExactSineOf", recurses := true, apart := false, narrowed := true }
def FnExactSineOfUptoSaid : Prop := fnExactSineOfUptoRow.holds Try.pinned (OpenSpec.upto fnExactSineOfSpec)

/-- 'laws.FnExactWidthAt', WHERE WHAT IT READS IS OF BULK AT MOST 1048576: true; the input reads as it did. -/
def fnExactWidthAtUptoRow : OpenClaim := { program := "ytckbhiphmdpjnaa", sum := "16dba2bec8b27758390bc94e28660bf6f07336c3216e3176305a319627fe225d", func := "loop.example/g01055/laws.FnExactWidthAt", spec := "fnExactWidthAt", recurses := true, apart := false, narrowed := true }
def FnExactWidthAtUptoSaid : Prop := fnExactWidthAtUptoRow.holds Try.pinned (OpenSpec.upto fnExactWidthAtSpec)

/-- 'laws.FnExactCosineOf', WHERE WHAT IT READS IS OF BULK AT MOST 1048576: true; the input reads as it did. -/
def fnExactCosineOfUptoRow : OpenClaim := { program := "ytckbhiphmdpjnaa", sum := "16dba2bec8b27758390bc94e28660bf6f07336c3216e3176305a319627fe225d", func := "loop.example/g01055/laws.FnExactCosineOf", spec := "fnExactCosineOf", recurses := true, apart := false, narrowed := true }
def FnExactCosineOfUptoSaid : Prop := fnExactCosineOfUptoRow.holds Try.pinned (OpenSpec.upto fnExactCosineOfSpec)

/-- 'laws.FnExactBetweenSine', WHERE WHAT IT READS IS OF BULK AT MOST 1048576: true; the input reads as it did. -/
def fnExactBetweenSineUptoRow : OpenClaim := { program := "ytckbhiphmdpjnaa", sum := "16dba2bec8b27758390bc94e28660bf6f07336c3216e3176305a319627fe225d", func := "loop.example/g01055/laws.FnExactBetweenSine", spec := "fnExactBetweenSine", recurses := true, apart := false, narrowed := true }
def FnExactBetweenSineUptoSaid : Prop := fnExactBetweenSineUptoRow.holds Try.pinned (OpenSpec.upto fnExactBetweenSineSpec)

/-- 'laws.FnExactCapOverlap', WHERE WHAT IT READS IS OF BULK AT MOST 1048576: true; the input reads as it did. -/
def fnExactCapOverlapUptoRow : OpenClaim := { program := "ytckbhiphmdpjnaa", sum := "16dba2bec8b27758390bc94e28660bf6f07336c3216e3176305a319627fe225d", func := "loop.example/g01055/laws.FnExactCapOverlap", spec := "fnExactCapOverlap", apart := false, narrowed := true }
def FnExactCapOverlapUptoSaid : Prop := fnExactCapOverlapUptoRow.holds Try.pinned (OpenSpec.upto fnExactCapOverlapSpec)

/-- 'laws.FnExactRimExcess', WHERE WHAT IT READS IS OF BULK AT MOST 1048576: true; the input reads as it did. -/
def fnExactRimExcessUptoRow : OpenClaim := { program := "ytckbhiphmdpjnaa", sum := "16dba2bec8b27758390bc94e28660bf6f07336c3216e3176305a319627fe225d", func := "loop.example/g01055/laws.FnExactRimExcess", spec := "fnExactRimExcess", recurses := true, apart := false, narrowed := true }
def FnExactRimExcessUptoSaid : Prop := fnExactRimExcessUptoRow.holds Try.pinned (OpenSpec.upto fnExactRimExcessSpec)

end Rows
end Go.Proofs.Ytckbhiphmdpjnaa
