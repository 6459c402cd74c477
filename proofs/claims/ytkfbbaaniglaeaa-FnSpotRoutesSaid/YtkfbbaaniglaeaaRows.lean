/-
  No cell of these rows narrows 'for every input' (looked for: loops, veiled, ifaces, maps, wideKeys, modest, calm, conditions, laid).
  DERIVED. THE GIVEN ROWS OF THIS SEAT. 10 by the template 'for every input the law returns true; each argument reads behind the call as it read before'; 0 by the template 'total and deterministic' (their statements: YtkfbbaaniglaeaaTotals.lean).
  GIVEN WITH THE SEED: the statements are not yours to turn. If you find one false, say at which input.
  Laid BY PROGRAM, IN A SANDBOX (cutbox-rows.mjs): the forced cells as the released guide's own fill.sh prints them over the translation 9d5116b095487cd1… (all of the seat's roots in one cut). By AI agents, Wed Nov 11 2026. No macro, syntax, notation, axiom, sorry.
-/
import Derived.Test.YtkfbbaaniglaeaaChecked
import GoSem.Claim
import GoSem.ClaimJoined
import GoSem.ClaimMapViews
import Derived.JoinedTies
import Derived.KernelRfl
namespace Go.Proofs.Ytkfbbaaniglaeaa
/- THE CELL 'sum', in the pinned program and in every row, IS THE sha256 OF THE DUMP (.gsa) THAT YtkfbbaaniglaeaaProg.lean LOADS. Nothing in Lean hashes anything: it is a label: what it is worth is what the hold of that sum in a sandbox is worth. -/
noncomputable def Try.pinned : Pinned := { name := "ytkfbbaaniglaeaa", sum := "9d5116b095487cd131b717866ff6a21b27d238816beca1e5cbf2d5ff68791561", checked := Try.checked }
namespace Rows
def none {H : Type} : Left H := { results := [], args := [] }

/-- 'laws.FnExactRingsOf': WHATEVER THE INPUT: true; the input reads as it did. -/
def fnExactRingsOfSpec : ChangeSpec := { name := "fnExactRingsOf", fn := fun _ => fun
  | [d1, d2] => { results := [.lit (.bool true)], args := [d1, d2] }
  | _ => none }
def fnExactRingsOfRow : OpenClaim := { program := "ytkfbbaaniglaeaa", sum := "9d5116b095487cd131b717866ff6a21b27d238816beca1e5cbf2d5ff68791561", func := "loop.example/g01055/laws.FnExactRingsOf", spec := "fnExactRingsOf", apart := false }
def FnExactRingsOfSaid : Prop := fnExactRingsOfRow.holds Try.pinned (OpenSpec.ofChange fnExactRingsOfSpec)

/-- ITS FALSE NEIGHBOUR: 'it returns false'. Refute it at one input. -/
def fnExactRingsOfWrong : ChangeSpec := { name := "fnExactRingsOf", fn := fun _ => fun
  | [d1, d2] => { results := [.lit (.bool false)], args := [d1, d2] }
  | _ => none }
def FnExactRingsOfWrongFalsely : Prop := fnExactRingsOfRow.holds Try.pinned (OpenSpec.ofChange fnExactRingsOfWrong)

/-- 'laws.FnExactUnderCap': WHATEVER THE INPUT: true; the input reads as it did. -/
def fnExactUnderCapSpec : ChangeSpec := { name := "fnExactUnderCap", fn := fun _ => fun
  | [d1, d2, d3] => { results := [.lit (.bool true)], args := [d1, d2, d3] }
  | _ => none }
def fnExactUnderCapRow : OpenClaim := { program := "ytkfbbaaniglaeaa", sum := "9d5116b095487cd131b717866ff6a21b27d238816beca1e5cbf2d5ff68791561", func := "loop.example/g01055/laws.FnExactUnderCap", spec := "fnExactUnderCap", unfollowed := true, recurses := true, apart := false }
def FnExactUnderCapSaid : Prop := fnExactUnderCapRow.holds Try.pinned (OpenSpec.ofChange fnExactUnderCapSpec)

/-- ITS FALSE NEIGHBOUR: 'it returns false'. Refute it at one input. -/
def fnExactUnderCapWrong : ChangeSpec := { name := "fnExactUnderCap", fn := fun _ => fun
  | [d1, d2, d3] => { results := [.lit (.bool false)], args := [d1, d2, d3] }
  | _ => none }
def FnExactUnderCapWrongFalsely : Prop := fnExactUnderCapRow.holds Try.pinned (OpenSpec.ofChange fnExactUnderCapWrong)

/-- 'laws.FnExactDistanceTable': WHATEVER THE INPUT: true; the input reads as it did. -/
def fnExactDistanceTableSpec : ChangeSpec := { name := "fnExactDistanceTable", fn := fun _ => fun
  | [d] => { results := [.lit (.bool true)], args := [d] }
  | _ => none }
def fnExactDistanceTableRow : OpenClaim := { program := "ytkfbbaaniglaeaa", sum := "9d5116b095487cd131b717866ff6a21b27d238816beca1e5cbf2d5ff68791561", func := "loop.example/g01055/laws.FnExactDistanceTable", spec := "fnExactDistanceTable", unfollowed := true, recurses := true, apart := false }
def FnExactDistanceTableSaid : Prop := fnExactDistanceTableRow.holds Try.pinned (OpenSpec.ofChange fnExactDistanceTableSpec)

/-- ITS FALSE NEIGHBOUR: 'it returns false'. Refute it at one input. -/
def fnExactDistanceTableWrong : ChangeSpec := { name := "fnExactDistanceTable", fn := fun _ => fun
  | [d] => { results := [.lit (.bool false)], args := [d] }
  | _ => none }
def FnExactDistanceTableWrongFalsely : Prop := fnExactDistanceTableRow.holds Try.pinned (OpenSpec.ofChange fnExactDistanceTableWrong)

/-- 'laws.FnExactShortestRoute': WHATEVER THE INPUT: true; the input reads as it did. -/
def fnExactShortestRouteSpec : ChangeSpec := { name := "fnExactShortestRoute", fn := fun _ => fun
  | [d] => { results := [.lit (.bool true)], args := [d] }
  | _ => none }
def fnExactShortestRouteRow : OpenClaim := { program := "ytkfbbaaniglaeaa", sum := "9d5116b095487cd131b717866ff6a21b27d238816beca1e5cbf2d5ff68791561", func := "loop.example/g01055/laws.FnExactShortestRoute", spec := "fnExactShortestRoute", unfollowed := true, recurses := true, apart := false }
def FnExactShortestRouteSaid : Prop := fnExactShortestRouteRow.holds Try.pinned (OpenSpec.ofChange fnExactShortestRouteSpec)

/-- ITS FALSE NEIGHBOUR: 'it returns false'. Refute it at one input. -/
def fnExactShortestRouteWrong : ChangeSpec := { name := "fnExactShortestRoute", fn := fun _ => fun
  | [d] => { results := [.lit (.bool false)], args := [d] }
  | _ => none }
def FnExactShortestRouteWrongFalsely : Prop := fnExactShortestRouteRow.holds Try.pinned (OpenSpec.ofChange fnExactShortestRouteWrong)

/-- 'laws.FnExactGoresTouched': WHATEVER THE INPUT: true; the input reads as it did. -/
def fnExactGoresTouchedSpec : ChangeSpec := { name := "fnExactGoresTouched", fn := fun _ => fun
  | [d1, d2] => { results := [.lit (.bool true)], args := [d1, d2] }
  | _ => none }
def fnExactGoresTouchedRow : OpenClaim := { program := "ytkfbbaaniglaeaa", sum := "9d5116b095487cd131b717866ff6a21b27d238816beca1e5cbf2d5ff68791561", func := "loop.example/g01055/laws.FnExactGoresTouched", spec := "fnExactGoresTouched", unfollowed := true, recurses := true, apart := false }
def FnExactGoresTouchedSaid : Prop := fnExactGoresTouchedRow.holds Try.pinned (OpenSpec.ofChange fnExactGoresTouchedSpec)

/-- ITS FALSE NEIGHBOUR: 'it returns false'. Refute it at one input. -/
def fnExactGoresTouchedWrong : ChangeSpec := { name := "fnExactGoresTouched", fn := fun _ => fun
  | [d1, d2] => { results := [.lit (.bool false)], args := [d1, d2] }
  | _ => none }
def FnExactGoresTouchedWrongFalsely : Prop := fnExactGoresTouchedRow.holds Try.pinned (OpenSpec.ofChange fnExactGoresTouchedWrong)

/-- 'laws.FnSpotRoutes': WHATEVER THE INPUT: true; the input reads as it did. -/
def fnSpotRoutesSpec : ChangeSpec := { name := "fnSpotRoutes", fn := fun _ => fun
  | [d1, d2] => { results := [.lit (.bool true)], args := [d1, d2] }
  | _ => none }
def fnSpotRoutesRow : OpenClaim := { program := "ytkfbbaaniglaeaa", sum := "9d5116b095487cd131b717866ff6a21b27d238816beca1e5cbf2d5ff68791561", func := "loop.example/g01055/laws.FnSpotRoutes", spec := "fnSpotRoutes", unfollowed := true, recurses := true, apart := false }
def FnSpotRoutesSaid : Prop := fnSpotRoutesRow.holds Try.pinned (OpenSpec.ofChange fnSpotRoutesSpec)

/-- ITS FALSE NEIGHBOUR: 'it returns false'. Refute it at one input. -/
def fnSpotRoutesWrong : ChangeSpec := { name := "fnSpotRoutes", fn := fun _ => fun
  | [d1, d2] => { results := [.lit (.bool false)], args := [d1, d2] }
  | _ => none }
def FnSpotRoutesWrongFalsely : Prop := fnSpotRoutesRow.holds Try.pinned (OpenSpec.ofChange fnSpotRoutesWrong)

/-- 'laws.FnRims': WHATEVER THE INPUT: true; the input reads as it did. -/
def fnRimsSpec : ChangeSpec := { name := "fnRims", fn := fun _ => fun
  | [d] => { results := [.lit (.bool true)], args := [d] }
  | _ => none }
def fnRimsRow : OpenClaim := { program := "ytkfbbaaniglaeaa", sum := "9d5116b095487cd131b717866ff6a21b27d238816beca1e5cbf2d5ff68791561", func := "loop.example/g01055/laws.FnRims", spec := "fnRims", recurses := true, apart := false }
def FnRimsSaid : Prop := fnRimsRow.holds Try.pinned (OpenSpec.ofChange fnRimsSpec)

/-- ITS FALSE NEIGHBOUR: 'it returns false'. Refute it at one input. -/
def fnRimsWrong : ChangeSpec := { name := "fnRims", fn := fun _ => fun
  | [d] => { results := [.lit (.bool false)], args := [d] }
  | _ => none }
def FnRimsWrongFalsely : Prop := fnRimsRow.holds Try.pinned (OpenSpec.ofChange fnRimsWrong)

/-- 'laws.FnClosing': WHATEVER THE INPUT: true; the input reads as it did. -/
def fnClosingSpec : ChangeSpec := { name := "fnClosing", fn := fun _ => fun
  | [d] => { results := [.lit (.bool true)], args := [d] }
  | _ => none }
def fnClosingRow : OpenClaim := { program := "ytkfbbaaniglaeaa", sum := "9d5116b095487cd131b717866ff6a21b27d238816beca1e5cbf2d5ff68791561", func := "loop.example/g01055/laws.FnClosing", spec := "fnClosing", recurses := true, apart := false }
def FnClosingSaid : Prop := fnClosingRow.holds Try.pinned (OpenSpec.ofChange fnClosingSpec)

/-- ITS FALSE NEIGHBOUR: 'it returns false'. Refute it at one input. -/
def fnClosingWrong : ChangeSpec := { name := "fnClosing", fn := fun _ => fun
  | [d] => { results := [.lit (.bool false)], args := [d] }
  | _ => none }
def FnClosingWrongFalsely : Prop := fnClosingRow.holds Try.pinned (OpenSpec.ofChange fnClosingWrong)

/-- 'laws.FnCaps': WHATEVER THE INPUT: true; the input reads as it did. -/
def fnCapsSpec : ChangeSpec := { name := "fnCaps", fn := fun _ => fun
  | [d] => { results := [.lit (.bool true)], args := [d] }
  | _ => none }
def fnCapsRow : OpenClaim := { program := "ytkfbbaaniglaeaa", sum := "9d5116b095487cd131b717866ff6a21b27d238816beca1e5cbf2d5ff68791561", func := "loop.example/g01055/laws.FnCaps", spec := "fnCaps", unfollowed := true, recurses := true, apart := false }
def FnCapsSaid : Prop := fnCapsRow.holds Try.pinned (OpenSpec.ofChange fnCapsSpec)

/-- ITS FALSE NEIGHBOUR: 'it returns false'. Refute it at one input. -/
def fnCapsWrong : ChangeSpec := { name := "fnCaps", fn := fun _ => fun
  | [d] => { results := [.lit (.bool false)], args := [d] }
  | _ => none }
def FnCapsWrongFalsely : Prop := fnCapsRow.holds Try.pinned (OpenSpec.ofChange fnCapsWrong)

/-- 'laws.FnGores': WHATEVER THE INPUT: true; the input reads as it did. -/
def fnGoresSpec : ChangeSpec := { name := "fnGores", fn := fun _ => fun
  | [d] => { results := [.lit (.bool true)], args := [d] }
  | _ => none }
def fnGoresRow : OpenClaim := { program := "ytkfbbaaniglaeaa", sum := "9d5116b095487cd131b717866ff6a21b27d238816beca1e5cbf2d5ff68791561", func := "loop.example/g01055/laws.FnGores", spec := "fnGores", unfollowed := true, recurses := true, apart := false }
def FnGoresSaid : Prop := fnGoresRow.holds Try.pinned (OpenSpec.ofChange fnGoresSpec)

/-- ITS FALSE NEIGHBOUR: 'it returns false'. Refute it at one input. -/
def fnGoresWrong : ChangeSpec := { name := "fnGores", fn := fun _ => fun
  | [d] => { results := [.lit (.bool false)], args := [d] }
  | _ => none }
def FnGoresWrongFalsely : Prop := fnGoresRow.holds Try.pinned (OpenSpec.ofChange fnGoresWrong)

/- THE SECOND FORM. 'bulk': how many values and letters a reading holds, each counted each time it is reached (what is shared counts as often as it is met; a slice's spare places count too). A statement '..UptoSaid' is the law's where the arguments, and the package variables that the reading takes, are together of bulk at most 1048576: NARROWER than '..Said'. Prove '..Said' where nothing that the law and all that it calls make is longer than what came in: it says more and counts as full. Else prove '..UptoSaid'. A law counts once. -/
mutual
def uptoBulk {H : Type} : DataW H → Nat
  | .lit (.string bytes) => bytes.length + 1
  | .lit _ => 1
  | .nil => 1
  | .ptr d => uptoBulk d + 1
  | .slice elems spare => uptoBulkAll elems + uptoBulkAll spare + 1
  | .agg parts => uptoBulkAll parts + 1
  | .iface _ d => uptoBulk d + 1
  | .map entries => uptoBulkEntries entries + 1
  | .held _ => 1
def uptoBulkAll {H : Type} : List (DataW H) → Nat
  | [] => 0
  | d :: r => uptoBulk d + uptoBulkAll r
def uptoBulkEntries {H : Type} : List (Lit × DataW H) → Nat
  | [] => 0
  | x :: r => uptoBulkEntry x + uptoBulkEntries r
def uptoBulkEntry {H : Type} : Lit × DataW H → Nat
  | (.string bytes, d) => bytes.length + uptoBulk d + 1
  | (_, d) => uptoBulk d + 1
 end
def uptoSmall : (H : Type) → List (DataW H) → Bool := fun _ ds => decide (uptoBulkAll ds ≤ 1048576)
def OpenSpec.upto (s : _root_.Go.ChangeSpec) : _root_.Go.OpenSpec := { _root_.Go.OpenSpec.ofChange s with cond := some uptoSmall }

/-- 'laws.FnExactRingsOf', WHERE WHAT IT READS IS OF BULK AT MOST 1048576: true; the input reads as it did. -/
def fnExactRingsOfUptoRow : OpenClaim := { program := "ytkfbbaaniglaeaa", sum := "9d5116b095487cd131b717866ff6a21b27d238816beca1e5cbf2d5ff68791561", func := "loop.example/g01055/laws.FnExactRingsOf", spec := "fnExactRingsOf", apart := false, narrowed := true }
def FnExactRingsOfUptoSaid : Prop := fnExactRingsOfUptoRow.holds Try.pinned (OpenSpec.upto fnExactRingsOfSpec)

/-- 'laws.FnExactUnderCap', WHERE WHAT IT READS IS OF BULK AT MOST 1048576: true; the input reads as it did. -/
def fnExactUnderCapUptoRow : OpenClaim := { program := "ytkfbbaaniglaeaa", sum := "9d5116b095487cd131b717866ff6a21b27d238816beca1e5cbf2d5ff68791561", func := "loop.example/g01055/laws.FnExactUnderCap", spec := "fnExactUnderCap", unfollowed := true, recurses := true, apart := false, narrowed := true }
def FnExactUnderCapUptoSaid : Prop := fnExactUnderCapUptoRow.holds Try.pinned (OpenSpec.upto fnExactUnderCapSpec)

/-- 'laws.FnExactDistanceTable', WHERE WHAT IT READS IS OF BULK AT MOST 1048576: true; the input reads as it did. -/
def fnExactDistanceTableUptoRow : OpenClaim := { program := "ytkfbbaaniglaeaa", sum := "9d5116b095487cd131b717866ff6a21b27d238816beca1e5cbf2d5ff68791561", func := "loop.example/g01055/laws.FnExactDistanceTable", spec := "fnExactDistanceTable", unfollowed := true, recurses := true, apart := false, narrowed := true }
def FnExactDistanceTableUptoSaid : Prop := fnExactDistanceTableUptoRow.holds Try.pinned (OpenSpec.upto fnExactDistanceTableSpec)

/-- 'laws.FnExactShortestRoute', WHERE WHAT IT READS IS OF BULK AT MOST 1048576: true; the input reads as it did. -/
def fnExactShortestRouteUptoRow : OpenClaim := { program := "ytkfbbaaniglaeaa", sum := "9d5116b095487cd131b717866ff6a21b27d238816beca1e5cbf2d5ff68791561", func := "loop.example/g01055/laws.FnExactShortestRoute", spec := "fnExactShortestRoute", unfollowed := true, recurses := true, apart := false, narrowed := true }
def FnExactShortestRouteUptoSaid : Prop := fnExactShortestRouteUptoRow.holds Try.pinned (OpenSpec.upto fnExactShortestRouteSpec)

/-- 'laws.FnExactGoresTouched', WHERE WHAT IT READS IS OF BULK AT MOST 1048576: true; the input reads as it did. -/
def fnExactGoresTouchedUptoRow : OpenClaim := { program := "ytkfbbaaniglaeaa", sum := "9d5116b095487cd131b717866ff6a21b27d238816beca1e5cbf2d5ff68791561", func := "loop.example/g01055/laws.FnExactGoresTouched", spec := "fnExactGoresTouched", unfollowed := true, recurses := true, apart := false, narrowed := true }
def FnExactGoresTouchedUptoSaid : Prop := fnExactGoresTouchedUptoRow.holds Try.pinned (OpenSpec.upto fnExactGoresTouchedSpec)

/-- 'laws.FnSpotRoutes', WHERE WHAT IT READS IS OF BULK AT MOST 1048576: true; the input reads as it did. -/
def fnSpotRoutesUptoRow : OpenClaim := { program := "ytkfbbaaniglaeaa", sum := "9d5116b095487cd131b717866ff6a21b27d238816beca1e5cbf2d5ff68791561", func := "loop.example/g01055/laws.FnSpotRoutes", spec := "fnSpotRoutes", unfollowed := true, recurses := true, apart := false, narrowed := true }
def FnSpotRoutesUptoSaid : Prop := fnSpotRoutesUptoRow.holds Try.pinned (OpenSpec.upto fnSpotRoutesSpec)

/-- 'laws.FnRims', WHERE WHAT IT READS IS OF BULK AT MOST 1048576: true; the input reads as it did. -/
def fnRimsUptoRow : OpenClaim := { program := "ytkfbbaaniglaeaa", sum := "9d5116b095487cd131b717866ff6a21b27d238816beca1e5cbf2d5ff68791561", func := "loop.example/g01055/laws.FnRims", spec := "fnRims", recurses := true, apart := false, narrowed := true }
def FnRimsUptoSaid : Prop := fnRimsUptoRow.holds Try.pinned (OpenSpec.upto fnRimsSpec)

/-- 'laws.FnClosing', WHERE WHAT IT READS IS OF BULK AT MOST 1048576: true; the input reads as it did. -/
def fnClosingUptoRow : OpenClaim := { program := "ytkfbbaaniglaeaa", sum := "9d5116b095487cd131b717866ff6a21b27d238816beca1e5cbf2d5ff68791561", func := "loop.example/g01055/laws.FnClosing", spec := "fnClosing", recurses := true, apart := false, narrowed := true }
def FnClosingUptoSaid : Prop := fnClosingUptoRow.holds Try.pinned (OpenSpec.upto fnClosingSpec)

/-- 'laws.FnCaps', WHERE WHAT IT READS IS OF BULK AT MOST 1048576: true; the input reads as it did. -/
def fnCapsUptoRow : OpenClaim := { program := "ytkfbbaaniglaeaa", sum := "9d5116b095487cd131b717866ff6a21b27d238816beca1e5cbf2d5ff68791561", func := "loop.example/g01055/laws.FnCaps", spec := "fnCaps", unfollowed := true, recurses := true, apart := false, narrowed := true }
def FnCapsUptoSaid : Prop := fnCapsUptoRow.holds Try.pinned (OpenSpec.upto fnCapsSpec)

/-- 'laws.FnGores', WHERE WHAT IT READS IS OF BULK AT MOST 1048576: true; the input reads as it did. -/
def fnGoresUptoRow : OpenClaim := { program := "ytkfbbaaniglaeaa", sum := "9d5116b095487cd131b717866ff6a21b27d238816beca1e5cbf2d5ff68791561", func := "loop.example/g01055/laws.FnGores", spec := "fnGores", unfollowed := true, recurses := true, apart := false, narrowed := true }
def FnGoresUptoSaid : Prop := fnGoresUptoRow.holds Try.pinned (OpenSpec.upto fnGoresSpec)

end Rows
end Go.Proofs.Ytkfbbaaniglaeaa
