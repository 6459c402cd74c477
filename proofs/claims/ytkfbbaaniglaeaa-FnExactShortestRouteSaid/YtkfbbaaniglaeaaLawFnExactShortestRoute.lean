/- The row of FnExactShortestRoute: for every input it answers true and leaves its arguments as they were. No condition. -/
import Derived.Test.YtkfbbaaniglaeaaRows
import Derived.Test.YtkfbbaaniglaeaaConG2
import Derived.WalkKit
import Derived.ProofKit
import Derived.OpenShut
import Derived.ShutString
import Derived.ChangeOld
import Derived.Below
import Derived.SizedLaws
import Derived.Lib.SmallJoins
import Derived.Deep.SlicePairs
namespace Go.Proofs.Ytkfbbaaniglaeaa.fnExactShortestRoute
open Go.ChangeShapes Go.WideShapes Go.ChangeAt Go.RowKit Go.Joins
open Go.ChangeMaps (open_string shut_string)
open Go.Proofs.YtkfbbaaniglaeaaW
set_option linter.unusedVariables false
set_option linter.unusedSimpArgs false
theorem own : ownKnob Try.prog.godebug = none := by kernel_rfl
theorem cellsL : Try.prog.cellsOf 83 = 2 := by kernel_rfl
theorem laidOut : laidOutB Try.prog = true := by kernel_rfl
set_option maxRecDepth 100000 in
theorem lifted (os : Os) (started : os.Started) (H : Type) (enc : TypeId × Value → H) :
    ReturnsInHanded {} Try.checked os 6 .any (Rows.fnExactShortestRouteSpec.pre6 enc Try.prog Try.f6 Rows.fnExactShortestRouteRow.domain false) (Rows.fnExactShortestRouteSpec.post enc Try.prog Try.f6 false true false false) := by
  refine returnsInHanded_of_change_sized (C := Try.checked) own started (by kernel_rfl) Try.func6
    (ChangeSpec.witness6 (enc := enc) (C := Try.checked) false ⟨#[], #[.slice none 0 0], []⟩ 8 (by kernel_rfl) (by kernel_rfl) (by kernel_rfl) (by kernel_rfl)) ?_
  intro W base args ds gs before hval0 hW hcnd hsz0 _
  have hval : ∀ (j : Nat) t v, Try.f6.params[j]? = some t → args[j]? = some v → Value.okWide Try.prog W .any base t v := hval0
  have hW' := hW
  obtain ⟨p, q, hA0, hV, rfl, hfz, hnd⟩ := hW
  have hA : DataW.TrodAll enc Try.prog W 0 (fun _ => true) true Try.f6.params.toList args.toList ds p := hA0
  rw [Try.params6] at hA hval
  obtain ⟨v0, vs0, d0, ds0, p0, q0, hargs, rfl, rfl, h0, r0⟩ := trodAll_cons hA
  obtain ⟨rfl, rfl, rfl⟩ := trodAll_nil r0
  obtain rfl : args = #[v0] := by cases args; simp_all
  obtain ⟨rfl, rfl⟩ := trodVars_none hV
  obtain ⟨a0, len0, cap0, rfl⟩ := okWide_slice Try.underlying28 (hval 0 28 v0 rfl rfl)
  have k0 := h0
  have lt0 : ∀ x ∈ p0, x.block < W.heap.size := by obtain ⟨m, hm⟩ := k0; exact DataW.trod_lt m _ _ _ hm
  obtain ⟨z0, w0, n0⟩ : ∃ zs : List Con.Lp, PrintWords.Kd.C Con.kLp W a0 len0 zs ∧ len0 ≤ cap0 := by
    obtain ⟨fuel, hf⟩ := h0
    rcases Go.Deep.open_slice_pairs Try.underlying28 Try.underlying83 cellsL rfl rfl (by kernel_rfl) (by kernel_rfl) hf with ⟨hcs, _⟩ | ⟨x, l, c, m, n, V0, V1, D0, D1, P0, P1, hcs, _, hl, hm, hmm, _, hx⟩
    · simp [Value.cells] at hcs
      obtain ⟨rfl, rfl, rfl⟩ := hcs
      exact ⟨[], ⟨rfl, by omega, fun h => by omega⟩, by omega⟩
    · simp [Value.cells] at hcs
      obtain ⟨rfl, rfl, rfl⟩ := hcs
      have hlm : len0 ≤ m := by rw [hmm]; split <;> omega
      have each : ∀ i, i < len0 → ∃ p : Int × Int, W.cell? (x.add (i * 2)) = some (.int .i64 p.1) ∧ W.cell? (x.add (i * 2 + 1)) = some (.int .i64 p.2) := by
        intro i hi
        obtain ⟨h0, h1, t0, t1⟩ := hx i (by omega)
        obtain ⟨a, g, _, _⟩ := DataW.trod_int Try.underlying2 t0
        obtain ⟨b, k, _, _⟩ := DataW.trod_int Try.underlying2 t1
        simp at g k
        exact ⟨(a, b), by rw [h0, g], by rw [h1, k]⟩
      obtain ⟨f, hf⟩ : ∃ f : Nat → Int × Int, ∀ i, i < len0 → W.cell? (x.add (i * 2)) = some (.int .i64 (f i).1) ∧ W.cell? (x.add (i * 2 + 1)) = some (.int .i64 (f i).2) :=
        ⟨fun i => if h : i < len0 then Classical.choose (each i h) else (0, 0), fun i hi => by simp only [dif_pos hi]; exact Classical.choose_spec (each i hi)⟩
      refine ⟨(List.range len0).map fun i => ⟨(f i).1, (f i).2⟩, ⟨by simp, by unfold maxLen at hm; omega, fun _ => ⟨x, rfl, fun j p hp => ?_⟩⟩, hl⟩
      have hj : j < len0 := by have := (List.getElem?_eq_some_iff.1 hp).1; simpa using this
      have hp2 : p = ⟨(f j).1, (f j).2⟩ := by rw [List.getElem?_map, List.getElem?_range hj] at hp; simpa using hp.symm
      subst hp2
      obtain ⟨h0, h1⟩ := hf j hj
      refine ⟨[.int .i64 (f j).1, .int .i64 (f j).2], rfl, PFnExactUnderCap.k83_mk _ _, fun i u hu => ?_⟩
      match i, hu with
      | 0, hu => simp at hu; rw [← hu]; exact h0
      | 1, hu => simp at hu; rw [← hu]; exact h1
      | i + 2, hu => simp at hu
  clear hA0 hval0 hsz0
  refine (Con.FnExactShortestRoute_c  W w0 n0).mono fun e W' ⟨he, bel0⟩ => ?_
  have bel : Below W.heap.size W W' := by first | exact bel0 | exact bel0.below
  subst he
  exact ⟨_, rfl, _, _, _, [], _, [], hW', trodAll_mk1 (shut_bool Try.underlying4 _), (trodAll_cons_mk (Below.trod laidOut (by kernel_rfl) (of_decide_eq_true (by kernel_rfl)) k0 bel lt0) trodAll_mk0), rfl, bel.frame _, fun h => by cases h⟩
theorem over : Rows.fnExactShortestRouteRow.holds Try.pinned (OpenSpec.ofChange Rows.fnExactShortestRouteSpec) :=
  OpenClaim.holds_of_wide 6 Try.f6 rfl rfl rfl rfl rfl rfl rfl ⟨rfl, rfl, rfl, rfl, rfl⟩ rfl rfl rfl rfl rfl (by kernel_rfl) Try.func6 (by kernel_rfl)
    (of_decide_eq_true (by kernel_rfl)) (by unfold Func.isWrapper; first | (rw [if_pos (by decide +kernel)]; kernel_rfl) | (rw [if_neg (by decide +kernel)]; exact ⟨rfl, rfl⟩))
    (fun os started H enc _ => lifted os started H enc)
theorem proved : Rows.FnExactShortestRouteSaid := over
#print axioms proved
end Go.Proofs.Ytkfbbaaniglaeaa.fnExactShortestRoute
namespace Go.Proofs.Ytkfbbaaniglaeaa
/-- The row, under a short name, for the claim. -/
theorem fnExactShortestRoute_holds : Rows.FnExactShortestRouteSaid := fnExactShortestRoute.proved
end Go.Proofs.Ytkfbbaaniglaeaa
