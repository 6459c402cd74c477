/- The row of FnExactGoresTouched: for every input it answers true and leaves its arguments as they were. No condition. -/
import Derived.Test.YtkfbbaaniglaeaaRows
import Derived.Test.YtkfbbaaniglaeaaConGv
import Derived.WalkKit
import Derived.ProofKit
import Derived.OpenShut
import Derived.ShutString
import Derived.ChangeOld
import Derived.Below
import Derived.SizedLaws
import Derived.Lib.SmallJoins
import Derived.Deep.SlicePairs
namespace Go.Proofs.Ytkfbbaaniglaeaa.fnExactGoresTouched
open Go.ChangeShapes Go.WideShapes Go.ChangeAt Go.RowKit Go.Joins
open Go.ChangeMaps (open_string shut_string)
open Go.Proofs.YtkfbbaaniglaeaaW
set_option linter.unusedVariables false
set_option linter.unusedSimpArgs false
theorem own : ownKnob Try.prog.godebug = none := by kernel_rfl
theorem cellsL : Try.prog.cellsOf 83 = 2 := by kernel_rfl
theorem laidOut : laidOutB Try.prog = true := by kernel_rfl
set_option maxRecDepth 100000 in
theorem lifted (os : Os) (started : os.Started) (H : Type) (enc : TypeId × Value → H) :
    ReturnsInHanded {} Try.checked os 7 .any (Rows.fnExactGoresTouchedSpec.pre6 enc Try.prog Try.f7 Rows.fnExactGoresTouchedRow.domain false) (Rows.fnExactGoresTouchedSpec.post enc Try.prog Try.f7 false true false false) := by
  refine returnsInHanded_of_change_sized (C := Try.checked) own started (by kernel_rfl) Try.func7
    (ChangeSpec.witness6 (enc := enc) (C := Try.checked) false ⟨#[], #[.int .i64 0, .slice none 0 0], []⟩ 8 (by kernel_rfl) (by kernel_rfl) (by kernel_rfl) (by kernel_rfl)) ?_
  intro W base args ds gs before hval0 hW hcnd hsz0 _
  have hval : ∀ (j : Nat) t v, Try.f7.params[j]? = some t → args[j]? = some v → Value.okWide Try.prog W .any base t v := hval0
  have hW' := hW
  obtain ⟨p, q, hA0, hV, rfl, hfz, hnd⟩ := hW
  have hA : DataW.TrodAll enc Try.prog W 0 (fun _ => true) true Try.f7.params.toList args.toList ds p := hA0
  rw [Try.params7] at hA hval
  obtain ⟨v0, vs0, d0, ds0, p0, q0, hargs, rfl, rfl, h0, r0⟩ := trodAll_cons hA
  obtain ⟨v1, vs1, d1, ds1, p1, q1, rfl, rfl, rfl, h1, r1⟩ := trodAll_cons r0
  obtain ⟨rfl, rfl, rfl⟩ := trodAll_nil r1
  obtain rfl : args = #[v0, v1] := by cases args; simp_all
  obtain ⟨rfl, rfl⟩ := trodVars_none hV
  obtain ⟨a0, rfl, rfl, rfl, w0⟩ := open_int Try.underlying2 (hval 0 2 v0 rfl rfl) h0
  obtain ⟨a1, len1, cap1, rfl⟩ := okWide_slice Try.underlying28 (hval 1 28 v1 rfl rfl)
  have k1 := h1
  have lt1 : ∀ x ∈ p1, x.block < W.heap.size := by obtain ⟨m, hm⟩ := k1; exact DataW.trod_lt m _ _ _ hm
  obtain ⟨z1, w1, n1⟩ : ∃ zs : List Con.Lp, PrintWords.Kd.C Con.kLp W a1 len1 zs ∧ len1 ≤ cap1 := by
    obtain ⟨fuel, hf⟩ := h1
    rcases Go.Deep.open_slice_pairs Try.underlying28 Try.underlying83 cellsL rfl rfl (by kernel_rfl) (by kernel_rfl) hf with ⟨hcs, _⟩ | ⟨x, l, c, m, n, V0, V1, D0, D1, P0, P1, hcs, _, hl, hm, hmm, _, hx⟩
    · simp [Value.cells] at hcs
      obtain ⟨rfl, rfl, rfl⟩ := hcs
      exact ⟨[], ⟨rfl, by omega, fun h => by omega⟩, by omega⟩
    · simp [Value.cells] at hcs
      obtain ⟨rfl, rfl, rfl⟩ := hcs
      have hlm : len1 ≤ m := by rw [hmm]; split <;> omega
      have each : ∀ i, i < len1 → ∃ p : Int × Int, W.cell? (x.add (i * 2)) = some (.int .i64 p.1) ∧ W.cell? (x.add (i * 2 + 1)) = some (.int .i64 p.2) := by
        intro i hi
        obtain ⟨h0, h1, t0, t1⟩ := hx i (by omega)
        obtain ⟨a, g, _, _⟩ := DataW.trod_int Try.underlying2 t0
        obtain ⟨b, k, _, _⟩ := DataW.trod_int Try.underlying2 t1
        simp at g k
        exact ⟨(a, b), by rw [h0, g], by rw [h1, k]⟩
      obtain ⟨f, hf⟩ : ∃ f : Nat → Int × Int, ∀ i, i < len1 → W.cell? (x.add (i * 2)) = some (.int .i64 (f i).1) ∧ W.cell? (x.add (i * 2 + 1)) = some (.int .i64 (f i).2) :=
        ⟨fun i => if h : i < len1 then Classical.choose (each i h) else (0, 0), fun i hi => by simp only [dif_pos hi]; exact Classical.choose_spec (each i hi)⟩
      refine ⟨(List.range len1).map fun i => ⟨(f i).1, (f i).2⟩, ⟨by simp, by unfold maxLen at hm; omega, fun _ => ⟨x, rfl, fun j p hp => ?_⟩⟩, hl⟩
      have hj : j < len1 := by have := (List.getElem?_eq_some_iff.1 hp).1; simpa using this
      have hp2 : p = ⟨(f j).1, (f j).2⟩ := by rw [List.getElem?_map, List.getElem?_range hj] at hp; simpa using hp.symm
      subst hp2
      obtain ⟨h0, h1⟩ := hf j hj
      refine ⟨[.int .i64 (f j).1, .int .i64 (f j).2], rfl, PFnExactUnderCap.k83_mk _ _, fun i u hu => ?_⟩
      match i, hu with
      | 0, hu => simp at hu; rw [← hu]; exact h0
      | 1, hu => simp at hu; rw [← hu]; exact h1
      | i + 2, hu => simp at hu
  clear hA0 hval0 hsz0
  refine (Con.FnExactGoresTouched_c a0 W w0 w1 n1).mono fun e W' ⟨he, bel0⟩ => ?_
  have bel : Below W.heap.size W W' := by first | exact bel0 | exact bel0.below
  subst he
  exact ⟨_, rfl, _, _, _, [], _, [], hW', trodAll_mk1 (shut_bool Try.underlying4 _), (trodAll_cons_mk (shut_int Try.underlying2 w0) (trodAll_cons_mk (Below.trod laidOut (by kernel_rfl) (of_decide_eq_true (by kernel_rfl)) k1 bel lt1) trodAll_mk0)), rfl, bel.frame _, fun h => by cases h⟩
theorem over : Rows.fnExactGoresTouchedRow.holds Try.pinned (OpenSpec.ofChange Rows.fnExactGoresTouchedSpec) :=
  OpenClaim.holds_of_wide 7 Try.f7 rfl rfl rfl rfl rfl rfl rfl ⟨rfl, rfl, rfl, rfl, rfl⟩ rfl rfl rfl rfl rfl (by kernel_rfl) Try.func7 (by kernel_rfl)
    (of_decide_eq_true (by kernel_rfl)) (by unfold Func.isWrapper; first | (rw [if_pos (by decide +kernel)]; kernel_rfl) | (rw [if_neg (by decide +kernel)]; exact ⟨rfl, rfl⟩))
    (fun os started H enc _ => lifted os started H enc)
theorem proved : Rows.FnExactGoresTouchedSaid := over
#print axioms proved
end Go.Proofs.Ytkfbbaaniglaeaa.fnExactGoresTouched
namespace Go.Proofs.Ytkfbbaaniglaeaa
/-- The row, under a short name, for the claim. -/
theorem fnExactGoresTouched_holds : Rows.FnExactGoresTouchedSaid := fnExactGoresTouched.proved
end Go.Proofs.Ytkfbbaaniglaeaa
