/- The row of FnExactRingOf: for every input it answers true and leaves its arguments as they were. No condition. -/
import Derived.Test.YtledlfncpjoepaaRows
import Derived.Test.YtledlfncpjoepaaPFnExactRingOfx2
import Derived.Test.YtledlfncpjoepaaPureFnExactRingOf
import Derived.WalkKit
import Derived.ProofKit
import Derived.OpenShut
import Derived.ShutString
import Derived.ChangeOld
import Derived.Below
import Derived.SizedLaws
import Derived.Lib.SmallJoins
namespace Go.Proofs.Ytledlfncpjoepaa.fnExactRingOf
open Go.ChangeShapes Go.WideShapes Go.ChangeAt Go.RowKit Go.Joins
open Go.ChangeMaps (open_string shut_string)
set_option linter.unusedVariables false
set_option linter.unusedSimpArgs false
theorem own : ownKnob Try.prog.godebug = none := by kernel_rfl
theorem cells : Try.prog.cellsOf 44 = 2 := by kernel_rfl
set_option maxRecDepth 100000 in
theorem lifted (os : Os) (started : os.Started) (H : Type) (enc : TypeId × Value → H) :
    ReturnsInHanded {} Try.checked os 9 .any (Rows.fnExactRingOfSpec.pre6 enc Try.prog Try.f9 Rows.fnExactRingOfRow.domain false) (Rows.fnExactRingOfSpec.post enc Try.prog Try.f9 false true false false) := by
  refine returnsInHanded_of_change_sized (C := Try.checked) own started (by kernel_rfl) Try.func9
    (ChangeSpec.witness6 (enc := enc) (C := Try.checked) false ⟨#[], #[.int .i64 0, .int .i64 0, .int .i64 0, .agg #[.int .i64 0, .int .i64 0]], []⟩ 8 (by kernel_rfl) (by kernel_rfl) (by kernel_rfl) (by kernel_rfl)) ?_
  intro W base args ds gs before hval0 hW hcnd hsz0 _
  have hval : ∀ (j : Nat) t v, Try.f9.params[j]? = some t → args[j]? = some v → Value.okWide Try.prog W .any base t v := hval0
  have hW' := hW
  obtain ⟨p, q, hA0, hV, rfl, hfz, hnd⟩ := hW
  have hA : DataW.TrodAll enc Try.prog W 0 (fun _ => true) true Try.f9.params.toList args.toList ds p := hA0
  rw [Try.params9] at hA hval
  obtain ⟨v0, vs0, d0, ds0, p0, q0, hargs, rfl, rfl, h0, r0⟩ := trodAll_cons hA
  obtain ⟨v1, vs1, d1, ds1, p1, q1, rfl, rfl, rfl, h1, r1⟩ := trodAll_cons r0
  obtain ⟨v2, vs2, d2, ds2, p2, q2, rfl, rfl, rfl, h2, r2⟩ := trodAll_cons r1
  obtain ⟨v3, vs3, d3, ds3, p3, q3, rfl, rfl, rfl, h3, r3⟩ := trodAll_cons r2
  obtain ⟨rfl, rfl, rfl⟩ := trodAll_nil r3
  obtain rfl : args = #[v0, v1, v2, v3] := by cases args; simp_all
  obtain ⟨rfl, rfl⟩ := trodVars_none hV
  obtain ⟨a0, rfl, rfl, rfl, w0⟩ := open_int Try.underlying2 (hval 0 2 v0 rfl rfl) h0
  obtain ⟨a1, rfl, rfl, rfl, w1⟩ := open_int Try.underlying2 (hval 1 2 v1 rfl rfl) h1
  obtain ⟨a2, rfl, rfl, rfl, w2⟩ := open_int Try.underlying2 (hval 2 2 v2 rfl rfl) h2
  obtain ⟨c3, e3, y3, z3, m3, rfl, rfl, rfl, hy3, hz3⟩ := open_agg2 Try.underlying44 (by kernel_rfl) cells (hval 3 44 v3 rfl rfl) h3
  obtain ⟨a3_0, g3, rfl, w3_0⟩ := DataW.trod_int Try.underlying2 hy3
  obtain ⟨a3_1, k3, rfl, w3_1⟩ := DataW.trod_int Try.underlying2 hz3
  simp at g3 k3
  subst g3 k3
  clear hA0 hval0 hsz0
  have sr3 : ∀ (W' : World) (base : Nat) (sp : Nat → Bool) (hd : Bool), DataW.Trod enc Try.prog W' base sp hd 44 (.agg #[.int .i64 a3_0, .int .i64 a3_1]) (.agg [.lit (.int .i64 a3_0), .lit (.int .i64 a3_1)]) [] := fun W' base sp hd =>
    shut_agg2 (y0 := (.lit (.int .i64 a3_0), [])) (y1 := (.lit (.int .i64 a3_1), [])) Try.underlying44 (by kernel_rfl) cells ⟨1, by simp [DataW.trod, Try.underlying2, w3_0]⟩ ⟨1, by simp [DataW.trod, Try.underlying2, w3_1]⟩
  simp only [List.append_nil, List.nil_append] at hW'
  obtain ⟨kk, hk⟩ := Pure.FnExactRingOf a0 a1 a2 a3_0 a3_1 w0 w1 w2 w3_0 w3_1
  refine (PFnExactRingOf.laws_FnExactRingOf.calls kk a0 a1 a2 a3_0 a3_1 true W hk).mono fun e W' ⟨he, bel0⟩ => ?_
  have bel : Below W.heap.size W W' := by first | exact bel0 | exact bel0.below
  subst he
  exact ⟨_, rfl, _, _, _, [], _, [], hW', trodAll_mk1 (shut_bool Try.underlying4 _), (trodAll_cons_mk (shut_int Try.underlying2 w0) (trodAll_cons_mk (shut_int Try.underlying2 w1) (trodAll_cons_mk (shut_int Try.underlying2 w2) (trodAll_cons_mk (sr3 _ _ _ _) trodAll_mk0)))), rfl, bel.frame _, fun h => by cases h⟩
theorem over : Rows.fnExactRingOfRow.holds Try.pinned (OpenSpec.ofChange Rows.fnExactRingOfSpec) :=
  OpenClaim.holds_of_wide 9 Try.f9 rfl rfl rfl rfl rfl rfl rfl ⟨rfl, rfl, rfl, rfl, rfl⟩ rfl rfl rfl rfl rfl (by kernel_rfl) Try.func9 (by kernel_rfl)
    (of_decide_eq_true (by kernel_rfl)) (by unfold Func.isWrapper; first | (rw [if_pos (by decide +kernel)]; kernel_rfl) | (rw [if_neg (by decide +kernel)]; exact ⟨rfl, rfl⟩))
    (fun os started H enc _ => lifted os started H enc)
theorem proved : Rows.FnExactRingOfSaid := over
#print axioms proved
end Go.Proofs.Ytledlfncpjoepaa.fnExactRingOf
namespace Go.Proofs.Ytledlfncpjoepaa
/-- The row, under a short name, for the claim. -/
theorem fnExactRingOf_holds : Rows.FnExactRingOfSaid := fnExactRingOf.proved
end Go.Proofs.Ytledlfncpjoepaa
