/- The row of FnExactTurnSpot: for every input it answers true and leaves its arguments as they were. No condition. -/
import Derived.Test.YtckbhiphmdpjnaaRows
import Derived.Test.YtckbhiphmdpjnaaPFnExactTurnSpotx1
import Derived.Test.YtckbhiphmdpjnaaPureFnExactTurnSpot
import Derived.WalkKit
import Derived.ProofKit
import Derived.OpenShut
import Derived.ShutString
import Derived.ChangeOld
import Derived.Below
import Derived.SizedLaws
import Derived.Lib.SmallJoins
namespace Go.Proofs.Ytckbhiphmdpjnaa.fnExactTurnSpot
open Go.ChangeShapes Go.WideShapes Go.ChangeAt Go.RowKit Go.Joins
open Go.ChangeMaps (open_string shut_string)
set_option linter.unusedVariables false
set_option linter.unusedSimpArgs false
theorem own : ownKnob Try.prog.godebug = none := by kernel_rfl
theorem cells : Try.prog.cellsOf 23 = 2 := by kernel_rfl
set_option maxRecDepth 100000 in
theorem lifted (os : Os) (started : os.Started) (H : Type) (enc : TypeId × Value → H) :
    ReturnsInHanded {} Try.checked os 5 .any (Rows.fnExactTurnSpotSpec.pre6 enc Try.prog Try.f5 Rows.fnExactTurnSpotRow.domain false) (Rows.fnExactTurnSpotSpec.post enc Try.prog Try.f5 false true false false) := by
  refine returnsInHanded_of_change_sized (C := Try.checked) own started (by kernel_rfl) Try.func5
    (ChangeSpec.witness6 (enc := enc) (C := Try.checked) false ⟨#[], #[.agg #[.int .i64 0, .int .i64 0], .int .i64 0], []⟩ 8 (by kernel_rfl) (by kernel_rfl) (by kernel_rfl) (by kernel_rfl)) ?_
  intro W base args ds gs before hval0 hW hcnd hsz0 _
  have hval : ∀ (j : Nat) t v, Try.f5.params[j]? = some t → args[j]? = some v → Value.okWide Try.prog W .any base t v := hval0
  have hW' := hW
  obtain ⟨p, q, hA0, hV, rfl, hfz, hnd⟩ := hW
  have hA : DataW.TrodAll enc Try.prog W 0 (fun _ => true) true Try.f5.params.toList args.toList ds p := hA0
  rw [Try.params5] at hA hval
  obtain ⟨v0, vs0, d0, ds0, p0, q0, hargs, rfl, rfl, h0, r0⟩ := trodAll_cons hA
  obtain ⟨v1, vs1, d1, ds1, p1, q1, rfl, rfl, rfl, h1, r1⟩ := trodAll_cons r0
  obtain ⟨rfl, rfl, rfl⟩ := trodAll_nil r1
  obtain rfl : args = #[v0, v1] := by cases args; simp_all
  obtain ⟨rfl, rfl⟩ := trodVars_none hV
  obtain ⟨c0, e0, y0, z0, m0, rfl, rfl, rfl, hy0, hz0⟩ := open_agg2 Try.underlying23 (by kernel_rfl) cells (hval 0 23 v0 rfl rfl) h0
  obtain ⟨a0_0, g0, rfl, w0_0⟩ := DataW.trod_int Try.underlying2 hy0
  obtain ⟨a0_1, k0, rfl, w0_1⟩ := DataW.trod_int Try.underlying2 hz0
  simp at g0 k0
  subst g0 k0
  obtain ⟨a1, rfl, rfl, rfl, w1⟩ := open_int Try.underlying2 (hval 1 2 v1 rfl rfl) h1
  clear hA0 hval0 hsz0
  have sr0 : ∀ (W' : World) (base : Nat) (sp : Nat → Bool) (hd : Bool), DataW.Trod enc Try.prog W' base sp hd 23 (.agg #[.int .i64 a0_0, .int .i64 a0_1]) (.agg [.lit (.int .i64 a0_0), .lit (.int .i64 a0_1)]) [] := fun W' base sp hd =>
    shut_agg2 (y0 := (.lit (.int .i64 a0_0), [])) (y1 := (.lit (.int .i64 a0_1), [])) Try.underlying23 (by kernel_rfl) cells ⟨1, by simp [DataW.trod, Try.underlying2, w0_0]⟩ ⟨1, by simp [DataW.trod, Try.underlying2, w0_1]⟩
  simp only [List.append_nil, List.nil_append] at hW'
  have hk := Pure.FnExactTurnSpot a0_0 a0_1 a1 w0_0 w0_1 w1
  refine (PFnExactTurnSpot.laws_FnExactTurnSpot.calls a0_0 a0_1 a1 true W hk).mono fun e W' ⟨he, bel0⟩ => ?_
  have bel : Below W.heap.size W W' := by first | exact bel0 | exact bel0.below
  subst he
  exact ⟨_, rfl, _, _, _, [], _, [], hW', trodAll_mk1 (shut_bool Try.underlying4 _), (trodAll_cons_mk (sr0 _ _ _ _) (trodAll_cons_mk (shut_int Try.underlying2 w1) trodAll_mk0)), rfl, bel.frame _, fun h => by cases h⟩
theorem over : Rows.fnExactTurnSpotRow.holds Try.pinned (OpenSpec.ofChange Rows.fnExactTurnSpotSpec) :=
  OpenClaim.holds_of_wide 5 Try.f5 rfl rfl rfl rfl rfl rfl rfl ⟨rfl, rfl, rfl, rfl, rfl⟩ rfl rfl rfl rfl rfl (by kernel_rfl) Try.func5 (by kernel_rfl)
    (of_decide_eq_true (by kernel_rfl)) (by unfold Func.isWrapper; first | (rw [if_pos (by decide +kernel)]; kernel_rfl) | (rw [if_neg (by decide +kernel)]; exact ⟨rfl, rfl⟩))
    (fun os started H enc _ => lifted os started H enc)
theorem proved : Rows.FnExactTurnSpotSaid := over
#print axioms proved
end Go.Proofs.Ytckbhiphmdpjnaa.fnExactTurnSpot
namespace Go.Proofs.Ytckbhiphmdpjnaa
/-- The row, under a short name, for the claim. -/
theorem fnExactTurnSpot_holds : Rows.FnExactTurnSpotSaid := fnExactTurnSpot.proved
end Go.Proofs.Ytckbhiphmdpjnaa
