/- The row of FnExactDistanceOf: for every input it answers true and leaves its arguments as they were. No condition. -/
import Derived.Test.YtjmciajeimhigaaRows
import Derived.Test.YtjmciajeimhigaaConJ
import Derived.WalkKit
import Derived.ProofKit
import Derived.OpenShut
import Derived.ShutString
import Derived.ChangeOld
import Derived.Below
import Derived.SizedLaws
import Derived.Lib.SmallJoins
namespace Go.Proofs.Ytjmciajeimhigaa.fnExactDistanceOf
open Go.ChangeShapes Go.WideShapes Go.ChangeAt Go.RowKit Go.Joins
open Go.ChangeMaps (open_string shut_string)
set_option linter.unusedVariables false
set_option linter.unusedSimpArgs false
theorem own : ownKnob Try.prog.godebug = none := by kernel_rfl
theorem cells : Try.prog.cellsOf 48 = 2 := by kernel_rfl
set_option maxRecDepth 100000 in
theorem lifted (os : Os) (started : os.Started) (H : Type) (enc : TypeId × Value → H) :
    ReturnsInHanded {} Try.checked os 9 .any (Rows.fnExactDistanceOfSpec.pre6 enc Try.prog Try.f9 Rows.fnExactDistanceOfRow.domain false) (Rows.fnExactDistanceOfSpec.post enc Try.prog Try.f9 false true false false) := by
  refine returnsInHanded_of_change_sized (C := Try.checked) own started (by kernel_rfl) Try.func9
    (ChangeSpec.witness6 (enc := enc) (C := Try.checked) false ⟨#[], #[.agg #[.int .i64 0, .int .i64 0], .agg #[.int .i64 0, .int .i64 0]], []⟩ 8 (by kernel_rfl) (by kernel_rfl) (by kernel_rfl) (by kernel_rfl)) ?_
  intro W base args ds gs before hval0 hW hcnd hsz0 _
  have hval : ∀ (j : Nat) t v, Try.f9.params[j]? = some t → args[j]? = some v → Value.okWide Try.prog W .any base t v := hval0
  have hW' := hW
  obtain ⟨p, q, hA0, hV, rfl, hfz, hnd⟩ := hW
  have hA : DataW.TrodAll enc Try.prog W 0 (fun _ => true) true Try.f9.params.toList args.toList ds p := hA0
  rw [Try.params9] at hA hval
  obtain ⟨v0, vs0, d0, ds0, p0, q0, hargs, rfl, rfl, h0, r0⟩ := trodAll_cons hA
  obtain ⟨v1, vs1, d1, ds1, p1, q1, rfl, rfl, rfl, h1, r1⟩ := trodAll_cons r0
  obtain ⟨rfl, rfl, rfl⟩ := trodAll_nil r1
  obtain rfl : args = #[v0, v1] := by cases args; simp_all
  obtain ⟨rfl, rfl⟩ := trodVars_none hV
  obtain ⟨c0, e0, y0, z0, m0, rfl, rfl, rfl, hy0, hz0⟩ := open_agg2 Try.underlying48 (by kernel_rfl) cells (hval 0 48 v0 rfl rfl) h0
  obtain ⟨a0_0, g0, rfl, w0_0⟩ := DataW.trod_int Try.underlying2 hy0
  obtain ⟨a0_1, k0, rfl, w0_1⟩ := DataW.trod_int Try.underlying2 hz0
  simp at g0 k0
  subst g0 k0
  obtain ⟨c1, e1, y1, z1, m1, rfl, rfl, rfl, hy1, hz1⟩ := open_agg2 Try.underlying48 (by kernel_rfl) cells (hval 1 48 v1 rfl rfl) h1
  obtain ⟨a1_0, g1, rfl, w1_0⟩ := DataW.trod_int Try.underlying2 hy1
  obtain ⟨a1_1, k1, rfl, w1_1⟩ := DataW.trod_int Try.underlying2 hz1
  simp at g1 k1
  subst g1 k1
  clear hA0 hval0 hsz0
  have sr0 : ∀ (W' : World) (base : Nat) (sp : Nat → Bool) (hd : Bool), DataW.Trod enc Try.prog W' base sp hd 48 (.agg #[.int .i64 a0_0, .int .i64 a0_1]) (.agg [.lit (.int .i64 a0_0), .lit (.int .i64 a0_1)]) [] := fun W' base sp hd =>
    shut_agg2 (y0 := (.lit (.int .i64 a0_0), [])) (y1 := (.lit (.int .i64 a0_1), [])) Try.underlying48 (by kernel_rfl) cells ⟨1, by simp [DataW.trod, Try.underlying2, w0_0]⟩ ⟨1, by simp [DataW.trod, Try.underlying2, w0_1]⟩
  have sr1 : ∀ (W' : World) (base : Nat) (sp : Nat → Bool) (hd : Bool), DataW.Trod enc Try.prog W' base sp hd 48 (.agg #[.int .i64 a1_0, .int .i64 a1_1]) (.agg [.lit (.int .i64 a1_0), .lit (.int .i64 a1_1)]) [] := fun W' base sp hd =>
    shut_agg2 (y0 := (.lit (.int .i64 a1_0), [])) (y1 := (.lit (.int .i64 a1_1), [])) Try.underlying48 (by kernel_rfl) cells ⟨1, by simp [DataW.trod, Try.underlying2, w1_0]⟩ ⟨1, by simp [DataW.trod, Try.underlying2, w1_1]⟩
  simp only [List.append_nil, List.nil_append] at hW'
  refine (Con.FnExactDistanceOf_c a0_0 a0_1 a1_0 a1_1 W w0_0 w0_1 w1_0 w1_1).mono fun e W' ⟨he, bel0⟩ => ?_
  have bel : Below W.heap.size W W' := by first | exact bel0 | exact bel0.below
  subst he
  exact ⟨_, rfl, _, _, _, [], _, [], hW', trodAll_mk1 (shut_bool Try.underlying4 _), (trodAll_cons_mk (sr0 _ _ _ _) (trodAll_cons_mk (sr1 _ _ _ _) trodAll_mk0)), rfl, bel.frame _, fun h => by cases h⟩
theorem over : Rows.fnExactDistanceOfRow.holds Try.pinned (OpenSpec.ofChange Rows.fnExactDistanceOfSpec) :=
  OpenClaim.holds_of_wide 9 Try.f9 rfl rfl rfl rfl rfl rfl rfl ⟨rfl, rfl, rfl, rfl, rfl⟩ rfl rfl rfl rfl rfl (by kernel_rfl) Try.func9 (by kernel_rfl)
    (of_decide_eq_true (by kernel_rfl)) (by unfold Func.isWrapper; first | (rw [if_pos (by decide +kernel)]; kernel_rfl) | (rw [if_neg (by decide +kernel)]; exact ⟨rfl, rfl⟩))
    (fun os started H enc _ => lifted os started H enc)
theorem proved : Rows.FnExactDistanceOfSaid := over
#print axioms proved
end Go.Proofs.Ytjmciajeimhigaa.fnExactDistanceOf
namespace Go.Proofs.Ytjmciajeimhigaa
/-- The row, under a short name, for the claim. -/
theorem fnExactDistanceOf_holds : Rows.FnExactDistanceOfSaid := fnExactDistanceOf.proved
end Go.Proofs.Ytjmciajeimhigaa
