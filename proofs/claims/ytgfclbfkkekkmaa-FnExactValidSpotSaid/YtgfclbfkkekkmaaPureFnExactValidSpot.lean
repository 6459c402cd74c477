/- What FnExactValidSpot's printed functions come to, and that the law answers true: for every input of its kinds. Conditions: none beyond the printed bounds. -/
import Derived.Test.YtgfclbfkkekkmaaPFnExactValidSpotx1
import Derived.Test.YtgfclbfkkekkmaaMth
namespace Go.Proofs.Ytgfclbfkkekkmaa.Pure
namespace FnExactValidSpotB
open Go.RowKit Go.Proofs.Ytgfclbfkkekkmaa.PFnExactValidSpot Go.Proofs.YtgfclbfkkekkmaaW.PrintWords Go.Proofs.YtgfclbfkkekkmaaW.PrintLast Go.Proofs.YtgfclbfkkekkmaaW.PrintMore Go.Proofs.Ytgfclbfkkekkmaa.Mth
set_option linter.unusedVariables false
set_option linter.unusedSimpArgs false
theorem spec_l00In_eq (a b c : Int) : spec_l00In.f a b c = some (decide (b ≤ a ∧ a ≤ c)) := by
  unfold spec_l00In.f; by_cases h : b ≤ a <;> simp [h]
theorem impl_within_eq (a b c : Int) : impl_within.f a b c = some (decide (b ≤ a ∧ a ≤ c)) := by
  unfold impl_within.f; by_cases h : b ≤ a <;> simp [h]
theorem spec_l02Ok_eq (a b : Int) : spec_l02Ok.f a b = some (decide (sOk a b)) := by
  unfold spec_l02Ok.f; simp only [spec_l00In_eq, Option.bind_some, decide_eq_true_eq]
  by_cases h : -324000 ≤ a ∧ a ≤ 324000
  · rw [if_pos h]; simp [sOk, h]
  · rw [if_neg h]; simp [sOk, h]
theorem spec_ValidSpot_eq (a b : Int) : spec_ValidSpot.f a b = some (decide (sOk a b)) := by
  unfold spec_ValidSpot.f; rw [spec_l02Ok_eq]; rfl
theorem impl_ValidSpot_eq (a b : Int) : impl_ValidSpot.f a b = some (decide (sOk a b)) := by
  unfold impl_ValidSpot.f; simp only [impl_within_eq, Option.bind_some, decide_eq_true_eq]
  by_cases h : -324000 ≤ a ∧ a ≤ 324000
  · rw [if_pos h]; simp [sOk, h]
  · rw [if_neg h]; simp [sOk, h]
theorem laws_toSpot_eq (a b : Int) : laws_toSpot.f a b = some (a, b) := rfl
end FnExactValidSpotB
open Go.RowKit Go.Proofs.Ytgfclbfkkekkmaa.PFnExactValidSpot Go.Proofs.YtgfclbfkkekkmaaW.PrintWords Go.Proofs.YtgfclbfkkekkmaaW.PrintLast Go.Proofs.YtgfclbfkkekkmaaW.PrintMore Go.Proofs.Ytgfclbfkkekkmaa.Mth FnExactValidSpotB
set_option linter.unusedVariables false in
set_option linter.unusedSimpArgs false in
theorem FnExactValidSpot : ∀ (a0_0 : Int) (a0_1 : Int), (Lit.int .i64 a0_0).wf = true → (Lit.int .i64 a0_1).wf = true → laws_FnExactValidSpot.f a0_0 a0_1 = some true := by
  intro a b _ _
  unfold laws_FnExactValidSpot.f
  simp only [laws_toSpot_eq, Option.bind_some, spec_ValidSpot_eq, impl_ValidSpot_eq]; simp
end Go.Proofs.Ytgfclbfkkekkmaa.Pure
