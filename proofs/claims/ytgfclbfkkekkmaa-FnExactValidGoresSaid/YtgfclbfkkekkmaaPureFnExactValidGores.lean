/- What FnExactValidGores's printed functions come to, and that the law answers true: for every input of its kinds. Conditions: none beyond the printed bounds. -/
import Derived.Test.YtgfclbfkkekkmaaPFnExactValidGoresx1
import Derived.Test.YtgfclbfkkekkmaaMth
namespace Go.Proofs.Ytgfclbfkkekkmaa.Pure
namespace FnExactValidGoresB
open Go.RowKit Go.Proofs.Ytgfclbfkkekkmaa.PFnExactValidGores Go.Proofs.YtgfclbfkkekkmaaW.PrintWords Go.Proofs.YtgfclbfkkekkmaaW.PrintLast Go.Proofs.YtgfclbfkkekkmaaW.PrintMore Go.Proofs.Ytgfclbfkkekkmaa.Mth
set_option linter.unusedVariables false
set_option linter.unusedSimpArgs false
theorem spec_l00In_eq (a b c : Int) : spec_l00In.f a b c = some (decide (b ≤ a ∧ a ≤ c)) := by
  unfold spec_l00In.f; by_cases h : b ≤ a <;> simp [h]
theorem impl_within_eq (a b c : Int) : impl_within.f a b c = some (decide (b ≤ a ∧ a ≤ c)) := by
  unfold impl_within.f; by_cases h : b ≤ a <;> simp [h]
theorem spec_l04Ok_eq (g : Int) : spec_l04Ok.f g = some (decide (gOk g)) := by
  unfold spec_l04Ok.f; rw [spec_l00In_eq]; simp only [Option.bind_some, decide_eq_true_eq]
  by_cases h : 6 ≤ g ∧ g ≤ 48
  · rw [if_pos h, if_neg (by omega)]
    by_cases h2 : 1296000 % g = 0 <;> simp [h, h2]
  · rw [if_neg h]; simp [gOk, h]
theorem impl_ValidGores_eq (g : Int) : impl_ValidGores.f g = some (decide (gOk g)) := by
  unfold impl_ValidGores.f; rw [impl_within_eq]; simp only [Option.bind_some, decide_eq_true_eq]
  by_cases h : 6 ≤ g ∧ g ≤ 48
  · rw [if_pos h, if_neg (by omega)]
    by_cases h2 : 1296000 % g = 0 <;> simp [h, h2]
  · rw [if_neg h]; simp [gOk, h]
theorem spec_ValidGores_eq (g : Int) : spec_ValidGores.f g = some (decide (gOk g)) := by
  unfold spec_ValidGores.f; rw [spec_l04Ok_eq]; rfl
end FnExactValidGoresB
open Go.RowKit Go.Proofs.Ytgfclbfkkekkmaa.PFnExactValidGores Go.Proofs.YtgfclbfkkekkmaaW.PrintWords Go.Proofs.YtgfclbfkkekkmaaW.PrintLast Go.Proofs.YtgfclbfkkekkmaaW.PrintMore Go.Proofs.Ytgfclbfkkekkmaa.Mth FnExactValidGoresB
set_option linter.unusedVariables false in
set_option linter.unusedSimpArgs false in
theorem FnExactValidGores : laws_FnExactValidGores.Pure := by
  intro a0 w0
  unfold laws_FnExactValidGores.f
  rw [spec_ValidGores_eq, impl_ValidGores_eq]; simp
end Go.Proofs.Ytgfclbfkkekkmaa.Pure
