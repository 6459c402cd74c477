/- What FnExactLonDifference's printed functions come to, and that the law answers true: for every input of its kinds. Conditions: none beyond the printed bounds. -/
import Derived.Test.YtgfclbfkkekkmaaPFnExactLonDifferencex1
import Derived.Test.YtgfclbfkkekkmaaMth
namespace Go.Proofs.Ytgfclbfkkekkmaa.Pure
namespace FnExactLonDifferenceB
open Go.RowKit Go.Proofs.Ytgfclbfkkekkmaa.PFnExactLonDifference Go.Proofs.YtgfclbfkkekkmaaW.PrintWords Go.Proofs.YtgfclbfkkekkmaaW.PrintLast Go.Proofs.YtgfclbfkkekkmaaW.PrintMore Go.Proofs.Ytgfclbfkkekkmaa.Mth
set_option linter.unusedVariables false
set_option linter.unusedSimpArgs false
theorem spec_l00In_eq (a b c : Int) : spec_l00In.f a b c = some (decide (b ≤ a ∧ a ≤ c)) := by
  unfold spec_l00In.f; by_cases h : b ≤ a <;> simp [h]
theorem impl_within_eq (a b c : Int) : impl_within.f a b c = some (decide (b ≤ a ∧ a ≤ c)) := by
  unfold impl_within.f; by_cases h : b ≤ a <;> simp [h]
theorem impl_isAngle_eq (a : Int) : impl_isAngle.f a = some (decide (angOk a)) := by
  unfold impl_isAngle.f; rw [impl_within_eq]; rfl
theorem spec_l02Angle_eq (a : Int) : spec_l02Angle.f a = some (decide (angOk a)) := by
  unfold spec_l02Angle.f; rw [spec_l00In_eq]; rfl
theorem impl_around_eq (a : Int) : impl_around.f a = some (a % 1296000) := by
  unfold impl_around.f; rw [around_f]
theorem impl_wrap_eq {a : Int} (h : -4000000000000000000 ≤ a) (h' : a ≤ 4000000000000000000) : impl_wrap.f a = some (W a) := by
  unfold impl_wrap.f; rw [w64 (n := a + 648000) (by omega) (by omega), impl_around_eq, Option.bind_some, w64 (by omega) (by omega)]; rfl
theorem spec_l02Wrap_eq {a : Int} (h : -4000000000000000000 ≤ a) (h' : a ≤ 4000000000000000000) : spec_l02Wrap.f a = some (W a) := by
  unfold spec_l02Wrap.f W; rw [w64 (n := a + 648000) (by omega) (by omega), tmod_T]
  by_cases h0 : 0 ≤ a + 648000
  · rw [if_pos h0, if_neg (by omega), w64 (by omega) (by omega)]
  · rw [if_neg h0]
    by_cases h1 : -((-(a + 648000)) % 1296000) < 0
    · rw [if_pos h1, w64 (n := _ + 1296000) (by omega) (by omega), w64 (by omega) (by omega)]; congr 1; omega
    · rw [if_neg h1, w64 (by omega) (by omega)]; congr 1; omega
theorem spec_LonDifference_eq (a b : Int) : spec_LonDifference.f a b = some (RLonDifference a b) := by
  unfold spec_LonDifference.f RLonDifference; simp only [spec_l02Angle_eq, Option.bind_some, decide_eq_true_eq]
  by_cases h : angOk a
  · by_cases g : angOk b
    · rw [if_pos h, if_pos g, if_pos ⟨h, g⟩, w64 (by omega) (by omega), spec_l02Wrap_eq (by omega) (by omega)]; rfl
    · rw [if_pos h, if_neg g, if_neg (fun e => g e.2)]
  · rw [if_neg h, if_neg (fun e => h e.1)]
theorem impl_LonDifference_eq (a b : Int) : impl_LonDifference.f a b = some (RLonDifference a b) := by
  unfold impl_LonDifference.f RLonDifference; simp only [impl_isAngle_eq, Option.bind_some, decide_eq_true_eq]
  by_cases h : angOk a
  · by_cases g : angOk b
    · rw [if_pos h, if_pos g, if_pos ⟨h, g⟩, w64 (by omega) (by omega), impl_wrap_eq (by omega) (by omega)]; rfl
    · rw [if_pos h, if_neg g, if_neg (fun e => g e.2)]
  · rw [if_neg h, if_neg (fun e => h e.1)]
end FnExactLonDifferenceB
open Go.RowKit Go.Proofs.Ytgfclbfkkekkmaa.PFnExactLonDifference Go.Proofs.YtgfclbfkkekkmaaW.PrintWords Go.Proofs.YtgfclbfkkekkmaaW.PrintLast Go.Proofs.YtgfclbfkkekkmaaW.PrintMore Go.Proofs.Ytgfclbfkkekkmaa.Mth FnExactLonDifferenceB
set_option linter.unusedVariables false in
set_option linter.unusedSimpArgs false in
theorem FnExactLonDifference : laws_FnExactLonDifference.Pure := by
  intro a0 a1 w0 w1
  unfold laws_FnExactLonDifference.f
  rw [spec_LonDifference_eq, impl_LonDifference_eq]; simp
end Go.Proofs.Ytgfclbfkkekkmaa.Pure
