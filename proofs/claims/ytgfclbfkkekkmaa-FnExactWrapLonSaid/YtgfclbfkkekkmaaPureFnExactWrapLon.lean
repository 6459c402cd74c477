/- What FnExactWrapLon's printed functions come to, and that the law answers true: for every input of its kinds. Conditions: none beyond the printed bounds. -/
import Derived.Test.YtgfclbfkkekkmaaPFnExactWrapLonx1
import Derived.Test.YtgfclbfkkekkmaaMth
namespace Go.Proofs.Ytgfclbfkkekkmaa.Pure
namespace FnExactWrapLonB
open Go.RowKit Go.Proofs.Ytgfclbfkkekkmaa.PFnExactWrapLon Go.Proofs.YtgfclbfkkekkmaaW.PrintWords Go.Proofs.YtgfclbfkkekkmaaW.PrintLast Go.Proofs.YtgfclbfkkekkmaaW.PrintMore Go.Proofs.Ytgfclbfkkekkmaa.Mth
set_option linter.unusedVariables false
set_option linter.unusedSimpArgs false
theorem spec_l00In_eq (a b c : Int) : spec_l00In.f a b c = some (decide (b ≤ a ∧ a ≤ c)) := by
  unfold spec_l00In.f; by_cases h : b ≤ a <;> simp [h]
theorem impl_within_eq (a b c : Int) : impl_within.f a b c = some (decide (b ≤ a ∧ a ≤ c)) := by
  unfold impl_within.f; by_cases h : b ≤ a <;> simp [h]
theorem impl_isAngle_eq (a : Int) : impl_isAngle.f a = some (decide (angOk a)) := by
  unfold impl_isAngle.f; rw [impl_within_eq]; rfl
theorem spec_l02Angle_eq (a : Int) : spec_l02Angle.f a = some (decide (angOk a)) := by
  unfold spec_l02Angle.f; rw [spec_l00In_eq]; rfl
theorem impl_around_eq (a : Int) : impl_around.f a = some (a % 1296000) := by
  unfold impl_around.f; rw [around_f]
theorem impl_wrap_eq {a : Int} (h : -4000000000000000000 ≤ a) (h' : a ≤ 4000000000000000000) : impl_wrap.f a = some (W a) := by
  unfold impl_wrap.f; rw [w64 (n := a + 648000) (by omega) (by omega), impl_around_eq, Option.bind_some, w64 (by omega) (by omega)]; rfl
theorem spec_l02Wrap_eq {a : Int} (h : -4000000000000000000 ≤ a) (h' : a ≤ 4000000000000000000) : spec_l02Wrap.f a = some (W a) := by
  unfold spec_l02Wrap.f W; rw [w64 (n := a + 648000) (by omega) (by omega), tmod_T]
  by_cases h0 : 0 ≤ a + 648000
  · rw [if_pos h0, if_neg (by omega), w64 (by omega) (by omega)]
  · rw [if_neg h0]
    by_cases h1 : -((-(a + 648000)) % 1296000) < 0
    · rw [if_pos h1, w64 (n := _ + 1296000) (by omega) (by omega), w64 (by omega) (by omega)]; congr 1; omega
    · rw [if_neg h1, w64 (by omega) (by omega)]; congr 1; omega
theorem spec_WrapLon_eq (a : Int) : spec_WrapLon.f a = some (RWrapLon a) := by
  unfold spec_WrapLon.f RWrapLon; simp only [spec_l02Angle_eq, Option.bind_some, decide_eq_true_eq]
  by_cases h : angOk a
  · rw [if_pos h, if_pos h, spec_l02Wrap_eq (by omega) (by omega)]; rfl
  · rw [if_neg h, if_neg h]
theorem impl_WrapLon_eq (a : Int) : impl_WrapLon.f a = some (RWrapLon a) := by
  unfold impl_WrapLon.f RWrapLon; simp only [impl_isAngle_eq, Option.bind_some, decide_eq_true_eq]
  by_cases h : angOk a
  · rw [if_pos h, if_pos h, impl_wrap_eq (by omega) (by omega)]; rfl
  · rw [if_neg h, if_neg h]
end FnExactWrapLonB
open Go.RowKit Go.Proofs.Ytgfclbfkkekkmaa.PFnExactWrapLon Go.Proofs.YtgfclbfkkekkmaaW.PrintWords Go.Proofs.YtgfclbfkkekkmaaW.PrintLast Go.Proofs.YtgfclbfkkekkmaaW.PrintMore Go.Proofs.Ytgfclbfkkekkmaa.Mth FnExactWrapLonB
set_option linter.unusedVariables false in
set_option linter.unusedSimpArgs false in
theorem FnExactWrapLon : laws_FnExactWrapLon.Pure := by
  intro a0 w0
  unfold laws_FnExactWrapLon.f
  rw [spec_WrapLon_eq, impl_WrapLon_eq]; simp
end Go.Proofs.Ytgfclbfkkekkmaa.Pure
