/- What FnExactTurnSpot's printed functions come to, and that the law answers true: for every input of its kinds. Conditions: none beyond the printed bounds. -/
import Derived.Test.YtckbhiphmdpjnaaPFnExactTurnSpotx1
import Derived.Test.YtckbhiphmdpjnaaMth
namespace Go.Proofs.Ytckbhiphmdpjnaa.Pure
namespace FnExactTurnSpotB
open Go.RowKit Go.Proofs.Ytckbhiphmdpjnaa.PFnExactTurnSpot Go.Proofs.YtckbhiphmdpjnaaW.PrintWords Go.Proofs.YtckbhiphmdpjnaaW.PrintLast Go.Proofs.YtckbhiphmdpjnaaW.PrintMore Go.Proofs.Ytckbhiphmdpjnaa.Mth
set_option linter.unusedVariables false
set_option linter.unusedSimpArgs false
theorem spec_l00In_eq (a b c : Int) : spec_l00In.f a b c = some (decide (b ≤ a ∧ a ≤ c)) := by
  unfold spec_l00In.f; by_cases h : b ≤ a <;> simp [h]
theorem impl_within_eq (a b c : Int) : impl_within.f a b c = some (decide (b ≤ a ∧ a ≤ c)) := by
  unfold impl_within.f; by_cases h : b ≤ a <;> simp [h]
theorem impl_isAngle_eq (a : Int) : impl_isAngle.f a = some (decide (angOk a)) := by
  unfold impl_isAngle.f; rw [impl_within_eq]; rfl
theorem spec_l02Angle_eq (a : Int) : spec_l02Angle.f a = some (decide (angOk a)) := by
  unfold spec_l02Angle.f; rw [spec_l00In_eq]; rfl
theorem spec_l02Ok_eq (a b : Int) : spec_l02Ok.f a b = some (decide (sOk a b)) := by
  unfold spec_l02Ok.f; simp only [spec_l00In_eq, Option.bind_some, decide_eq_true_eq]
  by_cases h : -324000 ≤ a ∧ a ≤ 324000
  · rw [if_pos h]; simp [sOk, h]
  · rw [if_neg h]; simp [sOk, h]
theorem impl_ValidSpot_eq (a b : Int) : impl_ValidSpot.f a b = some (decide (sOk a b)) := by
  unfold impl_ValidSpot.f; simp only [impl_within_eq, Option.bind_some, decide_eq_true_eq]
  by_cases h : -324000 ≤ a ∧ a ≤ 324000
  · rw [if_pos h]; simp [sOk, h]
  · rw [if_neg h]; simp [sOk, h]
theorem laws_toSpot_eq (a b : Int) : laws_toSpot.f a b = some (a, b) := rfl
theorem impl_around_eq (a : Int) : impl_around.f a = some (a % 1296000) := by
  unfold impl_around.f; rw [around_f]
theorem impl_wrap_eq {a : Int} (h : -4000000000000000000 ≤ a) (h' : a ≤ 4000000000000000000) : impl_wrap.f a = some (W a) := by
  unfold impl_wrap.f; rw [w64 (n := a + 648000) (by omega) (by omega), impl_around_eq, Option.bind_some, w64 (by omega) (by omega)]; rfl
theorem spec_l02Wrap_eq {a : Int} (h : -4000000000000000000 ≤ a) (h' : a ≤ 4000000000000000000) : spec_l02Wrap.f a = some (W a) := by
  unfold spec_l02Wrap.f W; rw [w64 (n := a + 648000) (by omega) (by omega), tmod_T]
  by_cases h0 : 0 ≤ a + 648000
  · rw [if_pos h0, if_neg (by omega), w64 (by omega) (by omega)]
  · rw [if_neg h0]
    by_cases h1 : -((-(a + 648000)) % 1296000) < 0
    · rw [if_pos h1, w64 (n := _ + 1296000) (by omega) (by omega), w64 (by omega) (by omega)]; congr 1; omega
    · rw [if_neg h1, w64 (by omega) (by omega)]; congr 1; omega
theorem spec_TurnSpot_eq (a b t : Int) : spec_TurnSpot.f a b t = some (RTurnSpot a b t) := by
  unfold spec_TurnSpot.f RTurnSpot; simp only [spec_l02Ok_eq, spec_l02Angle_eq, Option.bind_some, decide_eq_true_eq]
  by_cases h : sOk a b
  · by_cases g : angOk t
    · rw [if_pos h, if_pos h, if_pos g, if_pos g, w64 (by omega) (by omega), spec_l02Wrap_eq (by omega) (by omega)]; rfl
    · rw [if_pos h, if_pos h, if_neg g, if_neg g]
  · rw [if_neg h, if_neg h]
theorem impl_TurnSpot_eq (a b t : Int) : impl_TurnSpot.f a b t = some (RTurnSpot a b t) := by
  unfold impl_TurnSpot.f RTurnSpot; simp only [impl_ValidSpot_eq, impl_isAngle_eq, Option.bind_some, decide_eq_true_eq]
  by_cases h : sOk a b
  · by_cases g : angOk t
    · rw [if_pos h, if_pos h, if_pos g, if_pos g, w64 (by omega) (by omega), impl_wrap_eq (by omega) (by omega)]; rfl
    · rw [if_pos h, if_pos h, if_neg g, if_neg g]
  · rw [if_neg h, if_neg h]
theorem laws_eqSpot_rfl (a b : Int) : laws_eqSpot.f a b a b = some true := by
  unfold laws_eqSpot.f; simp
end FnExactTurnSpotB
open Go.RowKit Go.Proofs.Ytckbhiphmdpjnaa.PFnExactTurnSpot Go.Proofs.YtckbhiphmdpjnaaW.PrintWords Go.Proofs.YtckbhiphmdpjnaaW.PrintLast Go.Proofs.YtckbhiphmdpjnaaW.PrintMore Go.Proofs.Ytckbhiphmdpjnaa.Mth FnExactTurnSpotB
set_option linter.unusedVariables false in
set_option linter.unusedSimpArgs false in
theorem FnExactTurnSpot : ∀ (a0_0 : Int) (a0_1 : Int) (a1 : Int), (Lit.int .i64 a0_0).wf = true → (Lit.int .i64 a0_1).wf = true → (Lit.int .i64 a1).wf = true → laws_FnExactTurnSpot.f a0_0 a0_1 a1 = some true := by
  intro a b t _ _ _
  unfold laws_FnExactTurnSpot.f
  simp only [laws_toSpot_eq, Option.bind_some, spec_TurnSpot_eq, impl_TurnSpot_eq, laws_eqSpot_rfl]; simp
end Go.Proofs.Ytckbhiphmdpjnaa.Pure
