/- What FnExactCapRadius's printed functions come to, and that the law answers true: for every input of its kinds. Conditions: none beyond the printed bounds. -/
import Derived.Test.YtgfclbfkkekkmaaPFnExactCapRadiusx1
import Derived.Test.YtgfclbfkkekkmaaMth
namespace Go.Proofs.Ytgfclbfkkekkmaa.Pure
namespace FnExactCapRadiusB
open Go.RowKit Go.Proofs.Ytgfclbfkkekkmaa.PFnExactCapRadius Go.Proofs.YtgfclbfkkekkmaaW.PrintWords Go.Proofs.YtgfclbfkkekkmaaW.PrintLast Go.Proofs.YtgfclbfkkekkmaaW.PrintMore Go.Proofs.Ytgfclbfkkekkmaa.Mth
set_option linter.unusedVariables false
set_option linter.unusedSimpArgs false
theorem spec_l00In_eq (a b c : Int) : spec_l00In.f a b c = some (decide (b ≤ a ∧ a ≤ c)) := by
  unfold spec_l00In.f; by_cases h : b ≤ a <;> simp [h]
theorem impl_within_eq (a b c : Int) : impl_within.f a b c = some (decide (b ≤ a ∧ a ≤ c)) := by
  unfold impl_within.f; by_cases h : b ≤ a <;> simp [h]
theorem spec_l00Floor_eq {a b : Int} (hb : 0 < b) (h : -9223372036854775808 ≤ a) (h' : a ≤ 9223372036854775807) : spec_l00Floor.f a b = some (a / b) := by
  unfold spec_l00Floor.f; exact floor_f hb h h'
theorem impl_floorDiv_eq {a b : Int} (hb : 0 < b) (h : -9223372036854775808 ≤ a) (h' : a ≤ 9223372036854775807) : impl_floorDiv.f a b = some (a / b) := by
  unfold impl_floorDiv.f; exact floor_f hb h h'
theorem spec_l00Round_eq {a b : Int} (hb : 0 < b) (hb' : b ≤ 4000000000000000000) (h : -4000000000000000000 ≤ a) (h' : a ≤ 2000000000000000000) : spec_l00Round.f a b = some (near a b) := by
  unfold spec_l00Round.f; rw [w64 (n := 2 * a) (by omega) (by omega), w64 (n := 2 * b) (by omega) (by omega), w64 (by omega) (by omega), spec_l00Floor_eq (by omega) (by omega) (by omega)]; rfl
theorem impl_nearest_eq {a b : Int} (hb : 0 < b) (hb' : b ≤ 4000000000000000000) (h : -4000000000000000000 ≤ a) (h' : a ≤ 2000000000000000000) : impl_nearest.f a b = some (near a b) := by
  unfold impl_nearest.f; rw [w64 (n := 2 * a) (by omega) (by omega), w64 (n := 2 * b) (by omega) (by omega), w64 (by omega) (by omega), impl_floorDiv_eq (by omega) (by omega) (by omega)]; rfl
theorem impl_isAround_eq (a : Int) : impl_isAround.f a = some (decide (arOk a)) := by
  unfold impl_isAround.f; rw [impl_within_eq]; rfl
theorem impl_isNorth_eq (a : Int) : impl_isNorth.f a = some (decide (northOk a)) := by
  unfold impl_isNorth.f; rw [impl_within_eq]; rfl
theorem spec_l06Arc_eq {n a : Int} (hn : arOk n) (ha : 0 ≤ a ∧ a ≤ 1296000) : spec_l06Arc.f n a = some (arcLen n a) := by
  have m := mul_nn_bd (x := n) (y := a) (X := 1000000) (Y := 1296000) (by omega) (by omega)
  unfold spec_l06Arc.f; rw [w64 (by omega) (by omega), spec_l00Round_eq (by omega) (by omega) (by omega) (by omega)]; rfl
theorem impl_arcLength_eq {n a : Int} (hn : arOk n) (ha : 0 ≤ a ∧ a ≤ 1296000) : impl_arcLength.f n a = some (arcLen n a) := by
  have m := mul_nn_bd (x := n) (y := a) (X := 1000000) (Y := 1296000) (by omega) (by omega)
  unfold impl_arcLength.f; rw [w64 (by omega) (by omega), impl_nearest_eq (by omega) (by omega) (by omega) (by omega)]; rfl
theorem spec_l06Code_eq (n l : Int) : spec_l06Code.f n l = some (if arOk n ∧ northOk l then 0 else 2) := by
  unfold spec_l06Code.f; simp only [spec_l00In_eq, Option.bind_some, decide_eq_true_eq]
  by_cases h : arOk n
  · by_cases g : northOk l
    · rw [if_pos h, if_pos g, if_pos ⟨h, g⟩]
    · rw [if_pos h, if_neg g, if_neg (fun e => g e.2)]
  · rw [if_neg h, if_neg (fun e => h e.1)]
theorem spec_CapRadius_eq (n l : Int) : spec_CapRadius.f n l = some (RCapRadius n l) := by
  unfold spec_CapRadius.f RCapRadius; simp only [spec_l06Code_eq, Option.bind_some]
  by_cases h : arOk n ∧ northOk l
  · rw [if_pos h, if_pos rfl, if_pos h, w64 (by omega) (by omega), spec_l06Arc_eq h.1 (by omega)]; rfl
  · rw [if_neg h, if_neg (by omega), if_neg h]
theorem impl_CapRadius_eq (n l : Int) : impl_CapRadius.f n l = some (RCapRadius n l) := by
  unfold impl_CapRadius.f RCapRadius; simp only [impl_isAround_eq, impl_isNorth_eq, Option.bind_some, decide_eq_true_eq]
  by_cases h : arOk n
  · by_cases g : northOk l
    · rw [if_pos h, if_pos g, if_pos ⟨h, g⟩, w64 (by omega) (by omega), impl_arcLength_eq h (by omega)]; rfl
    · rw [if_pos h, if_neg g, if_neg (fun e => g e.2)]
  · rw [if_neg h, if_neg (fun e => h e.1)]
end FnExactCapRadiusB
open Go.RowKit Go.Proofs.Ytgfclbfkkekkmaa.PFnExactCapRadius Go.Proofs.YtgfclbfkkekkmaaW.PrintWords Go.Proofs.YtgfclbfkkekkmaaW.PrintLast Go.Proofs.YtgfclbfkkekkmaaW.PrintMore Go.Proofs.Ytgfclbfkkekkmaa.Mth FnExactCapRadiusB
set_option linter.unusedVariables false in
set_option linter.unusedSimpArgs false in
theorem FnExactCapRadius : laws_FnExactCapRadius.Pure := by
  intro a0 a1 w0 w1
  unfold laws_FnExactCapRadius.f
  rw [spec_CapRadius_eq, impl_CapRadius_eq]; simp
end Go.Proofs.Ytgfclbfkkekkmaa.Pure
