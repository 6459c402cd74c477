/- What FnExactCapEdge's printed functions come to, and that the law answers true: for every input of its kinds. Conditions: none beyond the printed bounds. -/
import Derived.Test.YtgfclbfkkekkmaaPFnExactCapEdgex1
import Derived.Test.YtgfclbfkkekkmaaMth
namespace Go.Proofs.Ytgfclbfkkekkmaa.Pure
namespace FnExactCapEdgeB
open Go.RowKit Go.Proofs.Ytgfclbfkkekkmaa.PFnExactCapEdge Go.Proofs.YtgfclbfkkekkmaaW.PrintWords Go.Proofs.YtgfclbfkkekkmaaW.PrintLast Go.Proofs.YtgfclbfkkekkmaaW.PrintMore Go.Proofs.Ytgfclbfkkekkmaa.Mth
set_option linter.unusedVariables false
set_option linter.unusedSimpArgs false
theorem spec_l00In_eq (a b c : Int) : spec_l00In.f a b c = some (decide (b ≤ a ∧ a ≤ c)) := by
  unfold spec_l00In.f; by_cases h : b ≤ a <;> simp [h]
theorem impl_within_eq (a b c : Int) : impl_within.f a b c = some (decide (b ≤ a ∧ a ≤ c)) := by
  unfold impl_within.f; by_cases h : b ≤ a <;> simp [h]
theorem impl_isAround_eq (a : Int) : impl_isAround.f a = some (decide (arOk a)) := by
  unfold impl_isAround.f; rw [impl_within_eq]; rfl
theorem impl_isRadius_eq (a : Int) : impl_isRadius.f a = some (decide (radOk a)) := by
  unfold impl_isRadius.f; rw [impl_within_eq]; rfl
theorem spec_l06Radius_eq {k : Nat} (hk : 60 ≤ k) (n r : Int) : spec_l06Radius.f k n r = some (discC n r True) := by
  obtain ⟨k, rfl⟩ : ∃ m, k = m + 1 := ⟨k - 1, by omega⟩
  unfold spec_l06Radius.f discC; simp only [spec_l00In_eq, Option.bind_some, decide_eq_true_eq, spec_l06Radius.j0, Bool.not_eq_true', decide_eq_false_iff_not, if_true]
  by_cases h : arOk n
  · by_cases g : radOk r
    · rw [if_pos h, if_neg (fun e => e g), if_pos (show arOk n ∧ radOk r ∧ True from ⟨h, g, trivial⟩), w64 (by omega) (by omega)]; split <;> simp_all
    · rw [if_pos h, if_pos g, if_neg (fun e => g e.2.1)]
  · rw [if_neg h, if_neg (fun e => h e.1)]
theorem impl_discCode_eq {k : Nat} (hk : 60 ≤ k) (n r : Int) (ok : Prop) [Decidable ok] : impl_discCode.f k n r (decide ok) = some (discC n r ok) := by
  obtain ⟨k, rfl⟩ : ∃ m, k = m + 1 := ⟨k - 1, by omega⟩
  unfold impl_discCode.f discC; simp only [impl_isAround_eq, impl_isRadius_eq, Option.bind_some, decide_eq_true_eq, impl_discCode.j0, Bool.not_eq_true', decide_eq_false_iff_not, if_true]
  by_cases h : arOk n
  · by_cases g : radOk r
    · by_cases o : ok
      · rw [if_pos h, if_pos g, if_neg (fun e => e o), if_pos (show arOk n ∧ radOk r ∧ ok from ⟨h, g, o⟩), w64 (by omega) (by omega)]; split <;> simp_all
      · rw [if_pos h, if_pos g, if_pos o, if_neg (fun e => o e.2.2)]
    · rw [if_pos h, if_neg g, if_neg (fun e => g e.2.1)]
  · rw [if_neg h, if_neg (fun e => h e.1)]
theorem impl_discCode_true {k : Nat} (hk : 60 ≤ k) (n r : Int) : impl_discCode.f k n r true = some (discC n r True) := by
  have := impl_discCode_eq hk n r True; simpa using this
theorem spec_l06Edge_eq {n r : Int} (hn : arOk n) (hr : radOk r) (h : 4 * r ≤ n) : spec_l06Edge.f n r = some (edge n r) := by
  have q0 : 0 ≤ r * 1296000 / n := Int.ediv_nonneg (by omega) (by omega)
  have q1 := Int.ediv_le_self n (show 0 ≤ r * 1296000 by omega)
  unfold spec_l06Edge.f; rw [if_neg (by omega), w64 (n := r * 1296000) (by omega) (by omega), tdiv_nn (by omega), w64 (n := r * 1296000 / n) (by omega) (by omega), w64 (by omega) (by omega)]; rfl
theorem impl_capEdge_eq {n r : Int} (hn : arOk n) (hr : radOk r) (h : 4 * r ≤ n) : impl_capEdge.f n r = some (edge n r) := by
  have q0 : 0 ≤ r * 1296000 / n := Int.ediv_nonneg (by omega) (by omega)
  have q1 := Int.ediv_le_self n (show 0 ≤ r * 1296000 by omega)
  unfold impl_capEdge.f; rw [if_neg (by omega), w64 (n := r * 1296000) (by omega) (by omega), tdiv_nn (by omega), w64 (n := r * 1296000 / n) (by omega) (by omega), w64 (by omega) (by omega)]; rfl
theorem spec_CapEdge_eq {k : Nat} (hk : 60 ≤ k) (n r : Int) : spec_CapEdge.f k n r = some (RCapEdge n r) := by
  unfold spec_CapEdge.f RCapEdge; simp only [spec_l06Radius_eq hk, Option.bind_some]
  by_cases h : discC n r True = 0
  · obtain ⟨a, b, c⟩ := discC_0 h
    rw [if_pos h, if_pos h, spec_l06Edge_eq a b c.1]; rfl
  · rw [if_neg h, if_neg h]
theorem impl_CapEdge_eq {k : Nat} (hk : 60 ≤ k) (n r : Int) : impl_CapEdge.f k n r = some (RCapEdge n r) := by
  unfold impl_CapEdge.f RCapEdge; simp only [impl_discCode_true hk, Option.bind_some]
  by_cases h : discC n r True = 0
  · obtain ⟨a, b, c⟩ := discC_0 h
    rw [if_pos h, if_pos h, impl_capEdge_eq a b c.1]; rfl
  · rw [if_neg h, if_neg h]
end FnExactCapEdgeB
open Go.RowKit Go.Proofs.Ytgfclbfkkekkmaa.PFnExactCapEdge Go.Proofs.YtgfclbfkkekkmaaW.PrintWords Go.Proofs.YtgfclbfkkekkmaaW.PrintLast Go.Proofs.YtgfclbfkkekkmaaW.PrintMore Go.Proofs.Ytgfclbfkkekkmaa.Mth FnExactCapEdgeB
set_option linter.unusedVariables false in
set_option linter.unusedSimpArgs false in
theorem FnExactCapEdge : laws_FnExactCapEdge.Pure := by
  intro a0 a1 w0 w1
  refine ⟨60, ?_⟩
  unfold laws_FnExactCapEdge.f
  rw [spec_CapEdge_eq (by omega), impl_CapEdge_eq (by omega)]; simp
end Go.Proofs.Ytgfclbfkkekkmaa.Pure
