/- Contracts of the program's functions on whole numbers: each returns what the named Lean function tells, for arguments in the stated bounds. -/
import Derived.Test.YthedepnndgemeaaDoorMth
import Derived.Test.YthedepnndgemeaaDoorProg
import Derived.WalkKit
import Derived.WalkSpells
import Derived.Deep.QuietTactic
import Derived.BigQuiet
import Derived.Outline
import Derived.Deep.DeepCutAuto
namespace Go.Proofs.YthedepnndgemeaaDoor.Con
open Go.RowKit Go.Proofs.YthedepnndgemeaaDoorW.PrintWords Go.Proofs.YthedepnndgemeaaDoorW.PrintLast Go.Proofs.YthedepnndgemeaaDoorW.PrintMore Go.Proofs.YthedepnndgemeaaDoor.Mth
attribute [local go_sem] max2_int min2_int max_two min_two max_three min_three
set_option linter.unusedVariables false
set_option linter.unusedSimpArgs false
theorem ret_int {k : IntKind} {a b : Int} (h : a = b) : Ending.returned (.int k a) = .returned (.int k b) := by rw [h]
theorem ret_two {k : IntKind} {a b c d : Int} (h : (a, c) = (b, d)) : Ending.returned (.tuple #[.int k a, .int k c]) = .returned (.tuple #[.int k b, .int k d]) := by cases h; rfl
theorem quiet0 {P : Program} {f : FuncId} {args : Array Value} {w : World} {n : Nat} {v : Value}
    (h : Calls P f args (w.drewN n) fun e w' => e = .returned v ∧ Drawn0 (w.drewN n) w') : Calls P f args (w.drewN n) fun e w'' => e = .returned v ∧ ∃ m, w'' = w.drewN m :=
  Calls.quiet_of (h.mono fun _ _ ⟨he, ⟨hm⟩⟩ => ⟨he, hm⟩)
theorem pair_eq {a b : Int} {p : Int × Int} (h : p = (a, b)) : Ending.returned (.tuple #[.int .i64 a, .int .i64 b]) = .returned (.tuple #[.int .i64 p.1, .int .i64 p.2]) := by rw [h]
theorem dec (p : Prop) [Decidable p] : (p ∧ Aside0 (decide p = true)) ∨ (¬ p ∧ Aside0 (decide p = false)) := by
  by_cases h : p
  · exact Or.inl ⟨h, Aside0.mk (decide_eq_true h)⟩
  · exact Or.inr ⟨h, Aside0.mk (decide_eq_false h)⟩
theorem impl_within_c (a b c : Int) (w : World) : Calls Tryd.prog 31 #[.int .i64 a, .int .i64 b, .int .i64 c] w fun e w' => e = .returned (.bool (decide (b ≤ a ∧ a ≤ c))) ∧ Drawn0 w w' := by
  by_cases h : b ≤ a
  all_goals
    go_enter Tryd.func31, Tryd.ntmps31
    go_wp2
    go_ret
    exact ⟨by simp; omega, Drawn0.refl _⟩
theorem impl_within_d {a b c : Int} {r : Bool} (w : World) (hr : decide (b ≤ a ∧ a ≤ c) = r) : Calls Tryd.prog 31 #[.int .i64 a, .int .i64 b, .int .i64 c] w fun e w' => e = .returned (.bool (r)) ∧ Drawn0 w w' := by
  subst hr; exact impl_within_c a b c w
theorem spec_l00In_c (a b c : Int) (w : World) : Calls Tryd.prog 27 #[.int .i64 a, .int .i64 b, .int .i64 c] w fun e w' => e = .returned (.bool (decide (b ≤ a ∧ a ≤ c))) ∧ Drawn0 w w' := by
  by_cases h : b ≤ a
  all_goals
    go_enter Tryd.func27, Tryd.ntmps27
    go_wp2
    go_ret
    exact ⟨by simp; omega, Drawn0.refl _⟩
theorem spec_l00In_d {a b c : Int} {r : Bool} (w : World) (hr : decide (b ≤ a ∧ a ≤ c) = r) : Calls Tryd.prog 27 #[.int .i64 a, .int .i64 b, .int .i64 c] w fun e w' => e = .returned (.bool (r)) ∧ Drawn0 w w' := by
  subst hr; exact spec_l00In_c a b c w
end Go.Proofs.YthedepnndgemeaaDoor.Con
