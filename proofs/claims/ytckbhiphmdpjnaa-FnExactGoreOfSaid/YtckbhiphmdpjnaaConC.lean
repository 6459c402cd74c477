/- Contracts of the program's functions on gores, discs and rims. Conditions: as stated. -/
import Derived.Test.YtckbhiphmdpjnaaConA
import Derived.Test.YtckbhiphmdpjnaaMgo
import Derived.LoopTactic
namespace Go.Proofs.Ytckbhiphmdpjnaa.Con
open Go.RowKit Go.Proofs.YtckbhiphmdpjnaaW.PrintWords Go.Proofs.YtckbhiphmdpjnaaW.PrintLast Go.Proofs.YtckbhiphmdpjnaaW.PrintMore Go.Proofs.Ytckbhiphmdpjnaa.Mth
attribute [local go_sem] max2_int min2_int max_two min_two max_three min_three
set_option linter.unusedVariables false
set_option linter.unusedSimpArgs false
theorem impl_isAround_c {a : Int} {r : Bool} (w : World) (hr : decide (arOk a) = r) : Calls Try.prog 67 #[.int .i64 a] w fun e w' => e = .returned (.bool (r)) ∧ Drawn0 w w' := by
  go_enter Try.func67, Try.ntmps67
  go_wp2_with (first | (go_at_call 59; (with_reducible refine (impl_within_c a _ _ _).mono ?_); rintro e w' ⟨rfl, ⟨nd, rfl⟩⟩))
  go_ret
  exact ⟨by subst hr; rfl, by repeat (first | exact Drawn0.refl _ | apply Drawn0.step)⟩
theorem impl_isNorth_c {a : Int} {r : Bool} (w : World) (hr : decide (northOk a) = r) : Calls Try.prog 68 #[.int .i64 a] w fun e w' => e = .returned (.bool (r)) ∧ Drawn0 w w' := by
  go_enter Try.func68, Try.ntmps68
  go_wp2_with (first | (go_at_call 59; (with_reducible refine (impl_within_c a _ _ _).mono ?_); rintro e w' ⟨rfl, ⟨nd, rfl⟩⟩))
  go_ret
  exact ⟨by subst hr; rfl, by repeat (first | exact Drawn0.refl _ | apply Drawn0.step)⟩
theorem impl_isRadius_c {a : Int} {r : Bool} (w : World) (hr : decide (radOk a) = r) : Calls Try.prog 69 #[.int .i64 a] w fun e w' => e = .returned (.bool (r)) ∧ Drawn0 w w' := by
  go_enter Try.func69, Try.ntmps69
  go_wp2_with (first | (go_at_call 59; (with_reducible refine (impl_within_c a _ _ _).mono ?_); rintro e w' ⟨rfl, ⟨nd, rfl⟩⟩))
  go_ret
  exact ⟨by subst hr; rfl, by repeat (first | exact Drawn0.refl _ | apply Drawn0.step)⟩
theorem spec_l03Step_c {a : Int} {r : Bool} (w : World) (hr : decide (stepOk a) = r) : Calls Try.prog 74 #[.int .i64 a] w fun e w' => e = .returned (.bool (r)) ∧ Drawn0 w w' := by
  go_enter Try.func74, Try.ntmps74
  go_wp2_with (first | (go_at_call 65; (with_reducible refine (spec_l00In_c a _ _ _).mono ?_); rintro e w' ⟨rfl, ⟨nd, rfl⟩⟩))
  go_ret
  exact ⟨by subst hr; rfl, by repeat (first | exact Drawn0.refl _ | apply Drawn0.step)⟩
theorem impl_check_tt (w : World) : Calls Try.prog 47 #[.bool true, .bool true] w fun e w' => e = .returned (.int .i64 0) ∧ Drawn0 w w' := by
  go_enter Try.func47, Try.ntmps47
  go_wp2
  go_ret
  exact ⟨rfl, by repeat (first | exact Drawn0.refl _ | apply Drawn0.step)⟩
theorem impl_check_tf (w : World) : Calls Try.prog 47 #[.bool true, .bool false] w fun e w' => e = .returned (.int .i64 2) ∧ Drawn0 w w' := by
  go_enter Try.func47, Try.ntmps47
  go_wp2
  go_ret
  exact ⟨rfl, by repeat (first | exact Drawn0.refl _ | apply Drawn0.step)⟩
theorem impl_check_f {q : Bool} (w : World) : Calls Try.prog 47 #[.bool false, .bool q] w fun e w' => e = .returned (.int .i64 1) ∧ Drawn0 w w' := by
  go_enter Try.func47, Try.ntmps47
  go_wp2
  go_ret
  exact ⟨rfl, by repeat (first | exact Drawn0.refl _ | apply Drawn0.step)⟩
theorem impl_ValidGores_c {g : Int} {r : Bool} (w : World) (hr : decide (gOk g) = r) : Calls Try.prog 48 #[.int .i64 g] w fun e w' => e = .returned (.bool (r)) ∧ Drawn0 w w' := by
  rcases dec (6 ≤ g ∧ g ≤ 48) with ⟨h, b⟩ | ⟨h, b⟩
  · have hz : (g == 0) = false := by simp; omega
    have hq : Int.tmod 1296000 g = 1296000 % g := tmod_nn (by decide)
    have f := Aside0.mk (show decide (1296000 % g = 0) = r by rw [← hr]; simp [gOk, h])
    clear hr
    go_enter Try.func48, Try.ntmps48
    go_wp2_with (first | (go_at_call 59; (with_reducible refine (impl_within_d _ b.out).mono ?_); rintro e w' ⟨rfl, ⟨nd, rfl⟩⟩))
    go_ret
    exact ⟨by have f := f.out; subst f; first | rfl | (simp; done) | (simp [Int.beq_eq_decide_eq]; done) | (congr 2), by repeat (first | exact Drawn0.refl _ | apply Drawn0.step)⟩
  · have f := Aside0.mk (show r = false by rw [← hr]; simp [gOk, h])
    clear hr h
    go_enter Try.func48, Try.ntmps48
    go_wp2_with (first | (go_at_call 59; (with_reducible refine (impl_within_d _ b.out).mono ?_); rintro e w' ⟨rfl, ⟨nd, rfl⟩⟩))
    go_ret
    exact ⟨by rw [f.out]; rfl, by repeat (first | exact Drawn0.refl _ | apply Drawn0.step)⟩
theorem spec_l04Ok_c {g : Int} {r : Bool} (w : World) (hr : decide (gOk g) = r) : Calls Try.prog 44 #[.int .i64 g] w fun e w' => e = .returned (.bool (r)) ∧ Drawn0 w w' := by
  rcases dec (6 ≤ g ∧ g ≤ 48) with ⟨h, b⟩ | ⟨h, b⟩
  · have hz : (g == 0) = false := by simp; omega
    have hq : Int.tmod 1296000 g = 1296000 % g := tmod_nn (by decide)
    have f := Aside0.mk (show decide (1296000 % g = 0) = r by rw [← hr]; simp [gOk, h])
    clear hr
    go_enter Try.func44, Try.ntmps44
    go_wp2_with (first | (go_at_call 65; (with_reducible refine (spec_l00In_d _ b.out).mono ?_); rintro e w' ⟨rfl, ⟨nd, rfl⟩⟩))
    go_ret
    exact ⟨by have f := f.out; subst f; first | rfl | (simp; done) | (simp [Int.beq_eq_decide_eq]; done) | (congr 2), by repeat (first | exact Drawn0.refl _ | apply Drawn0.step)⟩
  · have f := Aside0.mk (show r = false by rw [← hr]; simp [gOk, h])
    clear hr h
    go_enter Try.func44, Try.ntmps44
    go_wp2_with (first | (go_at_call 65; (with_reducible refine (spec_l00In_d _ b.out).mono ?_); rintro e w' ⟨rfl, ⟨nd, rfl⟩⟩))
    go_ret
    exact ⟨by rw [f.out]; rfl, by repeat (first | exact Drawn0.refl _ | apply Drawn0.step)⟩
end Go.Proofs.Ytckbhiphmdpjnaa.Con
