/- Contracts of the program's functions on gores, discs and rims. Conditions: as stated. -/
import Derived.Test.YtjmciajeimhigaaConA
import Derived.Test.YtjmciajeimhigaaMgo
import Derived.LoopTactic
namespace Go.Proofs.Ytjmciajeimhigaa.Con
open Go.RowKit Go.Proofs.YtjmciajeimhigaaW.PrintWords Go.Proofs.YtjmciajeimhigaaW.PrintLast Go.Proofs.YtjmciajeimhigaaW.PrintMore Go.Proofs.Ytjmciajeimhigaa.Mth
attribute [local go_sem] max2_int min2_int max_two min_two max_three min_three
set_option linter.unusedVariables false
set_option linter.unusedSimpArgs false
theorem impl_isAround_c {a : Int} {r : Bool} (w : World) (hr : decide (arOk a) = r) : Calls Try.prog 71 #[.int .i64 a] w fun e w' => e = .returned (.bool (r)) ∧ Drawn0 w w' := by
  go_enter Try.func71, Try.ntmps71
  go_wp2_with (first | (go_at_call 58; (with_reducible refine (impl_within_c a _ _ _).mono ?_); rintro e w' ⟨rfl, ⟨nd, rfl⟩⟩))
  go_ret
  exact ⟨by subst hr; rfl, by repeat (first | exact Drawn0.refl _ | apply Drawn0.step)⟩
theorem impl_isRadius_c {a : Int} {r : Bool} (w : World) (hr : decide (radOk a) = r) : Calls Try.prog 55 #[.int .i64 a] w fun e w' => e = .returned (.bool (r)) ∧ Drawn0 w w' := by
  go_enter Try.func55, Try.ntmps55
  go_wp2_with (first | (go_at_call 58; (with_reducible refine (impl_within_c a _ _ _).mono ?_); rintro e w' ⟨rfl, ⟨nd, rfl⟩⟩))
  go_ret
  exact ⟨by subst hr; rfl, by repeat (first | exact Drawn0.refl _ | apply Drawn0.step)⟩
theorem impl_isBreadth_c {a : Int} {r : Bool} (w : World) (hr : decide (brOk a) = r) : Calls Try.prog 56 #[.int .i64 a] w fun e w' => e = .returned (.bool (r)) ∧ Drawn0 w w' := by
  go_enter Try.func56, Try.ntmps56
  go_wp2_with (first | (go_at_call 58; (with_reducible refine (impl_within_c a _ _ _).mono ?_); rintro e w' ⟨rfl, ⟨nd, rfl⟩⟩))
  go_ret
  exact ⟨by subst hr; rfl, by repeat (first | exact Drawn0.refl _ | apply Drawn0.step)⟩
theorem impl_isPaper_c {a : Int} {r : Bool} (w : World) (hr : decide (papOk a) = r) : Calls Try.prog 80 #[.int .i64 a] w fun e w' => e = .returned (.bool (r)) ∧ Drawn0 w w' := by
  go_enter Try.func80, Try.ntmps80
  go_wp2_with (first | (go_at_call 58; (with_reducible refine (impl_within_c a _ _ _).mono ?_); rintro e w' ⟨rfl, ⟨nd, rfl⟩⟩))
  go_ret
  exact ⟨by subst hr; rfl, by repeat (first | exact Drawn0.refl _ | apply Drawn0.step)⟩
theorem impl_isLatStep_c {a : Int} {r : Bool} (w : World) (hr : decide (lstepOk a) = r) : Calls Try.prog 72 #[.int .i64 a] w fun e w' => e = .returned (.bool (r)) ∧ Drawn0 w w' := by
  go_enter Try.func72, Try.ntmps72
  go_wp2_with (first | (go_at_call 58; (with_reducible refine (impl_within_c a _ _ _).mono ?_); rintro e w' ⟨rfl, ⟨nd, rfl⟩⟩))
  go_ret
  exact ⟨by subst hr; rfl, by repeat (first | exact Drawn0.refl _ | apply Drawn0.step)⟩
theorem impl_check_tt (w : World) : Calls Try.prog 69 #[.bool true, .bool true] w fun e w' => e = .returned (.int .i64 0) ∧ Drawn0 w w' := by
  go_enter Try.func69, Try.ntmps69
  go_wp2
  go_ret
  exact ⟨rfl, by repeat (first | exact Drawn0.refl _ | apply Drawn0.step)⟩
theorem impl_check_tf (w : World) : Calls Try.prog 69 #[.bool true, .bool false] w fun e w' => e = .returned (.int .i64 2) ∧ Drawn0 w w' := by
  go_enter Try.func69, Try.ntmps69
  go_wp2
  go_ret
  exact ⟨rfl, by repeat (first | exact Drawn0.refl _ | apply Drawn0.step)⟩
theorem impl_check_f {q : Bool} (w : World) : Calls Try.prog 69 #[.bool false, .bool q] w fun e w' => e = .returned (.int .i64 1) ∧ Drawn0 w w' := by
  go_enter Try.func69, Try.ntmps69
  go_wp2
  go_ret
  exact ⟨rfl, by repeat (first | exact Drawn0.refl _ | apply Drawn0.step)⟩
theorem impl_ValidGores_c {g : Int} {r : Bool} (w : World) (hr : decide (gOk g) = r) : Calls Try.prog 70 #[.int .i64 g] w fun e w' => e = .returned (.bool (r)) ∧ Drawn0 w w' := by
  rcases dec (6 ≤ g ∧ g ≤ 48) with ⟨h, b⟩ | ⟨h, b⟩
  · have hz : (g == 0) = false := by simp; omega
    have hq : Int.tmod 1296000 g = 1296000 % g := tmod_nn (by decide)
    have f := Aside0.mk (show decide (1296000 % g = 0) = r by rw [← hr]; simp [gOk, h])
    clear hr
    go_enter Try.func70, Try.ntmps70
    go_wp2_with (first | (go_at_call 58; (with_reducible refine (impl_within_d _ b.out).mono ?_); rintro e w' ⟨rfl, ⟨nd, rfl⟩⟩))
    go_ret
    exact ⟨by have f := f.out; subst f; first | rfl | (simp; done) | (simp [Int.beq_eq_decide_eq]; done) | (congr 2), by repeat (first | exact Drawn0.refl _ | apply Drawn0.step)⟩
  · have f := Aside0.mk (show r = false by rw [← hr]; simp [gOk, h])
    clear hr h
    go_enter Try.func70, Try.ntmps70
    go_wp2_with (first | (go_at_call 58; (with_reducible refine (impl_within_d _ b.out).mono ?_); rintro e w' ⟨rfl, ⟨nd, rfl⟩⟩))
    go_ret
    exact ⟨by rw [f.out]; rfl, by repeat (first | exact Drawn0.refl _ | apply Drawn0.step)⟩
theorem spec_l04Ok_c {g : Int} {r : Bool} (w : World) (hr : decide (gOk g) = r) : Calls Try.prog 77 #[.int .i64 g] w fun e w' => e = .returned (.bool (r)) ∧ Drawn0 w w' := by
  rcases dec (6 ≤ g ∧ g ≤ 48) with ⟨h, b⟩ | ⟨h, b⟩
  · have hz : (g == 0) = false := by simp; omega
    have hq : Int.tmod 1296000 g = 1296000 % g := tmod_nn (by decide)
    have f := Aside0.mk (show decide (1296000 % g = 0) = r by rw [← hr]; simp [gOk, h])
    clear hr
    go_enter Try.func77, Try.ntmps77
    go_wp2_with (first | (go_at_call 92; (with_reducible refine (spec_l00In_d _ b.out).mono ?_); rintro e w' ⟨rfl, ⟨nd, rfl⟩⟩))
    go_ret
    exact ⟨by have f := f.out; subst f; first | rfl | (simp; done) | (simp [Int.beq_eq_decide_eq]; done) | (congr 2), by repeat (first | exact Drawn0.refl _ | apply Drawn0.step)⟩
  · have f := Aside0.mk (show r = false by rw [← hr]; simp [gOk, h])
    clear hr h
    go_enter Try.func77, Try.ntmps77
    go_wp2_with (first | (go_at_call 92; (with_reducible refine (spec_l00In_d _ b.out).mono ?_); rintro e w' ⟨rfl, ⟨nd, rfl⟩⟩))
    go_ret
    exact ⟨by rw [f.out]; rfl, by repeat (first | exact Drawn0.refl _ | apply Drawn0.step)⟩
end Go.Proofs.Ytjmciajeimhigaa.Con
