/- Contracts of the program's functions on gores, discs and rims. Conditions: as stated. -/
import Derived.Test.YtgfclbfkkekkmaaConA
import Derived.Test.YtgfclbfkkekkmaaMgo
import Derived.LoopTactic
namespace Go.Proofs.Ytgfclbfkkekkmaa.Con
open Go.RowKit Go.Proofs.YtgfclbfkkekkmaaW.PrintWords Go.Proofs.YtgfclbfkkekkmaaW.PrintLast Go.Proofs.YtgfclbfkkekkmaaW.PrintMore Go.Proofs.Ytgfclbfkkekkmaa.Mth
attribute [local go_sem] max2_int min2_int max_two min_two max_three min_three
set_option linter.unusedVariables false
set_option linter.unusedSimpArgs false
theorem impl_isAround_c {a : Int} {r : Bool} (w : World) (hr : decide (arOk a) = r) : Calls Try.prog 57 #[.int .i64 a] w fun e w' => e = .returned (.bool (r)) ∧ Drawn0 w w' := by
  go_enter Try.func57, Try.ntmps57
  go_wp2_with (first | (go_at_call 43; (with_reducible refine (impl_within_c a _ _ _).mono ?_); rintro e w' ⟨rfl, ⟨nd, rfl⟩⟩))
  go_ret
  exact ⟨by subst hr; rfl, by repeat (first | exact Drawn0.refl _ | apply Drawn0.step)⟩
theorem impl_isNorth_c {a : Int} {r : Bool} (w : World) (hr : decide (northOk a) = r) : Calls Try.prog 64 #[.int .i64 a] w fun e w' => e = .returned (.bool (r)) ∧ Drawn0 w w' := by
  go_enter Try.func64, Try.ntmps64
  go_wp2_with (first | (go_at_call 43; (with_reducible refine (impl_within_c a _ _ _).mono ?_); rintro e w' ⟨rfl, ⟨nd, rfl⟩⟩))
  go_ret
  exact ⟨by subst hr; rfl, by repeat (first | exact Drawn0.refl _ | apply Drawn0.step)⟩
theorem impl_isRadius_c {a : Int} {r : Bool} (w : World) (hr : decide (radOk a) = r) : Calls Try.prog 75 #[.int .i64 a] w fun e w' => e = .returned (.bool (r)) ∧ Drawn0 w w' := by
  go_enter Try.func75, Try.ntmps75
  go_wp2_with (first | (go_at_call 43; (with_reducible refine (impl_within_c a _ _ _).mono ?_); rintro e w' ⟨rfl, ⟨nd, rfl⟩⟩))
  go_ret
  exact ⟨by subst hr; rfl, by repeat (first | exact Drawn0.refl _ | apply Drawn0.step)⟩
theorem impl_check_tt (w : World) : Calls Try.prog 50 #[.bool true, .bool true] w fun e w' => e = .returned (.int .i64 0) ∧ Drawn0 w w' := by
  go_enter Try.func50, Try.ntmps50
  go_wp2
  go_ret
  exact ⟨rfl, by repeat (first | exact Drawn0.refl _ | apply Drawn0.step)⟩
theorem impl_check_tf (w : World) : Calls Try.prog 50 #[.bool true, .bool false] w fun e w' => e = .returned (.int .i64 2) ∧ Drawn0 w w' := by
  go_enter Try.func50, Try.ntmps50
  go_wp2
  go_ret
  exact ⟨rfl, by repeat (first | exact Drawn0.refl _ | apply Drawn0.step)⟩
theorem impl_check_f {q : Bool} (w : World) : Calls Try.prog 50 #[.bool false, .bool q] w fun e w' => e = .returned (.int .i64 1) ∧ Drawn0 w w' := by
  go_enter Try.func50, Try.ntmps50
  go_wp2
  go_ret
  exact ⟨rfl, by repeat (first | exact Drawn0.refl _ | apply Drawn0.step)⟩
theorem impl_ValidGores_c {g : Int} {r : Bool} (w : World) (hr : decide (gOk g) = r) : Calls Try.prog 16 #[.int .i64 g] w fun e w' => e = .returned (.bool (r)) ∧ Drawn0 w w' := by
  rcases dec (6 ≤ g ∧ g ≤ 48) with ⟨h, b⟩ | ⟨h, b⟩
  · have hz : (g == 0) = false := by simp; omega
    have hq : Int.tmod 1296000 g = 1296000 % g := tmod_nn (by decide)
    have f := Aside0.mk (show decide (1296000 % g = 0) = r by rw [← hr]; simp [gOk, h])
    clear hr
    go_enter Try.func16, Try.ntmps16
    go_wp2_with (first | (go_at_call 43; (with_reducible refine (impl_within_d _ b.out).mono ?_); rintro e w' ⟨rfl, ⟨nd, rfl⟩⟩))
    go_ret
    exact ⟨by have f := f.out; subst f; first | rfl | (simp; done) | (simp [Int.beq_eq_decide_eq]; done) | (congr 2), by repeat (first | exact Drawn0.refl _ | apply Drawn0.step)⟩
  · have f := Aside0.mk (show r = false by rw [← hr]; simp [gOk, h])
    clear hr h
    go_enter Try.func16, Try.ntmps16
    go_wp2_with (first | (go_at_call 43; (with_reducible refine (impl_within_d _ b.out).mono ?_); rintro e w' ⟨rfl, ⟨nd, rfl⟩⟩))
    go_ret
    exact ⟨by rw [f.out]; rfl, by repeat (first | exact Drawn0.refl _ | apply Drawn0.step)⟩
theorem spec_l04Ok_c {g : Int} {r : Bool} (w : World) (hr : decide (gOk g) = r) : Calls Try.prog 42 #[.int .i64 g] w fun e w' => e = .returned (.bool (r)) ∧ Drawn0 w w' := by
  rcases dec (6 ≤ g ∧ g ≤ 48) with ⟨h, b⟩ | ⟨h, b⟩
  · have hz : (g == 0) = false := by simp; omega
    have hq : Int.tmod 1296000 g = 1296000 % g := tmod_nn (by decide)
    have f := Aside0.mk (show decide (1296000 % g = 0) = r by rw [← hr]; simp [gOk, h])
    clear hr
    go_enter Try.func42, Try.ntmps42
    go_wp2_with (first | (go_at_call 45; (with_reducible refine (spec_l00In_d _ b.out).mono ?_); rintro e w' ⟨rfl, ⟨nd, rfl⟩⟩))
    go_ret
    exact ⟨by have f := f.out; subst f; first | rfl | (simp; done) | (simp [Int.beq_eq_decide_eq]; done) | (congr 2), by repeat (first | exact Drawn0.refl _ | apply Drawn0.step)⟩
  · have f := Aside0.mk (show r = false by rw [← hr]; simp [gOk, h])
    clear hr h
    go_enter Try.func42, Try.ntmps42
    go_wp2_with (first | (go_at_call 45; (with_reducible refine (spec_l00In_d _ b.out).mono ?_); rintro e w' ⟨rfl, ⟨nd, rfl⟩⟩))
    go_ret
    exact ⟨by rw [f.out]; rfl, by repeat (first | exact Drawn0.refl _ | apply Drawn0.step)⟩
theorem impl_GoreSpan_c {g : Int} (w : World) : Calls Try.prog 27 #[.int .i64 g] w fun e w' => e = .returned (.tuple #[.int .i64 (RGoreSpan g).1, .int .i64 (RGoreSpan g).2]) ∧ Drawn0 w w' := by
  rcases dec (gOk g) with ⟨h, b⟩ | ⟨h, b⟩
  · obtain ⟨s0, s1, _⟩ := gOk_span h
    have g0 : 6 ≤ g := h.1.1
    have hz : (g == 0) = false := by simp; omega
    have hq : Int.tdiv 1296000 g = 1296000 / g := tdiv_nn (by decide)
    have f := Aside0.mk (show RGoreSpan g = (1296000 / g, 0) from if_pos h)
    clear h
    go_enter Try.func27, Try.ntmps27
    go_wp2_with (first | (go_at_call 16; (with_reducible refine (impl_ValidGores_c _ b.out).mono ?_); rintro e w' ⟨rfl, ⟨nd, rfl⟩⟩) | (go_at_call 50; (with_reducible refine (impl_check_tt _).mono ?_); rintro e w' ⟨rfl, ⟨nd, rfl⟩⟩) | (go_at_call 50; (with_reducible refine (impl_check_tf _).mono ?_); rintro e w' ⟨rfl, ⟨nd, rfl⟩⟩) | (go_at_call 50; (with_reducible refine (impl_check_f _).mono ?_); rintro e w' ⟨rfl, ⟨nd, rfl⟩⟩))
    go_ret2
    exact ⟨pair_eq f.out, by repeat (first | exact Drawn0.refl _ | apply Drawn0.step)⟩
  · have f := Aside0.mk (show RGoreSpan g = (0, 1) from if_neg h)
    clear h
    go_enter Try.func27, Try.ntmps27
    go_wp2_with (first | (go_at_call 16; (with_reducible refine (impl_ValidGores_c _ b.out).mono ?_); rintro e w' ⟨rfl, ⟨nd, rfl⟩⟩) | (go_at_call 50; (with_reducible refine (impl_check_tt _).mono ?_); rintro e w' ⟨rfl, ⟨nd, rfl⟩⟩) | (go_at_call 50; (with_reducible refine (impl_check_tf _).mono ?_); rintro e w' ⟨rfl, ⟨nd, rfl⟩⟩) | (go_at_call 50; (with_reducible refine (impl_check_f _).mono ?_); rintro e w' ⟨rfl, ⟨nd, rfl⟩⟩))
    go_ret2
    exact ⟨pair_eq f.out, by repeat (first | exact Drawn0.refl _ | apply Drawn0.step)⟩
theorem spec_GoreSpan_c {g : Int} (w : World) : Calls Try.prog 26 #[.int .i64 g] w fun e w' => e = .returned (.tuple #[.int .i64 (RGoreSpan g).1, .int .i64 (RGoreSpan g).2]) ∧ Drawn0 w w' := by
  rcases dec (gOk g) with ⟨h, b⟩ | ⟨h, b⟩
  · obtain ⟨s0, s1, _⟩ := gOk_span h
    have g0 : 6 ≤ g := h.1.1
    have hz : (g == 0) = false := by simp; omega
    have hq : Int.tdiv 1296000 g = 1296000 / g := tdiv_nn (by decide)
    have f := Aside0.mk (show RGoreSpan g = (1296000 / g, 0) from if_pos h)
    clear h
    go_enter Try.func26, Try.ntmps26
    go_wp2_with (first | (go_at_call 42; (with_reducible refine (spec_l04Ok_c _ b.out).mono ?_); rintro e w' ⟨rfl, ⟨nd, rfl⟩⟩))
    go_ret2
    exact ⟨pair_eq f.out, by repeat (first | exact Drawn0.refl _ | apply Drawn0.step)⟩
  · have f := Aside0.mk (show RGoreSpan g = (0, 1) from if_neg h)
    clear h
    go_enter Try.func26, Try.ntmps26
    go_wp2_with (first | (go_at_call 42; (with_reducible refine (spec_l04Ok_c _ b.out).mono ?_); rintro e w' ⟨rfl, ⟨nd, rfl⟩⟩))
    go_ret2
    exact ⟨pair_eq f.out, by repeat (first | exact Drawn0.refl _ | apply Drawn0.step)⟩
theorem FnExactGoreSpan_c (a : Int) (w : World) (_ : (Lit.int .i64 a).wf = true) : Calls Try.prog 9 #[.int .i64 a] w fun e w' => e = .returned (.bool (true)) ∧ Drawn0 w w' := by
  go_enter Try.func9, Try.ntmps9
  go_wp2_with (first | (go_at_call 26; (with_reducible refine (spec_GoreSpan_c _).mono ?_); rintro e w' ⟨rfl, ⟨nd, rfl⟩⟩) | (go_at_call 27; (with_reducible refine (impl_GoreSpan_c _).mono ?_); rintro e w' ⟨rfl, ⟨nd, rfl⟩⟩))
  go_ret
  exact ⟨rfl, by repeat (first | exact Drawn0.refl _ | apply Drawn0.step)⟩
theorem impl_GoreMiddle_c {g k : Int} (w : World) : Calls Try.prog 39 #[.int .i64 g, .int .i64 k] w fun e w' => e = .returned (.tuple #[.int .i64 (RGoreMiddle g k).1, .int .i64 (RGoreMiddle g k).2]) ∧ Drawn0 w w' := by
  rcases dec (gOk g) with ⟨h, b⟩ | ⟨h, b⟩
  · rcases dec (0 ≤ k ∧ k ≤ g - 1) with ⟨hk, c⟩ | ⟨hk, c⟩
    · obtain ⟨s0, s1, _⟩ := gOk_span h
      have g2 : 6 ≤ g := h.1.1
      have g3 : g ≤ 48 := h.1.2
      have hz : (g == 0) = false := by simp; omega
      have hq : Int.tdiv 1296000 g = 1296000 / g := tdiv_nn (by decide)
      obtain ⟨m0, m1⟩ := mul_nn_bd (x := k) (y := 1296000 / g) (X := 48) (Y := 216000) (by omega) (by omega)
      have f := Aside0.mk (show RGoreMiddle g k = (W (k * (1296000 / g) + 1296000 / g / 2), 0) by unfold RGoreMiddle; rw [if_pos h, if_pos hk])
      clear h
      go_enter Try.func39, Try.ntmps39
      go_wp2_with (first | (go_at_call 16; (with_reducible refine (impl_ValidGores_c _ b.out).mono ?_); rintro e w' ⟨rfl, ⟨nd, rfl⟩⟩) | (go_at_call 43; (with_reducible refine (impl_within_d _ c.out).mono ?_); rintro e w' ⟨rfl, ⟨nd, rfl⟩⟩) | (go_at_call 50; (with_reducible refine (impl_check_tt _).mono ?_); rintro e w' ⟨rfl, ⟨nd, rfl⟩⟩) | (go_at_call 50; (with_reducible refine (impl_check_tf _).mono ?_); rintro e w' ⟨rfl, ⟨nd, rfl⟩⟩) | (go_at_call 50; (with_reducible refine (impl_check_f _).mono ?_); rintro e w' ⟨rfl, ⟨nd, rfl⟩⟩) | (go_at_call 49; (with_reducible refine (impl_wrap_c _ (by omega) (by omega)).mono ?_); rintro e w' ⟨rfl, ⟨nd, rfl⟩⟩))
      go_ret2
      exact ⟨pair_eq f.out, by repeat (first | exact Drawn0.refl _ | apply Drawn0.step)⟩
    · have g2 : 6 ≤ g := h.1.1
      have g3 : g ≤ 48 := h.1.2
      have hz : (g == 0) = false := by simp; omega
      have f := Aside0.mk (show RGoreMiddle g k = (0, 2) by unfold RGoreMiddle; rw [if_pos h, if_neg hk])
      clear h hk
      go_enter Try.func39, Try.ntmps39
      go_wp2_with (first | (go_at_call 16; (with_reducible refine (impl_ValidGores_c _ b.out).mono ?_); rintro e w' ⟨rfl, ⟨nd, rfl⟩⟩) | (go_at_call 43; (with_reducible refine (impl_within_d _ c.out).mono ?_); rintro e w' ⟨rfl, ⟨nd, rfl⟩⟩) | (go_at_call 50; (with_reducible refine (impl_check_tt _).mono ?_); rintro e w' ⟨rfl, ⟨nd, rfl⟩⟩) | (go_at_call 50; (with_reducible refine (impl_check_tf _).mono ?_); rintro e w' ⟨rfl, ⟨nd, rfl⟩⟩) | (go_at_call 50; (with_reducible refine (impl_check_f _).mono ?_); rintro e w' ⟨rfl, ⟨nd, rfl⟩⟩))
      go_ret2
      exact ⟨pair_eq f.out, by repeat (first | exact Drawn0.refl _ | apply Drawn0.step)⟩
  · have f := Aside0.mk (show RGoreMiddle g k = (0, 1) by unfold RGoreMiddle; rw [if_neg h])
    clear h
    go_enter Try.func39, Try.ntmps39
    go_wp2_with (first | (go_at_call 16; (with_reducible refine (impl_ValidGores_c _ b.out).mono ?_); rintro e w' ⟨rfl, ⟨nd, rfl⟩⟩) | (go_at_call 43; (with_reducible refine (impl_within_c k _ _ _).mono ?_); rintro e w' ⟨rfl, ⟨nd, rfl⟩⟩) | (go_at_call 50; (with_reducible refine (impl_check_tt _).mono ?_); rintro e w' ⟨rfl, ⟨nd, rfl⟩⟩) | (go_at_call 50; (with_reducible refine (impl_check_tf _).mono ?_); rintro e w' ⟨rfl, ⟨nd, rfl⟩⟩) | (go_at_call 50; (with_reducible refine (impl_check_f _).mono ?_); rintro e w' ⟨rfl, ⟨nd, rfl⟩⟩))
    go_ret2
    exact ⟨pair_eq f.out, by repeat (first | exact Drawn0.refl _ | apply Drawn0.step)⟩
theorem spec_GoreMiddle_c {g k : Int} (w : World) : Calls Try.prog 38 #[.int .i64 g, .int .i64 k] w fun e w' => e = .returned (.tuple #[.int .i64 (RGoreMiddle g k).1, .int .i64 (RGoreMiddle g k).2]) ∧ Drawn0 w w' := by
  rcases dec (gOk g) with ⟨h, b⟩ | ⟨h, b⟩
  · rcases dec (0 ≤ k ∧ k ≤ g - 1) with ⟨hk, c⟩ | ⟨hk, c⟩
    · obtain ⟨s0, s1, _⟩ := gOk_span h
      have g2 : 6 ≤ g := h.1.1
      have g3 : g ≤ 48 := h.1.2
      have hz : (g == 0) = false := by simp; omega
      have hq : Int.tdiv 1296000 g = 1296000 / g := tdiv_nn (by decide)
      obtain ⟨m0, m1⟩ := mul_nn_bd (x := k) (y := 1296000 / g) (X := 48) (Y := 216000) (by omega) (by omega)
      have f := Aside0.mk (show RGoreMiddle g k = (W (k * (1296000 / g) + 1296000 / g / 2), 0) by unfold RGoreMiddle; rw [if_pos h, if_pos hk])
      clear h
      go_enter Try.func38, Try.ntmps38
      go_wp2_with (first | (go_at_call 42; (with_reducible refine (spec_l04Ok_c _ b.out).mono ?_); rintro e w' ⟨rfl, ⟨nd, rfl⟩⟩) | (go_at_call 45; (with_reducible refine (spec_l00In_d _ c.out).mono ?_); rintro e w' ⟨rfl, ⟨nd, rfl⟩⟩) | (go_at_call 47; (with_reducible refine (spec_l02Wrap_c _ (by omega) (by omega)).mono ?_); rintro e w' ⟨rfl, ⟨nd, rfl⟩⟩))
      go_ret2
      exact ⟨pair_eq f.out, by repeat (first | exact Drawn0.refl _ | apply Drawn0.step)⟩
    · have g2 : 6 ≤ g := h.1.1
      have g3 : g ≤ 48 := h.1.2
      have hz : (g == 0) = false := by simp; omega
      have f := Aside0.mk (show RGoreMiddle g k = (0, 2) by unfold RGoreMiddle; rw [if_pos h, if_neg hk])
      clear h hk
      go_enter Try.func38, Try.ntmps38
      go_wp2_with (first | (go_at_call 42; (with_reducible refine (spec_l04Ok_c _ b.out).mono ?_); rintro e w' ⟨rfl, ⟨nd, rfl⟩⟩) | (go_at_call 45; (with_reducible refine (spec_l00In_d _ c.out).mono ?_); rintro e w' ⟨rfl, ⟨nd, rfl⟩⟩))
      go_ret2
      exact ⟨pair_eq f.out, by repeat (first | exact Drawn0.refl _ | apply Drawn0.step)⟩
  · have f := Aside0.mk (show RGoreMiddle g k = (0, 1) by unfold RGoreMiddle; rw [if_neg h])
    clear h
    go_enter Try.func38, Try.ntmps38
    go_wp2_with (first | (go_at_call 42; (with_reducible refine (spec_l04Ok_c _ b.out).mono ?_); rintro e w' ⟨rfl, ⟨nd, rfl⟩⟩) | (go_at_call 45; (with_reducible refine (spec_l00In_c k _ _ _).mono ?_); rintro e w' ⟨rfl, ⟨nd, rfl⟩⟩))
    go_ret2
    exact ⟨pair_eq f.out, by repeat (first | exact Drawn0.refl _ | apply Drawn0.step)⟩
theorem FnExactGoreMiddle_c (a b : Int) (w : World) (_ : (Lit.int .i64 a).wf = true) (_ : (Lit.int .i64 b).wf = true) : Calls Try.prog 13 #[.int .i64 a, .int .i64 b] w fun e w' => e = .returned (.bool (true)) ∧ Drawn0 w w' := by
  go_enter Try.func13, Try.ntmps13
  go_wp2_with (first | (go_at_call 38; (with_reducible refine (spec_GoreMiddle_c _).mono ?_); rintro e w' ⟨rfl, ⟨nd, rfl⟩⟩) | (go_at_call 39; (with_reducible refine (impl_GoreMiddle_c _).mono ?_); rintro e w' ⟨rfl, ⟨nd, rfl⟩⟩))
  go_ret
  exact ⟨rfl, by repeat (first | exact Drawn0.refl _ | apply Drawn0.step)⟩
end Go.Proofs.Ytgfclbfkkekkmaa.Con
