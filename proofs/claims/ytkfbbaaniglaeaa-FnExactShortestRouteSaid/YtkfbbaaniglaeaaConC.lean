/- Contracts of the program's functions on gores, discs and rims. Conditions: as stated. -/
import Derived.Test.YtkfbbaaniglaeaaConA
import Derived.Test.YtkfbbaaniglaeaaMgo
import Derived.LoopTactic
namespace Go.Proofs.Ytkfbbaaniglaeaa.Con
open Go.RowKit Go.Proofs.YtkfbbaaniglaeaaW.PrintWords Go.Proofs.YtkfbbaaniglaeaaW.PrintLast Go.Proofs.YtkfbbaaniglaeaaW.PrintMore Go.Proofs.Ytkfbbaaniglaeaa.Mth
attribute [local go_sem] max2_int min2_int max_two min_two max_three min_three
set_option linter.unusedVariables false
set_option linter.unusedSimpArgs false
theorem impl_isAround_c {a : Int} {r : Bool} (w : World) (hr : decide (arOk a) = r) : Calls Try.prog 140 #[.int .i64 a] w fun e w' => e = .returned (.bool (r)) ∧ Drawn0 w w' := by
  go_enter Try.func140, Try.ntmps140
  go_wp2_with (first | (go_at_call 136; (with_reducible refine (impl_within_c a _ _ _).mono ?_); rintro e w' ⟨rfl, ⟨nd, rfl⟩⟩))
  go_ret
  exact ⟨by subst hr; rfl, by repeat (first | exact Drawn0.refl _ | apply Drawn0.step)⟩
theorem impl_isNorth_c {a : Int} {r : Bool} (w : World) (hr : decide (northOk a) = r) : Calls Try.prog 141 #[.int .i64 a] w fun e w' => e = .returned (.bool (r)) ∧ Drawn0 w w' := by
  go_enter Try.func141, Try.ntmps141
  go_wp2_with (first | (go_at_call 136; (with_reducible refine (impl_within_c a _ _ _).mono ?_); rintro e w' ⟨rfl, ⟨nd, rfl⟩⟩))
  go_ret
  exact ⟨by subst hr; rfl, by repeat (first | exact Drawn0.refl _ | apply Drawn0.step)⟩
theorem impl_isRadius_c {a : Int} {r : Bool} (w : World) (hr : decide (radOk a) = r) : Calls Try.prog 103 #[.int .i64 a] w fun e w' => e = .returned (.bool (r)) ∧ Drawn0 w w' := by
  go_enter Try.func103, Try.ntmps103
  go_wp2_with (first | (go_at_call 136; (with_reducible refine (impl_within_c a _ _ _).mono ?_); rintro e w' ⟨rfl, ⟨nd, rfl⟩⟩))
  go_ret
  exact ⟨by subst hr; rfl, by repeat (first | exact Drawn0.refl _ | apply Drawn0.step)⟩
theorem impl_isBreadth_c {a : Int} {r : Bool} (w : World) (hr : decide (brOk a) = r) : Calls Try.prog 104 #[.int .i64 a] w fun e w' => e = .returned (.bool (r)) ∧ Drawn0 w w' := by
  go_enter Try.func104, Try.ntmps104
  go_wp2_with (first | (go_at_call 136; (with_reducible refine (impl_within_c a _ _ _).mono ?_); rintro e w' ⟨rfl, ⟨nd, rfl⟩⟩))
  go_ret
  exact ⟨by subst hr; rfl, by repeat (first | exact Drawn0.refl _ | apply Drawn0.step)⟩
theorem impl_isPaper_c {a : Int} {r : Bool} (w : World) (hr : decide (papOk a) = r) : Calls Try.prog 161 #[.int .i64 a] w fun e w' => e = .returned (.bool (r)) ∧ Drawn0 w w' := by
  go_enter Try.func161, Try.ntmps161
  go_wp2_with (first | (go_at_call 136; (with_reducible refine (impl_within_c a _ _ _).mono ?_); rintro e w' ⟨rfl, ⟨nd, rfl⟩⟩))
  go_ret
  exact ⟨by subst hr; rfl, by repeat (first | exact Drawn0.refl _ | apply Drawn0.step)⟩
theorem impl_isLat_c {a : Int} {r : Bool} (w : World) (hr : decide (latOk a) = r) : Calls Try.prog 151 #[.int .i64 a] w fun e w' => e = .returned (.bool (r)) ∧ Drawn0 w w' := by
  go_enter Try.func151, Try.ntmps151
  go_wp2_with (first | (go_at_call 136; (with_reducible refine (impl_within_c a _ _ _).mono ?_); rintro e w' ⟨rfl, ⟨nd, rfl⟩⟩))
  go_ret
  exact ⟨by subst hr; rfl, by repeat (first | exact Drawn0.refl _ | apply Drawn0.step)⟩
theorem impl_isLatStep_c {a : Int} {r : Bool} (w : World) (hr : decide (lstepOk a) = r) : Calls Try.prog 156 #[.int .i64 a] w fun e w' => e = .returned (.bool (r)) ∧ Drawn0 w w' := by
  go_enter Try.func156, Try.ntmps156
  go_wp2_with (first | (go_at_call 136; (with_reducible refine (impl_within_c a _ _ _).mono ?_); rintro e w' ⟨rfl, ⟨nd, rfl⟩⟩))
  go_ret
  exact ⟨by subst hr; rfl, by repeat (first | exact Drawn0.refl _ | apply Drawn0.step)⟩
theorem impl_check_tt (w : World) : Calls Try.prog 126 #[.bool true, .bool true] w fun e w' => e = .returned (.int .i64 0) ∧ Drawn0 w w' := by
  go_enter Try.func126, Try.ntmps126
  go_wp2
  go_ret
  exact ⟨rfl, by repeat (first | exact Drawn0.refl _ | apply Drawn0.step)⟩
theorem impl_check_tf (w : World) : Calls Try.prog 126 #[.bool true, .bool false] w fun e w' => e = .returned (.int .i64 2) ∧ Drawn0 w w' := by
  go_enter Try.func126, Try.ntmps126
  go_wp2
  go_ret
  exact ⟨rfl, by repeat (first | exact Drawn0.refl _ | apply Drawn0.step)⟩
theorem impl_check_f {q : Bool} (w : World) : Calls Try.prog 126 #[.bool false, .bool q] w fun e w' => e = .returned (.int .i64 1) ∧ Drawn0 w w' := by
  go_enter Try.func126, Try.ntmps126
  go_wp2
  go_ret
  exact ⟨rfl, by repeat (first | exact Drawn0.refl _ | apply Drawn0.step)⟩
theorem impl_ValidGores_c {g : Int} {r : Bool} (w : World) (hr : decide (gOk g) = r) : Calls Try.prog 100 #[.int .i64 g] w fun e w' => e = .returned (.bool (r)) ∧ Drawn0 w w' := by
  rcases dec (6 ≤ g ∧ g ≤ 48) with ⟨h, b⟩ | ⟨h, b⟩
  · have hz : (g == 0) = false := by simp; omega
    have hq : Int.tmod 1296000 g = 1296000 % g := tmod_nn (by decide)
    have f := Aside0.mk (show decide (1296000 % g = 0) = r by rw [← hr]; simp [gOk, h])
    clear hr
    go_enter Try.func100, Try.ntmps100
    go_wp2_with (first | (go_at_call 136; (with_reducible refine (impl_within_d _ b.out).mono ?_); rintro e w' ⟨rfl, ⟨nd, rfl⟩⟩))
    go_ret
    exact ⟨by have f := f.out; subst f; first | rfl | (simp; done) | (simp [Int.beq_eq_decide_eq]; done) | (congr 2), by repeat (first | exact Drawn0.refl _ | apply Drawn0.step)⟩
  · have f := Aside0.mk (show r = false by rw [← hr]; simp [gOk, h])
    clear hr h
    go_enter Try.func100, Try.ntmps100
    go_wp2_with (first | (go_at_call 136; (with_reducible refine (impl_within_d _ b.out).mono ?_); rintro e w' ⟨rfl, ⟨nd, rfl⟩⟩))
    go_ret
    exact ⟨by rw [f.out]; rfl, by repeat (first | exact Drawn0.refl _ | apply Drawn0.step)⟩
theorem spec_l04Ok_c {g : Int} {r : Bool} (w : World) (hr : decide (gOk g) = r) : Calls Try.prog 123 #[.int .i64 g] w fun e w' => e = .returned (.bool (r)) ∧ Drawn0 w w' := by
  rcases dec (6 ≤ g ∧ g ≤ 48) with ⟨h, b⟩ | ⟨h, b⟩
  · have hz : (g == 0) = false := by simp; omega
    have hq : Int.tmod 1296000 g = 1296000 % g := tmod_nn (by decide)
    have f := Aside0.mk (show decide (1296000 % g = 0) = r by rw [← hr]; simp [gOk, h])
    clear hr
    go_enter Try.func123, Try.ntmps123
    go_wp2_with (first | (go_at_call 144; (with_reducible refine (spec_l00In_d _ b.out).mono ?_); rintro e w' ⟨rfl, ⟨nd, rfl⟩⟩))
    go_ret
    exact ⟨by have f := f.out; subst f; first | rfl | (simp; done) | (simp [Int.beq_eq_decide_eq]; done) | (congr 2), by repeat (first | exact Drawn0.refl _ | apply Drawn0.step)⟩
  · have f := Aside0.mk (show r = false by rw [← hr]; simp [gOk, h])
    clear hr h
    go_enter Try.func123, Try.ntmps123
    go_wp2_with (first | (go_at_call 144; (with_reducible refine (spec_l00In_d _ b.out).mono ?_); rintro e w' ⟨rfl, ⟨nd, rfl⟩⟩))
    go_ret
    exact ⟨by rw [f.out]; rfl, by repeat (first | exact Drawn0.refl _ | apply Drawn0.step)⟩
theorem impl_GoreSpan_c {g : Int} (w : World) : Calls Try.prog 91 #[.int .i64 g] w fun e w' => e = .returned (.tuple #[.int .i64 (RGoreSpan g).1, .int .i64 (RGoreSpan g).2]) ∧ Drawn0 w w' := by
  rcases dec (gOk g) with ⟨h, b⟩ | ⟨h, b⟩
  · obtain ⟨s0, s1, _⟩ := gOk_span h
    have g0 : 6 ≤ g := h.1.1
    have hz : (g == 0) = false := by simp; omega
    have hq : Int.tdiv 1296000 g = 1296000 / g := tdiv_nn (by decide)
    have f := Aside0.mk (show RGoreSpan g = (1296000 / g, 0) from if_pos h)
    clear h
    go_enter Try.func91, Try.ntmps91
    go_wp2_with (first | (go_at_call 100; (with_reducible refine (impl_ValidGores_c _ b.out).mono ?_); rintro e w' ⟨rfl, ⟨nd, rfl⟩⟩) | (go_at_call 126; (with_reducible refine (impl_check_tt _).mono ?_); rintro e w' ⟨rfl, ⟨nd, rfl⟩⟩) | (go_at_call 126; (with_reducible refine (impl_check_tf _).mono ?_); rintro e w' ⟨rfl, ⟨nd, rfl⟩⟩) | (go_at_call 126; (with_reducible refine (impl_check_f _).mono ?_); rintro e w' ⟨rfl, ⟨nd, rfl⟩⟩))
    go_ret2
    exact ⟨pair_eq f.out, by repeat (first | exact Drawn0.refl _ | apply Drawn0.step)⟩
  · have f := Aside0.mk (show RGoreSpan g = (0, 1) from if_neg h)
    clear h
    go_enter Try.func91, Try.ntmps91
    go_wp2_with (first | (go_at_call 100; (with_reducible refine (impl_ValidGores_c _ b.out).mono ?_); rintro e w' ⟨rfl, ⟨nd, rfl⟩⟩) | (go_at_call 126; (with_reducible refine (impl_check_tt _).mono ?_); rintro e w' ⟨rfl, ⟨nd, rfl⟩⟩) | (go_at_call 126; (with_reducible refine (impl_check_tf _).mono ?_); rintro e w' ⟨rfl, ⟨nd, rfl⟩⟩) | (go_at_call 126; (with_reducible refine (impl_check_f _).mono ?_); rintro e w' ⟨rfl, ⟨nd, rfl⟩⟩))
    go_ret2
    exact ⟨pair_eq f.out, by repeat (first | exact Drawn0.refl _ | apply Drawn0.step)⟩
theorem spec_GoreSpan_c {g : Int} (w : World) : Calls Try.prog 92 #[.int .i64 g] w fun e w' => e = .returned (.tuple #[.int .i64 (RGoreSpan g).1, .int .i64 (RGoreSpan g).2]) ∧ Drawn0 w w' := by
  rcases dec (gOk g) with ⟨h, b⟩ | ⟨h, b⟩
  · obtain ⟨s0, s1, _⟩ := gOk_span h
    have g0 : 6 ≤ g := h.1.1
    have hz : (g == 0) = false := by simp; omega
    have hq : Int.tdiv 1296000 g = 1296000 / g := tdiv_nn (by decide)
    have f := Aside0.mk (show RGoreSpan g = (1296000 / g, 0) from if_pos h)
    clear h
    go_enter Try.func92, Try.ntmps92
    go_wp2_with (first | (go_at_call 123; (with_reducible refine (spec_l04Ok_c _ b.out).mono ?_); rintro e w' ⟨rfl, ⟨nd, rfl⟩⟩))
    go_ret2
    exact ⟨pair_eq f.out, by repeat (first | exact Drawn0.refl _ | apply Drawn0.step)⟩
  · have f := Aside0.mk (show RGoreSpan g = (0, 1) from if_neg h)
    clear h
    go_enter Try.func92, Try.ntmps92
    go_wp2_with (first | (go_at_call 123; (with_reducible refine (spec_l04Ok_c _ b.out).mono ?_); rintro e w' ⟨rfl, ⟨nd, rfl⟩⟩))
    go_ret2
    exact ⟨pair_eq f.out, by repeat (first | exact Drawn0.refl _ | apply Drawn0.step)⟩
theorem impl_GoreMiddle_c {g k : Int} (w : World) : Calls Try.prog 98 #[.int .i64 g, .int .i64 k] w fun e w' => e = .returned (.tuple #[.int .i64 (RGoreMiddle g k).1, .int .i64 (RGoreMiddle g k).2]) ∧ Drawn0 w w' := by
  rcases dec (gOk g) with ⟨h, b⟩ | ⟨h, b⟩
  · rcases dec (0 ≤ k ∧ k ≤ g - 1) with ⟨hk, c⟩ | ⟨hk, c⟩
    · obtain ⟨s0, s1, _⟩ := gOk_span h
      have g2 : 6 ≤ g := h.1.1
      have g3 : g ≤ 48 := h.1.2
      have hz : (g == 0) = false := by simp; omega
      have hq : Int.tdiv 1296000 g = 1296000 / g := tdiv_nn (by decide)
      obtain ⟨m0, m1⟩ := mul_nn_bd (x := k) (y := 1296000 / g) (X := 48) (Y := 216000) (by omega) (by omega)
      have f := Aside0.mk (show RGoreMiddle g k = (W (k * (1296000 / g) + 1296000 / g / 2), 0) by unfold RGoreMiddle; rw [if_pos h, if_pos hk])
      clear h
      go_enter Try.func98, Try.ntmps98
      go_wp2_with (first | (go_at_call 100; (with_reducible refine (impl_ValidGores_c _ b.out).mono ?_); rintro e w' ⟨rfl, ⟨nd, rfl⟩⟩) | (go_at_call 136; (with_reducible refine (impl_within_d _ c.out).mono ?_); rintro e w' ⟨rfl, ⟨nd, rfl⟩⟩) | (go_at_call 126; (with_reducible refine (impl_check_tt _).mono ?_); rintro e w' ⟨rfl, ⟨nd, rfl⟩⟩) | (go_at_call 126; (with_reducible refine (impl_check_tf _).mono ?_); rintro e w' ⟨rfl, ⟨nd, rfl⟩⟩) | (go_at_call 126; (with_reducible refine (impl_check_f _).mono ?_); rintro e w' ⟨rfl, ⟨nd, rfl⟩⟩) | (go_at_call 170; (with_reducible refine (impl_wrap_c _ (by omega) (by omega)).mono ?_); rintro e w' ⟨rfl, ⟨nd, rfl⟩⟩))
      go_ret2
      exact ⟨pair_eq f.out, by repeat (first | exact Drawn0.refl _ | apply Drawn0.step)⟩
    · have g2 : 6 ≤ g := h.1.1
      have g3 : g ≤ 48 := h.1.2
      have hz : (g == 0) = false := by simp; omega
      have f := Aside0.mk (show RGoreMiddle g k = (0, 2) by unfold RGoreMiddle; rw [if_pos h, if_neg hk])
      clear h hk
      go_enter Try.func98, Try.ntmps98
      go_wp2_with (first | (go_at_call 100; (with_reducible refine (impl_ValidGores_c _ b.out).mono ?_); rintro e w' ⟨rfl, ⟨nd, rfl⟩⟩) | (go_at_call 136; (with_reducible refine (impl_within_d _ c.out).mono ?_); rintro e w' ⟨rfl, ⟨nd, rfl⟩⟩) | (go_at_call 126; (with_reducible refine (impl_check_tt _).mono ?_); rintro e w' ⟨rfl, ⟨nd, rfl⟩⟩) | (go_at_call 126; (with_reducible refine (impl_check_tf _).mono ?_); rintro e w' ⟨rfl, ⟨nd, rfl⟩⟩) | (go_at_call 126; (with_reducible refine (impl_check_f _).mono ?_); rintro e w' ⟨rfl, ⟨nd, rfl⟩⟩))
      go_ret2
      exact ⟨pair_eq f.out, by repeat (first | exact Drawn0.refl _ | apply Drawn0.step)⟩
  · have f := Aside0.mk (show RGoreMiddle g k = (0, 1) by unfold RGoreMiddle; rw [if_neg h])
    clear h
    go_enter Try.func98, Try.ntmps98
    go_wp2_with (first | (go_at_call 100; (with_reducible refine (impl_ValidGores_c _ b.out).mono ?_); rintro e w' ⟨rfl, ⟨nd, rfl⟩⟩) | (go_at_call 136; (with_reducible refine (impl_within_c k _ _ _).mono ?_); rintro e w' ⟨rfl, ⟨nd, rfl⟩⟩) | (go_at_call 126; (with_reducible refine (impl_check_tt _).mono ?_); rintro e w' ⟨rfl, ⟨nd, rfl⟩⟩) | (go_at_call 126; (with_reducible refine (impl_check_tf _).mono ?_); rintro e w' ⟨rfl, ⟨nd, rfl⟩⟩) | (go_at_call 126; (with_reducible refine (impl_check_f _).mono ?_); rintro e w' ⟨rfl, ⟨nd, rfl⟩⟩))
    go_ret2
    exact ⟨pair_eq f.out, by repeat (first | exact Drawn0.refl _ | apply Drawn0.step)⟩
theorem spec_GoreMiddle_c {g k : Int} (w : World) : Calls Try.prog 99 #[.int .i64 g, .int .i64 k] w fun e w' => e = .returned (.tuple #[.int .i64 (RGoreMiddle g k).1, .int .i64 (RGoreMiddle g k).2]) ∧ Drawn0 w w' := by
  rcases dec (gOk g) with ⟨h, b⟩ | ⟨h, b⟩
  · rcases dec (0 ≤ k ∧ k ≤ g - 1) with ⟨hk, c⟩ | ⟨hk, c⟩
    · obtain ⟨s0, s1, _⟩ := gOk_span h
      have g2 : 6 ≤ g := h.1.1
      have g3 : g ≤ 48 := h.1.2
      have hz : (g == 0) = false := by simp; omega
      have hq : Int.tdiv 1296000 g = 1296000 / g := tdiv_nn (by decide)
      obtain ⟨m0, m1⟩ := mul_nn_bd (x := k) (y := 1296000 / g) (X := 48) (Y := 216000) (by omega) (by omega)
      have f := Aside0.mk (show RGoreMiddle g k = (W (k * (1296000 / g) + 1296000 / g / 2), 0) by unfold RGoreMiddle; rw [if_pos h, if_pos hk])
      clear h
      go_enter Try.func99, Try.ntmps99
      go_wp2_with (first | (go_at_call 123; (with_reducible refine (spec_l04Ok_c _ b.out).mono ?_); rintro e w' ⟨rfl, ⟨nd, rfl⟩⟩) | (go_at_call 144; (with_reducible refine (spec_l00In_d _ c.out).mono ?_); rintro e w' ⟨rfl, ⟨nd, rfl⟩⟩) | (go_at_call 171; (with_reducible refine (spec_l02Wrap_c _ (by omega) (by omega)).mono ?_); rintro e w' ⟨rfl, ⟨nd, rfl⟩⟩))
      go_ret2
      exact ⟨pair_eq f.out, by repeat (first | exact Drawn0.refl _ | apply Drawn0.step)⟩
    · have g2 : 6 ≤ g := h.1.1
      have g3 : g ≤ 48 := h.1.2
      have hz : (g == 0) = false := by simp; omega
      have f := Aside0.mk (show RGoreMiddle g k = (0, 2) by unfold RGoreMiddle; rw [if_pos h, if_neg hk])
      clear h hk
      go_enter Try.func99, Try.ntmps99
      go_wp2_with (first | (go_at_call 123; (with_reducible refine (spec_l04Ok_c _ b.out).mono ?_); rintro e w' ⟨rfl, ⟨nd, rfl⟩⟩) | (go_at_call 144; (with_reducible refine (spec_l00In_d _ c.out).mono ?_); rintro e w' ⟨rfl, ⟨nd, rfl⟩⟩))
      go_ret2
      exact ⟨pair_eq f.out, by repeat (first | exact Drawn0.refl _ | apply Drawn0.step)⟩
  · have f := Aside0.mk (show RGoreMiddle g k = (0, 1) by unfold RGoreMiddle; rw [if_neg h])
    clear h
    go_enter Try.func99, Try.ntmps99
    go_wp2_with (first | (go_at_call 123; (with_reducible refine (spec_l04Ok_c _ b.out).mono ?_); rintro e w' ⟨rfl, ⟨nd, rfl⟩⟩) | (go_at_call 144; (with_reducible refine (spec_l00In_c k _ _ _).mono ?_); rintro e w' ⟨rfl, ⟨nd, rfl⟩⟩))
    go_ret2
    exact ⟨pair_eq f.out, by repeat (first | exact Drawn0.refl _ | apply Drawn0.step)⟩
end Go.Proofs.Ytkfbbaaniglaeaa.Con
