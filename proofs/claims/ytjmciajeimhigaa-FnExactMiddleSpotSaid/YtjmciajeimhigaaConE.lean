/- Contracts of the program's functions on gores, discs and rims, third part. Conditions: as stated. -/
import Derived.Test.YtjmciajeimhigaaConD
import Derived.Test.YtjmciajeimhigaaMgo
import Derived.LoopTactic
namespace Go.Proofs.Ytjmciajeimhigaa.Con
open Go.RowKit Go.Proofs.YtjmciajeimhigaaW.PrintWords Go.Proofs.YtjmciajeimhigaaW.PrintLast Go.Proofs.YtjmciajeimhigaaW.PrintMore Go.Proofs.Ytjmciajeimhigaa.Mth
attribute [local go_sem] max2_int min2_int max_two min_two max_three min_three
set_option linter.unusedVariables false
set_option linter.unusedSimpArgs false
theorem impl_ceilDiv_c {a b : Int} (w : World) (hb : 0 < b) (h0 : 0 ≤ a) (h1 : a ≤ 1000000000000) : Calls Try.prog 57 #[.int .i64 a, .int .i64 b] w fun e w' => e = .returned (.int .i64 (-(-a / b))) ∧ Drawn0 w w' := by
  obtain ⟨c0, c1⟩ := ceil_bd hb h0 h1
  go_enter Try.func57, Try.ntmps57
  go_wp2_with (first | (go_at_call 62; (with_reducible refine (impl_floorDiv_c _ (by omega) (by omega) (by omega)).mono ?_); rintro e w' ⟨rfl, ⟨nd, rfl⟩⟩))
  go_ret
  exact ⟨rfl, by repeat (first | exact Drawn0.refl _ | apply Drawn0.step)⟩
theorem spec_l00Max_c {a b c : Int} (w : World) (hc : (if b < a then a else b) = c) : Calls Try.prog 79 #[.int .i64 a, .int .i64 b] w fun e w' => e = .returned (.int .i64 (c)) ∧ Drawn0 w w' := by
  by_cases h : b < a
  · have f := Aside0.mk (show c = a by rw [← hc]; exact if_pos h)
    clear hc
    go_enter Try.func79, Try.ntmps79
    go_wp2_with (first | (fail))
    go_ret
    exact ⟨by rw [f.out]; rfl, by repeat (first | exact Drawn0.refl _ | apply Drawn0.step)⟩
  · have f := Aside0.mk (show c = b by rw [← hc]; exact if_neg h)
    clear hc
    go_enter Try.func79, Try.ntmps79
    go_wp2_with (first | (fail))
    go_ret
    exact ⟨by rw [f.out]; rfl, by repeat (first | exact Drawn0.refl _ | apply Drawn0.step)⟩
theorem spec_l00Min_c {a b c : Int} (w : World) (hc : (if a < b then a else b) = c) : Calls Try.prog 112 #[.int .i64 a, .int .i64 b] w fun e w' => e = .returned (.int .i64 (c)) ∧ Drawn0 w w' := by
  by_cases h : a < b
  · have f := Aside0.mk (show c = a by rw [← hc]; exact if_pos h)
    clear hc
    go_enter Try.func112, Try.ntmps112
    go_wp2_with (first | (fail))
    go_ret
    exact ⟨by rw [f.out]; rfl, by repeat (first | exact Drawn0.refl _ | apply Drawn0.step)⟩
  · have f := Aside0.mk (show c = b by rw [← hc]; exact if_neg h)
    clear hc
    go_enter Try.func112, Try.ntmps112
    go_wp2_with (first | (fail))
    go_ret
    exact ⟨by rw [f.out]; rfl, by repeat (first | exact Drawn0.refl _ | apply Drawn0.step)⟩
theorem spec_l04Paper_c {n p : Int} {c : Int} (w : World) (hc : cod2 (arOk n ∧ papOk p) = c) : Calls Try.prog 78 #[.int .i64 n, .int .i64 p] w fun e w' => e = .returned (.int .i64 (c)) ∧ Drawn0 w w' := by
  rcases dec (arOk n) with ⟨hn, bn⟩ | ⟨hn, bn⟩ <;> rcases dec (papOk p) with ⟨hl, bl⟩ | ⟨hl, bl⟩
  · have f := Aside0.mk (show c = 0 by rw [← hc]; exact if_pos ⟨hn, hl⟩)
    clear hc hn hl
    go_enter Try.func78, Try.ntmps78
    go_wp2_with (first | (go_at_call 92; (with_reducible refine (spec_l00In_d _ (by first | exact bn.out | exact bl.out)).mono ?_); rintro e w' ⟨rfl, ⟨nd, rfl⟩⟩))
    go_ret
    exact ⟨by rw [f.out]; rfl, by repeat (first | exact Drawn0.refl _ | apply Drawn0.step)⟩
  all_goals
    have f := Aside0.mk (show c = 2 by rw [← hc]; exact if_neg (fun e => by first | exact hn e.1 | exact hl e.2))
    clear hc hn hl
    go_enter Try.func78, Try.ntmps78
    go_wp2_with (first | (go_at_call 92; (with_reducible refine (spec_l00In_d _ (by first | exact bn.out | exact bl.out)).mono ?_); rintro e w' ⟨rfl, ⟨nd, rfl⟩⟩))
    go_ret
    exact ⟨by rw [f.out]; rfl, by repeat (first | exact Drawn0.refl _ | apply Drawn0.step)⟩
theorem impl_BetweenSine_c {p a : Int} (w : World) : Calls Try.prog 25 #[.int .i64 p, .int .i64 a] w fun e w' => e = .returned (.tuple #[.int .i64 (RBetweenSine p a).1, .int .i64 (RBetweenSine p a).2]) ∧ Drawn0 w w' := by
  rcases dec (angOk a) with ⟨h, b⟩ | ⟨h, b⟩ <;> rcases dec (stepOk p) with ⟨g, c⟩ | ⟨g, c⟩
  · obtain ⟨⟨q0, q1⟩, ⟨q2, q3⟩, ⟨q4, q5⟩, ⟨q6, q7⟩⟩ := betw_bd g h
    have e1 : a - (a - a / p * p) = a / p * p := by omega
    have e2 : a / p * p + p = (a / p + 1) * p := by grind
    obtain ⟨⟨m0, m1⟩, ⟨m2, m3⟩⟩ : (-648000000000 ≤ (a - a / p * p) * (S (a - (a - a / p * p) + p) - S (a - (a - a / p * p))) ∧ (a - a / p * p) * (S (a - (a - a / p * p) + p) - S (a - (a - a / p * p))) ≤ 648000000000) ∧
        -2000000 ≤ near ((a - a / p * p) * (S (a - (a - a / p * p) + p) - S (a - (a - a / p * p)))) p ∧ near ((a - a / p * p) * (S (a - (a - a / p * p) + p) - S (a - (a - a / p * p)))) p ≤ 2000000 := by
      rw [e1, e2]; exact betw_mul g h
    obtain ⟨s0, s1⟩ := S_bd (a - (a - a / p * p))
    obtain ⟨t0, t1⟩ := S_bd (a - (a - a / p * p) + p)
    have f := Aside0.mk (show RBetweenSine p a = (S (a - (a - a / p * p)) + near ((a - a / p * p) * (S (a - (a - a / p * p) + p) - S (a - (a - a / p * p)))) p, 0) by rw [e1, e2]; exact if_pos ⟨g, h⟩)
    clear e1 e2
    go_enter Try.func25, Try.ntmps25
    go_wp2_with (first | (go_at_call 58; (with_reducible refine (impl_within_d _ c.out).mono ?_); rintro e w' ⟨rfl, ⟨nd, rfl⟩⟩) | (go_at_call 61; (with_reducible refine (impl_isAngle_c _ b.out).mono ?_); rintro e w' ⟨rfl, ⟨nd, rfl⟩⟩) | (go_at_call 62; (with_reducible refine (impl_floorDiv_c _ (by omega) (by omega) (by omega)).mono ?_); rintro e w' ⟨rfl, ⟨nd, rfl⟩⟩) | (go_at_call 59; (with_reducible refine (impl_sine_c _).mono ?_); rintro e w' ⟨rfl, ⟨nd, rfl⟩⟩) | (go_at_call 63; (with_reducible refine (impl_nearest_c _ (by omega) (by omega) (by omega) (by omega)).mono ?_); rintro e w' ⟨rfl, ⟨nd, rfl⟩⟩))
    repeat (go_quiet (first | (go_at_call 58; exact quiet0 (impl_within_d _ c.out)) | (go_at_call 61; exact quiet0 (impl_isAngle_c _ b.out)) | (go_at_call 62; exact quiet0 (impl_floorDiv_c _ (by omega) (by omega) (by omega))) | (go_at_call 59; exact quiet0 (impl_sine_c _)) | (go_at_call 63; exact quiet0 (impl_nearest_c _ (by omega) (by omega) (by omega) (by omega)))); try go_wp2)
    go_ret2
    exact ⟨pair_eq f.out, by repeat (first | exact Drawn0.refl _ | apply Drawn0.step)⟩
  all_goals
    have f := Aside0.mk (show RBetweenSine p a = (0, 2) from if_neg (fun e => by first | exact g e.1 | exact h e.2))
    clear g h
    go_enter Try.func25, Try.ntmps25
    go_wp2_with (first | (go_at_call 58; (with_reducible refine (impl_within_d _ c.out).mono ?_); rintro e w' ⟨rfl, ⟨nd, rfl⟩⟩) | (go_at_call 61; (with_reducible refine (impl_isAngle_c _ b.out).mono ?_); rintro e w' ⟨rfl, ⟨nd, rfl⟩⟩))
    go_ret2
    exact ⟨pair_eq f.out, by repeat (first | exact Drawn0.refl _ | apply Drawn0.step)⟩
theorem impl_discCode_c {n r : Int} {ok : Bool} {c : Int} (w : World) (hc : discB n r ok = c) : Calls Try.prog 85 #[.int .i64 n, .int .i64 r, .bool ok] w fun e w' => e = .returned (.int .i64 c) ∧ Drawn0 w w' := by
  rcases dec (arOk n) with ⟨hn, bn⟩ | ⟨hn, bn⟩
  · rcases dec (radOk r) with ⟨hr, br⟩ | ⟨hr, br⟩
    · skip
      cases ok with
      | true =>
        by_cases z : n < 4 * r
        · have f := Aside0.mk (show c = 5 by rw [← hc]; unfold discB; rw [if_pos ⟨hn, hr, rfl⟩, if_pos z])
          clear hc
          go_enter Try.func85, Try.ntmps85
          go_wp2_with (first | (go_at_call 71; (with_reducible refine (impl_isAround_c _ bn.out).mono ?_); rintro e w' ⟨rfl, ⟨nd, rfl⟩⟩) | (go_at_call 55; (with_reducible refine (impl_isRadius_c _ br.out).mono ?_); rintro e w' ⟨rfl, ⟨nd, rfl⟩⟩))
          go_ret
          exact ⟨by rw [f.out]; rfl, by repeat (first | exact Drawn0.refl _ | apply Drawn0.step)⟩
        · have f := Aside0.mk (show c = 0 by rw [← hc]; unfold discB; rw [if_pos ⟨hn, hr, rfl⟩, if_neg z])
          clear hc
          go_enter Try.func85, Try.ntmps85
          go_wp2_with (first | (go_at_call 71; (with_reducible refine (impl_isAround_c _ bn.out).mono ?_); rintro e w' ⟨rfl, ⟨nd, rfl⟩⟩) | (go_at_call 55; (with_reducible refine (impl_isRadius_c _ br.out).mono ?_); rintro e w' ⟨rfl, ⟨nd, rfl⟩⟩))
          go_ret
          exact ⟨by rw [f.out]; rfl, by repeat (first | exact Drawn0.refl _ | apply Drawn0.step)⟩
      | false =>
        have f := Aside0.mk (show c = 2 by rw [← hc]; unfold discB; rw [if_neg (fun e => by simp at e)])
        clear hc hn hr
        go_enter Try.func85, Try.ntmps85
        go_wp2_with (first | (go_at_call 71; (with_reducible refine (impl_isAround_c _ bn.out).mono ?_); rintro e w' ⟨rfl, ⟨nd, rfl⟩⟩) | (go_at_call 55; (with_reducible refine (impl_isRadius_c _ br.out).mono ?_); rintro e w' ⟨rfl, ⟨nd, rfl⟩⟩))
        go_ret
        exact ⟨by rw [f.out]; rfl, by repeat (first | exact Drawn0.refl _ | apply Drawn0.step)⟩
    · have f := Aside0.mk (show c = 2 by rw [← hc]; unfold discB; rw [if_neg (fun e => hr e.2.1)])
      clear hc hn hr
      go_enter Try.func85, Try.ntmps85
      go_wp2_with (first | (go_at_call 71; (with_reducible refine (impl_isAround_c _ bn.out).mono ?_); rintro e w' ⟨rfl, ⟨nd, rfl⟩⟩) | (go_at_call 55; (with_reducible refine (impl_isRadius_c _ br.out).mono ?_); rintro e w' ⟨rfl, ⟨nd, rfl⟩⟩))
      go_ret
      exact ⟨by rw [f.out]; rfl, by repeat (first | exact Drawn0.refl _ | apply Drawn0.step)⟩
  · have f := Aside0.mk (show c = 2 by rw [← hc]; unfold discB; rw [if_neg (fun e => hn e.1)])
    clear hc hn
    go_enter Try.func85, Try.ntmps85
    go_wp2_with (first | (go_at_call 71; (with_reducible refine (impl_isAround_c _ bn.out).mono ?_); rintro e w' ⟨rfl, ⟨nd, rfl⟩⟩))
    go_ret
    exact ⟨by rw [f.out]; rfl, by repeat (first | exact Drawn0.refl _ | apply Drawn0.step)⟩
theorem spec_l06Radius_c {n r : Int} {c : Int} (w : World) (hc : discB n r true = c) : Calls Try.prog 82 #[.int .i64 n, .int .i64 r] w fun e w' => e = .returned (.int .i64 c) ∧ Drawn0 w w' := by
  rcases dec (arOk n) with ⟨hn, bn⟩ | ⟨hn, bn⟩
  · rcases dec (radOk r) with ⟨hr, br⟩ | ⟨hr, br⟩
    · skip
      by_cases z : n < 4 * r
      · have f := Aside0.mk (show c = 5 by rw [← hc]; unfold discB; rw [if_pos ⟨hn, hr, rfl⟩, if_pos z])
        clear hc
        go_enter Try.func82, Try.ntmps82
        go_wp2_with (first | (go_at_call 92; (with_reducible refine (spec_l00In_d _ (by first | exact bn.out | exact br.out)).mono ?_); rintro e w' ⟨rfl, ⟨nd, rfl⟩⟩))
        go_ret
        exact ⟨by rw [f.out]; rfl, by repeat (first | exact Drawn0.refl _ | apply Drawn0.step)⟩
      · have f := Aside0.mk (show c = 0 by rw [← hc]; unfold discB; rw [if_pos ⟨hn, hr, rfl⟩, if_neg z])
        clear hc
        go_enter Try.func82, Try.ntmps82
        go_wp2_with (first | (go_at_call 92; (with_reducible refine (spec_l00In_d _ (by first | exact bn.out | exact br.out)).mono ?_); rintro e w' ⟨rfl, ⟨nd, rfl⟩⟩))
        go_ret
        exact ⟨by rw [f.out]; rfl, by repeat (first | exact Drawn0.refl _ | apply Drawn0.step)⟩
    · have f := Aside0.mk (show c = 2 by rw [← hc]; unfold discB; rw [if_neg (fun e => hr e.2.1)])
      clear hc hn hr
      go_enter Try.func82, Try.ntmps82
      go_wp2_with (first | (go_at_call 92; (with_reducible refine (spec_l00In_d _ (by first | exact bn.out | exact br.out)).mono ?_); rintro e w' ⟨rfl, ⟨nd, rfl⟩⟩))
      go_ret
      exact ⟨by rw [f.out]; rfl, by repeat (first | exact Drawn0.refl _ | apply Drawn0.step)⟩
  · have f := Aside0.mk (show c = 2 by rw [← hc]; unfold discB; rw [if_neg (fun e => hn e.1)])
    clear hc hn
    go_enter Try.func82, Try.ntmps82
    go_wp2_with (first | (go_at_call 92; (with_reducible refine (spec_l00In_d _ bn.out).mono ?_); rintro e w' ⟨rfl, ⟨nd, rfl⟩⟩))
    go_ret
    exact ⟨by rw [f.out]; rfl, by repeat (first | exact Drawn0.refl _ | apply Drawn0.step)⟩
theorem impl_capEdge_c {n r : Int} (w : World) (hn : arOk n) (hr : radOk r) (h : 4 * r ≤ n) : Calls Try.prog 86 #[.int .i64 n, .int .i64 r] w fun e w' => e = .returned (.int .i64 (edge n r)) ∧ Drawn0 w w' := by
  have q0 : 0 ≤ r * 1296000 / n := Int.ediv_nonneg (by omega) (by omega)
  have q1 : r * 1296000 / n ≤ 1000000000000 := Int.le_trans (Int.ediv_le_self n (show 0 ≤ r * 1296000 by omega)) (by omega)
  have hz : (n == 0) = false := by simp; omega
  go_enter Try.func86, Try.ntmps86
  go_wp2_with (first | (fail))
  go_ret
  exact ⟨rfl, by repeat (first | exact Drawn0.refl _ | apply Drawn0.step)⟩
theorem spec_l06Edge_c {n r : Int} (w : World) (hn : arOk n) (hr : radOk r) (h : 4 * r ≤ n) : Calls Try.prog 83 #[.int .i64 n, .int .i64 r] w fun e w' => e = .returned (.int .i64 (edge n r)) ∧ Drawn0 w w' := by
  have q0 : 0 ≤ r * 1296000 / n := Int.ediv_nonneg (by omega) (by omega)
  have q1 : r * 1296000 / n ≤ 1000000000000 := Int.le_trans (Int.ediv_le_self n (show 0 ≤ r * 1296000 by omega)) (by omega)
  have hz : (n == 0) = false := by simp; omega
  go_enter Try.func83, Try.ntmps83
  go_wp2_with (first | (fail))
  go_ret
  exact ⟨rfl, by repeat (first | exact Drawn0.refl _ | apply Drawn0.step)⟩
theorem impl_SheetsForGores_c {g n p : Int} (w : World) : Calls Try.prog 34 #[.int .i64 g, .int .i64 n, .int .i64 p] w fun e w' => e = .returned (.tuple #[.int .i64 (RSheetsForGores g n p).1, .int .i64 (RSheetsForGores g n p).2]) ∧ Drawn0 w w' := by
  rcases dec (gOk g) with ⟨h, b⟩ | ⟨h, b⟩ <;> rcases dec (arOk n) with ⟨hn, bn⟩ | ⟨hn, bn⟩ <;> rcases dec (papOk p) with ⟨hp, bp⟩ | ⟨hp, bp⟩
  · skip
    obtain ⟨g0, g1⟩ := gw_bd h.1 hn 0
    by_cases z : 1 < gw g n 0
    · have e : wid g n = gw g n 0 := if_pos z
      by_cases y : p < gw g n 0
      · have f := Aside0.mk (show RSheetsForGores g n p = (0, 5) by unfold RSheetsForGores sheets; rw [if_pos h, if_pos ⟨hn, hp⟩, e, if_pos y])
        clear e
        go_enter Try.func34, Try.ntmps34
        go_wp2_with (first | (go_at_call 70; (with_reducible refine (impl_ValidGores_c _ b.out).mono ?_); rintro e w' ⟨rfl, ⟨nd, rfl⟩⟩) | (go_at_call 71; (with_reducible refine (impl_isAround_c _ bn.out).mono ?_); rintro e w' ⟨rfl, ⟨nd, rfl⟩⟩) | (go_at_call 80; (with_reducible refine (impl_isPaper_c _ bp.out).mono ?_); rintro e w' ⟨rfl, ⟨nd, rfl⟩⟩) | (go_at_call 69; (with_reducible refine (impl_check_tt _).mono ?_); rintro e w' ⟨rfl, ⟨nd, rfl⟩⟩) | (go_at_call 69; (with_reducible refine (impl_check_tf _).mono ?_); rintro e w' ⟨rfl, ⟨nd, rfl⟩⟩) | (go_at_call 69; (with_reducible refine (impl_check_f _).mono ?_); rintro e w' ⟨rfl, ⟨nd, rfl⟩⟩) | (go_at_call 73; (with_reducible refine (impl_goreWidth_c _ (by omega) (by omega) (by omega)).mono ?_); rintro e w' ⟨rfl, ⟨nd, rfl⟩⟩) | (go_at_call 57; (with_reducible refine (impl_ceilDiv_c _ (by omega) (by omega) (by omega)).mono ?_); rintro e w' ⟨rfl, ⟨nd, rfl⟩⟩))
        go_ret2
        exact ⟨pair_eq f.out, by repeat (first | exact Drawn0.refl _ | apply Drawn0.step)⟩
      · have f := Aside0.mk (show RSheetsForGores g n p = (-(-g / (p / gw g n 0)), 0) by unfold RSheetsForGores sheets; rw [if_pos h, if_pos ⟨hn, hp⟩, e, if_neg y])
        clear e
        have u0 : 1 ≤ p / gw g n 0 := by rw [Int.le_ediv_iff_mul_le (by omega)]; omega
        have u1 : p / gw g n 0 ≤ 100000 := Int.le_trans (Int.ediv_le_self _ (by omega)) (by omega)
        have u2 : (p / gw g n 0 == 0) = false := by simp; omega
        have u3 : (gw g n 0 == 0) = false := by simp; omega
        go_enter Try.func34, Try.ntmps34
        go_wp2_with (first | (go_at_call 70; (with_reducible refine (impl_ValidGores_c _ b.out).mono ?_); rintro e w' ⟨rfl, ⟨nd, rfl⟩⟩) | (go_at_call 71; (with_reducible refine (impl_isAround_c _ bn.out).mono ?_); rintro e w' ⟨rfl, ⟨nd, rfl⟩⟩) | (go_at_call 80; (with_reducible refine (impl_isPaper_c _ bp.out).mono ?_); rintro e w' ⟨rfl, ⟨nd, rfl⟩⟩) | (go_at_call 69; (with_reducible refine (impl_check_tt _).mono ?_); rintro e w' ⟨rfl, ⟨nd, rfl⟩⟩) | (go_at_call 69; (with_reducible refine (impl_check_tf _).mono ?_); rintro e w' ⟨rfl, ⟨nd, rfl⟩⟩) | (go_at_call 69; (with_reducible refine (impl_check_f _).mono ?_); rintro e w' ⟨rfl, ⟨nd, rfl⟩⟩) | (go_at_call 73; (with_reducible refine (impl_goreWidth_c _ (by omega) (by omega) (by omega)).mono ?_); rintro e w' ⟨rfl, ⟨nd, rfl⟩⟩) | (go_at_call 57; (with_reducible refine (impl_ceilDiv_c _ (by omega) (by omega) (by omega)).mono ?_); rintro e w' ⟨rfl, ⟨nd, rfl⟩⟩))
        go_ret2
        exact ⟨pair_eq f.out, by repeat (first | exact Drawn0.refl _ | apply Drawn0.step)⟩
    · have e : wid g n = 1 := if_neg z
      have f := Aside0.mk (show RSheetsForGores g n p = (-(-g / p), 0) by unfold RSheetsForGores sheets; rw [if_pos h, if_pos ⟨hn, hp⟩, e, if_neg (by omega), Int.ediv_one])
      clear e
      go_enter Try.func34, Try.ntmps34
      go_wp2_with (first | (go_at_call 70; (with_reducible refine (impl_ValidGores_c _ b.out).mono ?_); rintro e w' ⟨rfl, ⟨nd, rfl⟩⟩) | (go_at_call 71; (with_reducible refine (impl_isAround_c _ bn.out).mono ?_); rintro e w' ⟨rfl, ⟨nd, rfl⟩⟩) | (go_at_call 80; (with_reducible refine (impl_isPaper_c _ bp.out).mono ?_); rintro e w' ⟨rfl, ⟨nd, rfl⟩⟩) | (go_at_call 69; (with_reducible refine (impl_check_tt _).mono ?_); rintro e w' ⟨rfl, ⟨nd, rfl⟩⟩) | (go_at_call 69; (with_reducible refine (impl_check_tf _).mono ?_); rintro e w' ⟨rfl, ⟨nd, rfl⟩⟩) | (go_at_call 69; (with_reducible refine (impl_check_f _).mono ?_); rintro e w' ⟨rfl, ⟨nd, rfl⟩⟩) | (go_at_call 73; (with_reducible refine (impl_goreWidth_c _ (by omega) (by omega) (by omega)).mono ?_); rintro e w' ⟨rfl, ⟨nd, rfl⟩⟩) | (go_at_call 57; (with_reducible refine (impl_ceilDiv_c _ (by omega) (by omega) (by omega)).mono ?_); rintro e w' ⟨rfl, ⟨nd, rfl⟩⟩))
      go_ret2
      exact ⟨pair_eq f.out, by repeat (first | exact Drawn0.refl _ | apply Drawn0.step)⟩
  iterate 3
    · have f := Aside0.mk (show RSheetsForGores g n p = (0, 2) by unfold RSheetsForGores; rw [if_pos h, if_neg (fun e => by first | exact hn e.1 | exact hp e.2)])
      clear h hn hp
      go_enter Try.func34, Try.ntmps34
      go_wp2_with (first | (go_at_call 70; (with_reducible refine (impl_ValidGores_c _ b.out).mono ?_); rintro e w' ⟨rfl, ⟨nd, rfl⟩⟩) | (go_at_call 71; (with_reducible refine (impl_isAround_c _ bn.out).mono ?_); rintro e w' ⟨rfl, ⟨nd, rfl⟩⟩) | (go_at_call 80; (with_reducible refine (impl_isPaper_c _ bp.out).mono ?_); rintro e w' ⟨rfl, ⟨nd, rfl⟩⟩) | (go_at_call 69; (with_reducible refine (impl_check_tt _).mono ?_); rintro e w' ⟨rfl, ⟨nd, rfl⟩⟩) | (go_at_call 69; (with_reducible refine (impl_check_tf _).mono ?_); rintro e w' ⟨rfl, ⟨nd, rfl⟩⟩) | (go_at_call 69; (with_reducible refine (impl_check_f _).mono ?_); rintro e w' ⟨rfl, ⟨nd, rfl⟩⟩))
      go_ret2
      exact ⟨pair_eq f.out, by repeat (first | exact Drawn0.refl _ | apply Drawn0.step)⟩
  all_goals
    · have f := Aside0.mk (show RSheetsForGores g n p = (0, 1) by unfold RSheetsForGores; rw [if_neg h])
      clear h hn hp
      go_enter Try.func34, Try.ntmps34
      go_wp2_with (first | (go_at_call 70; (with_reducible refine (impl_ValidGores_c _ b.out).mono ?_); rintro e w' ⟨rfl, ⟨nd, rfl⟩⟩) | (go_at_call 71; (with_reducible refine (impl_isAround_c _ bn.out).mono ?_); rintro e w' ⟨rfl, ⟨nd, rfl⟩⟩) | (go_at_call 80; (with_reducible refine (impl_isPaper_c _ bp.out).mono ?_); rintro e w' ⟨rfl, ⟨nd, rfl⟩⟩) | (go_at_call 69; (with_reducible refine (impl_check_tt _).mono ?_); rintro e w' ⟨rfl, ⟨nd, rfl⟩⟩) | (go_at_call 69; (with_reducible refine (impl_check_tf _).mono ?_); rintro e w' ⟨rfl, ⟨nd, rfl⟩⟩) | (go_at_call 69; (with_reducible refine (impl_check_f _).mono ?_); rintro e w' ⟨rfl, ⟨nd, rfl⟩⟩))
      go_ret2
      exact ⟨pair_eq f.out, by repeat (first | exact Drawn0.refl _ | apply Drawn0.step)⟩
theorem spec_SheetsForGores_c {g n p : Int} (w : World) : Calls Try.prog 33 #[.int .i64 g, .int .i64 n, .int .i64 p] w fun e w' => e = .returned (.tuple #[.int .i64 (RSheetsForGores g n p).1, .int .i64 (RSheetsForGores g n p).2]) ∧ Drawn0 w w' := by
  rcases dec (gOk g) with ⟨h, b⟩ | ⟨h, b⟩
  · by_cases k : arOk n ∧ papOk p
    · have hc := Aside0.mk (show cod2 (arOk n ∧ papOk p) = 0 from if_pos k)
      obtain ⟨hn, hp⟩ := k
      obtain ⟨g0, g1⟩ := gw_bd h.1 hn 0
      by_cases z : 1 < gw g n 0
      · have e : wid g n = gw g n 0 := if_pos z
        have hx := Aside0.mk (show (if gw g n 0 < 1 then 1 else gw g n 0) = gw g n 0 from if_neg (by omega))
        by_cases y : p < gw g n 0
        · have f := Aside0.mk (show RSheetsForGores g n p = (0, 5) by unfold RSheetsForGores sheets; rw [if_pos h, if_pos ⟨hn, hp⟩, e, if_pos y])
          clear e
          have u4 : p / gw g n 0 = 0 := Int.ediv_eq_zero_of_lt (by omega) y
          have u3 : (gw g n 0 == 0) = false := by simp; omega
          go_enter Try.func33, Try.ntmps33
          go_wp2_with (first | (go_at_call 77; (with_reducible refine (spec_l04Ok_c _ b.out).mono ?_); rintro e w' ⟨rfl, ⟨nd, rfl⟩⟩) | (go_at_call 78; (with_reducible refine (spec_l04Paper_c _ hc.out).mono ?_); rintro e w' ⟨rfl, ⟨nd, rfl⟩⟩) | (go_at_call 68; (with_reducible refine (spec_l04Width_c _ (by omega) (by omega) (by omega)).mono ?_); rintro e w' ⟨rfl, ⟨nd, rfl⟩⟩) | (go_at_call 79; (with_reducible refine (spec_l00Max_c _ hx.out).mono ?_); rintro e w' ⟨rfl, ⟨nd, rfl⟩⟩))
          go_ret2
          exact ⟨pair_eq f.out, by repeat (first | exact Drawn0.refl _ | apply Drawn0.step)⟩
        · have f := Aside0.mk (show RSheetsForGores g n p = ((g + p / gw g n 0 - 1) / (p / gw g n 0), 0) by unfold RSheetsForGores sheets; rw [if_pos h, if_pos ⟨hn, hp⟩, e, if_neg y]; rw [ceil_eq (a := g) (b := p / gw g n 0) (Int.lt_of_lt_of_le (show (0 : Int) < 1 by decide) ((Int.le_ediv_iff_mul_le (show 0 < gw g n 0 by omega)).2 (by omega)))])
          clear e
          have u0 : 1 ≤ p / gw g n 0 := by rw [Int.le_ediv_iff_mul_le (by omega)]; omega
          have u1 : p / gw g n 0 ≤ 100000 := Int.le_trans (Int.ediv_le_self _ (by omega)) (by omega)
          have u2 : (p / gw g n 0 == 0) = false := by simp; omega
          have u3 : (gw g n 0 == 0) = false := by simp; omega
          have u5 : 0 ≤ (g + p / gw g n 0 - 1) / (p / gw g n 0) := Int.ediv_nonneg (by omega) (by omega)
          have u6 : (g + p / gw g n 0 - 1) / (p / gw g n 0) ≤ 1000000 := Int.le_trans (Int.ediv_le_self _ (by omega)) (by omega)
          go_enter Try.func33, Try.ntmps33
          go_wp2_with (first | (go_at_call 77; (with_reducible refine (spec_l04Ok_c _ b.out).mono ?_); rintro e w' ⟨rfl, ⟨nd, rfl⟩⟩) | (go_at_call 78; (with_reducible refine (spec_l04Paper_c _ hc.out).mono ?_); rintro e w' ⟨rfl, ⟨nd, rfl⟩⟩) | (go_at_call 68; (with_reducible refine (spec_l04Width_c _ (by omega) (by omega) (by omega)).mono ?_); rintro e w' ⟨rfl, ⟨nd, rfl⟩⟩) | (go_at_call 79; (with_reducible refine (spec_l00Max_c _ hx.out).mono ?_); rintro e w' ⟨rfl, ⟨nd, rfl⟩⟩))
          go_ret2
          exact ⟨pair_eq f.out, by repeat (first | exact Drawn0.refl _ | apply Drawn0.step)⟩
      · have e : wid g n = 1 := if_neg z
        have hx := Aside0.mk (show (if gw g n 0 < 1 then 1 else gw g n 0) = 1 by split <;> omega)
        have f := Aside0.mk (show RSheetsForGores g n p = ((g + p - 1) / p, 0) by unfold RSheetsForGores sheets; rw [if_pos h, if_pos ⟨hn, hp⟩, e, if_neg (by omega), Int.ediv_one]; rw [ceil_eq (a := g) (b := p) (by omega)])
        clear e
        have u2 : (p == 0) = false := by simp; omega
        have u4 : p / 1 = p := Int.ediv_one p
        have u5 : 0 ≤ (g + p - 1) / p := Int.ediv_nonneg (by omega) (by omega)
        have u6 : (g + p - 1) / p ≤ 1000000 := Int.le_trans (Int.ediv_le_self _ (by omega)) (by omega)
        go_enter Try.func33, Try.ntmps33
        go_wp2_with (first | (go_at_call 77; (with_reducible refine (spec_l04Ok_c _ b.out).mono ?_); rintro e w' ⟨rfl, ⟨nd, rfl⟩⟩) | (go_at_call 78; (with_reducible refine (spec_l04Paper_c _ hc.out).mono ?_); rintro e w' ⟨rfl, ⟨nd, rfl⟩⟩) | (go_at_call 68; (with_reducible refine (spec_l04Width_c _ (by omega) (by omega) (by omega)).mono ?_); rintro e w' ⟨rfl, ⟨nd, rfl⟩⟩) | (go_at_call 79; (with_reducible refine (spec_l00Max_c _ hx.out).mono ?_); rintro e w' ⟨rfl, ⟨nd, rfl⟩⟩))
        go_ret2
        exact ⟨pair_eq f.out, by repeat (first | exact Drawn0.refl _ | apply Drawn0.step)⟩
    · have f := Aside0.mk (show RSheetsForGores g n p = (0, 2) by unfold RSheetsForGores; rw [if_pos h, if_neg k])
      have hc := Aside0.mk (show cod2 (arOk n ∧ papOk p) = 2 from if_neg k)
      clear h k
      go_enter Try.func33, Try.ntmps33
      go_wp2_with (first | (go_at_call 77; (with_reducible refine (spec_l04Ok_c _ b.out).mono ?_); rintro e w' ⟨rfl, ⟨nd, rfl⟩⟩) | (go_at_call 78; (with_reducible refine (spec_l04Paper_c _ hc.out).mono ?_); rintro e w' ⟨rfl, ⟨nd, rfl⟩⟩))
      go_ret2
      exact ⟨pair_eq f.out, by repeat (first | exact Drawn0.refl _ | apply Drawn0.step)⟩
  · have f := Aside0.mk (show RSheetsForGores g n p = (0, 1) by unfold RSheetsForGores; rw [if_neg h])
    clear h
    go_enter Try.func33, Try.ntmps33
    go_wp2_with (first | (go_at_call 77; (with_reducible refine (spec_l04Ok_c _ b.out).mono ?_); rintro e w' ⟨rfl, ⟨nd, rfl⟩⟩))
    go_ret2
    exact ⟨pair_eq f.out, by repeat (first | exact Drawn0.refl _ | apply Drawn0.step)⟩
theorem FnExactSheetsForGores_c (a b c : Int) (w : World) (_ : (Lit.int .i64 a).wf = true) (_ : (Lit.int .i64 b).wf = true) (_ : (Lit.int .i64 c).wf = true) : Calls Try.prog 7 #[.int .i64 a, .int .i64 b, .int .i64 c] w fun e w' => e = .returned (.bool (true)) ∧ Drawn0 w w' := by
  go_enter Try.func7, Try.ntmps7
  go_wp2_with (first | (go_at_call 33; (with_reducible refine (spec_SheetsForGores_c _).mono ?_); rintro e w' ⟨rfl, ⟨nd, rfl⟩⟩) | (go_at_call 34; (with_reducible refine (impl_SheetsForGores_c _).mono ?_); rintro e w' ⟨rfl, ⟨nd, rfl⟩⟩))
  go_ret
  exact ⟨rfl, by repeat (first | exact Drawn0.refl _ | apply Drawn0.step)⟩
end Go.Proofs.Ytjmciajeimhigaa.Con
