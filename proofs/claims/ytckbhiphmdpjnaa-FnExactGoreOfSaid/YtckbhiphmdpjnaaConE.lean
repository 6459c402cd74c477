/- Contracts of the program's functions on gores, discs and rims, third part. Conditions: as stated. -/
import Derived.Test.YtckbhiphmdpjnaaConD
import Derived.Test.YtckbhiphmdpjnaaMgo
import Derived.LoopTactic
namespace Go.Proofs.Ytckbhiphmdpjnaa.Con
open Go.RowKit Go.Proofs.YtckbhiphmdpjnaaW.PrintWords Go.Proofs.YtckbhiphmdpjnaaW.PrintLast Go.Proofs.YtckbhiphmdpjnaaW.PrintMore Go.Proofs.Ytckbhiphmdpjnaa.Mth
attribute [local go_sem] max2_int min2_int max_two min_two max_three min_three
set_option linter.unusedVariables false
set_option linter.unusedSimpArgs false
theorem impl_arcLength_c {n a : Int} (w : World) (hn : arOk n) (ha : 0 ≤ a ∧ a ≤ 1296000) : Calls Try.prog 70 #[.int .i64 n, .int .i64 a] w fun e w' => e = .returned (.int .i64 (arcLen n a)) ∧ Drawn0 w w' := by
  obtain ⟨m0, m1⟩ := mul_nn_bd (x := n) (y := a) (X := 1000000) (Y := 1296000) (by omega) (by omega)
  go_enter Try.func70, Try.ntmps70
  go_wp2_with (first | (go_at_call 62; (with_reducible refine (impl_nearest_c _ (by omega) (by omega) (by omega) (by omega)).mono ?_); rintro e w' ⟨rfl, ⟨nd, rfl⟩⟩))
  go_ret
  exact ⟨rfl, by repeat (first | exact Drawn0.refl _ | apply Drawn0.step)⟩
theorem spec_l06Arc_c {n a : Int} (w : World) (hn : arOk n) (ha : 0 ≤ a ∧ a ≤ 1296000) : Calls Try.prog 66 #[.int .i64 n, .int .i64 a] w fun e w' => e = .returned (.int .i64 (arcLen n a)) ∧ Drawn0 w w' := by
  obtain ⟨m0, m1⟩ := mul_nn_bd (x := n) (y := a) (X := 1000000) (Y := 1296000) (by omega) (by omega)
  go_enter Try.func66, Try.ntmps66
  go_wp2_with (first | (go_at_call 73; (with_reducible refine (spec_l00Round_c _ (by omega) (by omega) (by omega) (by omega)).mono ?_); rintro e w' ⟨rfl, ⟨nd, rfl⟩⟩))
  go_ret
  exact ⟨rfl, by repeat (first | exact Drawn0.refl _ | apply Drawn0.step)⟩
theorem spec_l06Code_c {n l : Int} {c : Int} (w : World) (hc : cod2 (arOk n ∧ northOk l) = c) : Calls Try.prog 64 #[.int .i64 n, .int .i64 l] w fun e w' => e = .returned (.int .i64 (c)) ∧ Drawn0 w w' := by
  rcases dec (arOk n) with ⟨hn, bn⟩ | ⟨hn, bn⟩ <;> rcases dec (northOk l) with ⟨hl, bl⟩ | ⟨hl, bl⟩
  · have f := Aside0.mk (show c = 0 by rw [← hc]; exact if_pos ⟨hn, hl⟩)
    clear hc hn hl
    go_enter Try.func64, Try.ntmps64
    go_wp2_with (first | (go_at_call 65; (with_reducible refine (spec_l00In_d _ (by first | exact bn.out | exact bl.out)).mono ?_); rintro e w' ⟨rfl, ⟨nd, rfl⟩⟩))
    go_ret
    exact ⟨by rw [f.out]; rfl, by repeat (first | exact Drawn0.refl _ | apply Drawn0.step)⟩
  all_goals
    have f := Aside0.mk (show c = 2 by rw [← hc]; exact if_neg (fun e => by first | exact hn e.1 | exact hl e.2))
    clear hc hn hl
    go_enter Try.func64, Try.ntmps64
    go_wp2_with (first | (go_at_call 65; (with_reducible refine (spec_l00In_d _ (by first | exact bn.out | exact bl.out)).mono ?_); rintro e w' ⟨rfl, ⟨nd, rfl⟩⟩))
    go_ret
    exact ⟨by rw [f.out]; rfl, by repeat (first | exact Drawn0.refl _ | apply Drawn0.step)⟩
theorem impl_rimExcess_c {n l : Int} (w : World) (hn : arOk n) (hl : northOk l) : Calls Try.prog 78 #[.int .i64 n, .int .i64 l] w fun e w' => e = .returned (.int .i64 (rimX n l)) ∧ Drawn0 w w' := by
  obtain ⟨m0, m1⟩ := arcLen_bd hn (a := 324000 - l) (by omega)
  obtain ⟨a0, a1⟩ := rim_bd hn hl
  obtain ⟨b0, b1⟩ := par_bd hn l
  go_enter Try.func78, Try.ntmps78
  go_wp2_with (first | (go_at_call 70; (with_reducible refine (impl_arcLength_c _ (by omega) (by omega)).mono ?_); rintro e w' ⟨rfl, ⟨nd, rfl⟩⟩) | (go_at_call 62; (with_reducible refine (impl_nearest_c _ (by omega) (by omega) (by omega) (by omega)).mono ?_); rintro e w' ⟨rfl, ⟨nd, rfl⟩⟩) | (go_at_call 81; (with_reducible refine (impl_parallel_c _ (by omega) (by omega)).mono ?_); rintro e w' ⟨rfl, ⟨nd, rfl⟩⟩))
  repeat (go_quiet (first | (go_at_call 70; exact quiet0 (impl_arcLength_c _ (by omega) (by omega))) | (go_at_call 62; exact quiet0 (impl_nearest_c _ (by omega) (by omega) (by omega) (by omega))) | (go_at_call 81; exact quiet0 (impl_parallel_c _ (by omega) (by omega)))); try go_wp2)
  go_ret
  exact ⟨rfl, by repeat (first | exact Drawn0.refl _ | apply Drawn0.step)⟩
theorem spec_l06Excess_c {n l : Int} (w : World) (hn : arOk n) (hl : northOk l) : Calls Try.prog 77 #[.int .i64 n, .int .i64 l] w fun e w' => e = .returned (.int .i64 (rimX n l)) ∧ Drawn0 w w' := by
  obtain ⟨m0, m1⟩ := arcLen_bd hn (a := 324000 - l) (by omega)
  obtain ⟨a0, a1⟩ := rim_bd hn hl
  obtain ⟨b0, b1⟩ := par_bd hn l
  obtain ⟨c0, c1⟩ := nCo_bd hn l
  have hp : near (n * Co l) 1000000 = par n l := rfl
  go_enter Try.func77, Try.ntmps77
  go_wp2_with (first | (go_at_call 66; (with_reducible refine (spec_l06Arc_c _ (by omega) (by omega)).mono ?_); rintro e w' ⟨rfl, ⟨nd, rfl⟩⟩) | (go_at_call 63; (with_reducible refine (spec_l03Cosine_c _ (by omega) (by omega)).mono ?_); rintro e w' ⟨rfl, ⟨nd, rfl⟩⟩) | (go_at_call 73; (with_reducible refine (spec_l00Round_c _ (by omega) (by omega) (by omega) (by omega)).mono ?_); rintro e w' ⟨rfl, ⟨nd, rfl⟩⟩))
  repeat (go_quiet (first | (go_at_call 66; exact quiet0 (spec_l06Arc_c _ (by omega) (by omega))) | (go_at_call 63; exact quiet0 (spec_l03Cosine_c _ (by omega) (by omega))) | (go_at_call 73; exact quiet0 (spec_l00Round_c _ (by omega) (by omega) (by omega) (by omega)))); try go_wp2)
  go_ret
  exact ⟨rfl, by repeat (first | exact Drawn0.refl _ | apply Drawn0.step)⟩
theorem impl_RimExcess_c {n l : Int} (w : World) : Calls Try.prog 43 #[.int .i64 n, .int .i64 l] w fun e w' => e = .returned (.tuple #[.int .i64 (RRimExcess n l).1, .int .i64 (RRimExcess n l).2]) ∧ Drawn0 w w' := by
  rcases dec (arOk n) with ⟨hn, bn⟩ | ⟨hn, bn⟩ <;> rcases dec (northOk l) with ⟨hl, bl⟩ | ⟨hl, bl⟩
  · have f := Aside0.mk (show RRimExcess n l = (rimX n l, 0) from if_pos ⟨hn, hl⟩)
    go_enter Try.func43, Try.ntmps43
    go_wp2_with (first | (go_at_call 67; (with_reducible refine (impl_isAround_c _ bn.out).mono ?_); rintro e w' ⟨rfl, ⟨nd, rfl⟩⟩) | (go_at_call 68; (with_reducible refine (impl_isNorth_c _ bl.out).mono ?_); rintro e w' ⟨rfl, ⟨nd, rfl⟩⟩) | (go_at_call 78; (with_reducible refine (impl_rimExcess_c _ (by omega) (by omega)).mono ?_); rintro e w' ⟨rfl, ⟨nd, rfl⟩⟩))
    go_ret2
    exact ⟨pair_eq f.out, by repeat (first | exact Drawn0.refl _ | apply Drawn0.step)⟩
  all_goals
    have f := Aside0.mk (show RRimExcess n l = (0, 2) from if_neg (fun e => by first | exact hn e.1 | exact hl e.2))
    clear hn hl
    go_enter Try.func43, Try.ntmps43
    go_wp2_with (first | (go_at_call 67; (with_reducible refine (impl_isAround_c _ bn.out).mono ?_); rintro e w' ⟨rfl, ⟨nd, rfl⟩⟩) | (go_at_call 68; (with_reducible refine (impl_isNorth_c _ bl.out).mono ?_); rintro e w' ⟨rfl, ⟨nd, rfl⟩⟩))
    go_ret2
    exact ⟨pair_eq f.out, by repeat (first | exact Drawn0.refl _ | apply Drawn0.step)⟩
theorem spec_RimExcess_c {n l : Int} (w : World) : Calls Try.prog 42 #[.int .i64 n, .int .i64 l] w fun e w' => e = .returned (.tuple #[.int .i64 (RRimExcess n l).1, .int .i64 (RRimExcess n l).2]) ∧ Drawn0 w w' := by
  by_cases k : arOk n ∧ northOk l
  · have f := Aside0.mk (show RRimExcess n l = (rimX n l, 0) from if_pos k)
    have hc := Aside0.mk (show cod2 (arOk n ∧ northOk l) = 0 from if_pos k)
    obtain ⟨hn, hl⟩ := k
    go_enter Try.func42, Try.ntmps42
    go_wp2_with (first | (go_at_call 64; (with_reducible refine (spec_l06Code_c _ hc.out).mono ?_); rintro e w' ⟨rfl, ⟨nd, rfl⟩⟩) | (go_at_call 77; (with_reducible refine (spec_l06Excess_c _ (by omega) (by omega)).mono ?_); rintro e w' ⟨rfl, ⟨nd, rfl⟩⟩))
    go_ret2
    exact ⟨pair_eq f.out, by repeat (first | exact Drawn0.refl _ | apply Drawn0.step)⟩
  · have f := Aside0.mk (show RRimExcess n l = (0, 2) from if_neg k)
    have hc := Aside0.mk (show cod2 (arOk n ∧ northOk l) = 2 from if_neg k)
    clear k
    go_enter Try.func42, Try.ntmps42
    go_wp2_with (first | (go_at_call 64; (with_reducible refine (spec_l06Code_c _ hc.out).mono ?_); rintro e w' ⟨rfl, ⟨nd, rfl⟩⟩))
    go_ret2
    exact ⟨pair_eq f.out, by repeat (first | exact Drawn0.refl _ | apply Drawn0.step)⟩
theorem FnExactRimExcess_c (a b : Int) (w : World) (_ : (Lit.int .i64 a).wf = true) (_ : (Lit.int .i64 b).wf = true) : Calls Try.prog 14 #[.int .i64 a, .int .i64 b] w fun e w' => e = .returned (.bool (true)) ∧ Drawn0 w w' := by
  go_enter Try.func14, Try.ntmps14
  go_wp2_with (first | (go_at_call 42; (with_reducible refine (spec_RimExcess_c _).mono ?_); rintro e w' ⟨rfl, ⟨nd, rfl⟩⟩) | (go_at_call 43; (with_reducible refine (impl_RimExcess_c _).mono ?_); rintro e w' ⟨rfl, ⟨nd, rfl⟩⟩))
  go_ret
  exact ⟨rfl, by repeat (first | exact Drawn0.refl _ | apply Drawn0.step)⟩
theorem impl_BetweenSine_c {p a : Int} (w : World) : Calls Try.prog 39 #[.int .i64 p, .int .i64 a] w fun e w' => e = .returned (.tuple #[.int .i64 (RBetweenSine p a).1, .int .i64 (RBetweenSine p a).2]) ∧ Drawn0 w w' := by
  rcases dec (angOk a) with ⟨h, b⟩ | ⟨h, b⟩ <;> rcases dec (stepOk p) with ⟨g, c⟩ | ⟨g, c⟩
  · obtain ⟨⟨q0, q1⟩, ⟨q2, q3⟩, ⟨q4, q5⟩, ⟨q6, q7⟩⟩ := betw_bd g h
    have e1 : a - (a - a / p * p) = a / p * p := by omega
    have e2 : a / p * p + p = (a / p + 1) * p := by grind
    obtain ⟨⟨m0, m1⟩, ⟨m2, m3⟩⟩ : (-648000000000 ≤ (a - a / p * p) * (S (a - (a - a / p * p) + p) - S (a - (a - a / p * p))) ∧ (a - a / p * p) * (S (a - (a - a / p * p) + p) - S (a - (a - a / p * p))) ≤ 648000000000) ∧
        -2000000 ≤ near ((a - a / p * p) * (S (a - (a - a / p * p) + p) - S (a - (a - a / p * p)))) p ∧ near ((a - a / p * p) * (S (a - (a - a / p * p) + p) - S (a - (a - a / p * p)))) p ≤ 2000000 := by
      rw [e1, e2]; exact betw_mul g h
    obtain ⟨s0, s1⟩ := S_bd (a - (a - a / p * p))
    obtain ⟨t0, t1⟩ := S_bd (a - (a - a / p * p) + p)
    have f := Aside0.mk (show RBetweenSine p a = (S (a - (a - a / p * p)) + near ((a - a / p * p) * (S (a - (a - a / p * p) + p) - S (a - (a - a / p * p)))) p, 0) by rw [e1, e2]; exact if_pos ⟨g, h⟩)
    clear e1 e2
    go_enter Try.func39, Try.ntmps39
    go_wp2_with (first | (go_at_call 59; (with_reducible refine (impl_within_d _ c.out).mono ?_); rintro e w' ⟨rfl, ⟨nd, rfl⟩⟩) | (go_at_call 54; (with_reducible refine (impl_isAngle_c _ b.out).mono ?_); rintro e w' ⟨rfl, ⟨nd, rfl⟩⟩) | (go_at_call 72; (with_reducible refine (impl_floorDiv_c _ (by omega) (by omega) (by omega)).mono ?_); rintro e w' ⟨rfl, ⟨nd, rfl⟩⟩) | (go_at_call 57; (with_reducible refine (impl_sine_c _).mono ?_); rintro e w' ⟨rfl, ⟨nd, rfl⟩⟩) | (go_at_call 62; (with_reducible refine (impl_nearest_c _ (by omega) (by omega) (by omega) (by omega)).mono ?_); rintro e w' ⟨rfl, ⟨nd, rfl⟩⟩))
    repeat (go_quiet (first | (go_at_call 59; exact quiet0 (impl_within_d _ c.out)) | (go_at_call 54; exact quiet0 (impl_isAngle_c _ b.out)) | (go_at_call 72; exact quiet0 (impl_floorDiv_c _ (by omega) (by omega) (by omega))) | (go_at_call 57; exact quiet0 (impl_sine_c _)) | (go_at_call 62; exact quiet0 (impl_nearest_c _ (by omega) (by omega) (by omega) (by omega)))); try go_wp2)
    go_ret2
    exact ⟨pair_eq f.out, by repeat (first | exact Drawn0.refl _ | apply Drawn0.step)⟩
  all_goals
    have f := Aside0.mk (show RBetweenSine p a = (0, 2) from if_neg (fun e => by first | exact g e.1 | exact h e.2))
    clear g h
    go_enter Try.func39, Try.ntmps39
    go_wp2_with (first | (go_at_call 59; (with_reducible refine (impl_within_d _ c.out).mono ?_); rintro e w' ⟨rfl, ⟨nd, rfl⟩⟩) | (go_at_call 54; (with_reducible refine (impl_isAngle_c _ b.out).mono ?_); rintro e w' ⟨rfl, ⟨nd, rfl⟩⟩))
    go_ret2
    exact ⟨pair_eq f.out, by repeat (first | exact Drawn0.refl _ | apply Drawn0.step)⟩
theorem spec_BetweenSine_c {p a : Int} (w : World) : Calls Try.prog 38 #[.int .i64 p, .int .i64 a] w fun e w' => e = .returned (.tuple #[.int .i64 (RBetweenSine p a).1, .int .i64 (RBetweenSine p a).2]) ∧ Drawn0 w w' := by
  rcases dec (angOk a) with ⟨h, b⟩ | ⟨h, b⟩ <;> rcases dec (stepOk p) with ⟨g, c⟩ | ⟨g, c⟩
  · obtain ⟨⟨q0, q1⟩, ⟨q2, q3⟩, ⟨q4, q5⟩, ⟨q6, q7⟩⟩ := betw_bd g h
    obtain ⟨⟨m0, m1⟩, ⟨m2, m3⟩⟩ := betw_mul g h
    have e2 : a / p * p + p = (a / p + 1) * p := by grind
    obtain ⟨s0, s1⟩ := S_bd (a / p * p)
    obtain ⟨t0, t1⟩ := S_bd ((a / p + 1) * p)
    have f := Aside0.mk (show RBetweenSine p a = (S (a / p * p) + near ((a - a / p * p) * (S ((a / p + 1) * p) - S (a / p * p))) p, 0) from if_pos ⟨g, h⟩)
    go_enter Try.func38, Try.ntmps38
    go_wp2_with (first | (go_at_call 74; (with_reducible refine (spec_l03Step_c _ c.out).mono ?_); rintro e w' ⟨rfl, ⟨nd, rfl⟩⟩) | (go_at_call 53; (with_reducible refine (spec_l02Angle_c _ b.out).mono ?_); rintro e w' ⟨rfl, ⟨nd, rfl⟩⟩) | (go_at_call 71; (with_reducible refine (spec_l00Floor_c _ (by omega) (by omega) (by omega)).mono ?_); rintro e w' ⟨rfl, ⟨nd, rfl⟩⟩) | (go_at_call 61; (with_reducible refine (spec_l03Sine_c _).mono ?_); rintro e w' ⟨rfl, ⟨nd, rfl⟩⟩) | (go_at_call 73; (with_reducible refine (spec_l00Round_c _ (by omega) (by omega) (by omega) (by omega)).mono ?_); rintro e w' ⟨rfl, ⟨nd, rfl⟩⟩))
    repeat (go_quiet (first | (go_at_call 74; exact quiet0 (spec_l03Step_c _ c.out)) | (go_at_call 53; exact quiet0 (spec_l02Angle_c _ b.out)) | (go_at_call 71; exact quiet0 (spec_l00Floor_c _ (by omega) (by omega) (by omega))) | (go_at_call 61; exact quiet0 (spec_l03Sine_c _)) | (go_at_call 73; exact quiet0 (spec_l00Round_c _ (by omega) (by omega) (by omega) (by omega)))); try go_wp2)
    go_ret2
    exact ⟨pair_eq f.out, by repeat (first | exact Drawn0.refl _ | apply Drawn0.step)⟩
  all_goals
    have f := Aside0.mk (show RBetweenSine p a = (0, 2) from if_neg (fun e => by first | exact g e.1 | exact h e.2))
    clear g h
    go_enter Try.func38, Try.ntmps38
    go_wp2_with (first | (go_at_call 74; (with_reducible refine (spec_l03Step_c _ c.out).mono ?_); rintro e w' ⟨rfl, ⟨nd, rfl⟩⟩) | (go_at_call 53; (with_reducible refine (spec_l02Angle_c _ b.out).mono ?_); rintro e w' ⟨rfl, ⟨nd, rfl⟩⟩))
    go_ret2
    exact ⟨pair_eq f.out, by repeat (first | exact Drawn0.refl _ | apply Drawn0.step)⟩
theorem FnExactBetweenSine_c (a b : Int) (w : World) (_ : (Lit.int .i64 a).wf = true) (_ : (Lit.int .i64 b).wf = true) : Calls Try.prog 12 #[.int .i64 a, .int .i64 b] w fun e w' => e = .returned (.bool (true)) ∧ Drawn0 w w' := by
  go_enter Try.func12, Try.ntmps12
  go_wp2_with (first | (go_at_call 38; (with_reducible refine (spec_BetweenSine_c _).mono ?_); rintro e w' ⟨rfl, ⟨nd, rfl⟩⟩) | (go_at_call 39; (with_reducible refine (impl_BetweenSine_c _).mono ?_); rintro e w' ⟨rfl, ⟨nd, rfl⟩⟩))
  go_ret
  exact ⟨rfl, by repeat (first | exact Drawn0.refl _ | apply Drawn0.step)⟩
theorem impl_discCode_c {n r : Int} {ok : Bool} {c : Int} (w : World) (hc : discB n r ok = c) : Calls Try.prog 76 #[.int .i64 n, .int .i64 r, .bool ok] w fun e w' => e = .returned (.int .i64 c) ∧ Drawn0 w w' := by
  rcases dec (arOk n) with ⟨hn, bn⟩ | ⟨hn, bn⟩
  · rcases dec (radOk r) with ⟨hr, br⟩ | ⟨hr, br⟩
    · skip
      cases ok with
      | true =>
        by_cases z : n < 4 * r
        · have f := Aside0.mk (show c = 5 by rw [← hc]; unfold discB; rw [if_pos ⟨hn, hr, rfl⟩, if_pos z])
          clear hc
          go_enter Try.func76, Try.ntmps76
          go_wp2_with (first | (go_at_call 67; (with_reducible refine (impl_isAround_c _ bn.out).mono ?_); rintro e w' ⟨rfl, ⟨nd, rfl⟩⟩) | (go_at_call 69; (with_reducible refine (impl_isRadius_c _ br.out).mono ?_); rintro e w' ⟨rfl, ⟨nd, rfl⟩⟩))
          go_ret
          exact ⟨by rw [f.out]; rfl, by repeat (first | exact Drawn0.refl _ | apply Drawn0.step)⟩
        · have f := Aside0.mk (show c = 0 by rw [← hc]; unfold discB; rw [if_pos ⟨hn, hr, rfl⟩, if_neg z])
          clear hc
          go_enter Try.func76, Try.ntmps76
          go_wp2_with (first | (go_at_call 67; (with_reducible refine (impl_isAround_c _ bn.out).mono ?_); rintro e w' ⟨rfl, ⟨nd, rfl⟩⟩) | (go_at_call 69; (with_reducible refine (impl_isRadius_c _ br.out).mono ?_); rintro e w' ⟨rfl, ⟨nd, rfl⟩⟩))
          go_ret
          exact ⟨by rw [f.out]; rfl, by repeat (first | exact Drawn0.refl _ | apply Drawn0.step)⟩
      | false =>
        have f := Aside0.mk (show c = 2 by rw [← hc]; unfold discB; rw [if_neg (fun e => by simp at e)])
        clear hc hn hr
        go_enter Try.func76, Try.ntmps76
        go_wp2_with (first | (go_at_call 67; (with_reducible refine (impl_isAround_c _ bn.out).mono ?_); rintro e w' ⟨rfl, ⟨nd, rfl⟩⟩) | (go_at_call 69; (with_reducible refine (impl_isRadius_c _ br.out).mono ?_); rintro e w' ⟨rfl, ⟨nd, rfl⟩⟩))
        go_ret
        exact ⟨by rw [f.out]; rfl, by repeat (first | exact Drawn0.refl _ | apply Drawn0.step)⟩
    · have f := Aside0.mk (show c = 2 by rw [← hc]; unfold discB; rw [if_neg (fun e => hr e.2.1)])
      clear hc hn hr
      go_enter Try.func76, Try.ntmps76
      go_wp2_with (first | (go_at_call 67; (with_reducible refine (impl_isAround_c _ bn.out).mono ?_); rintro e w' ⟨rfl, ⟨nd, rfl⟩⟩) | (go_at_call 69; (with_reducible refine (impl_isRadius_c _ br.out).mono ?_); rintro e w' ⟨rfl, ⟨nd, rfl⟩⟩))
      go_ret
      exact ⟨by rw [f.out]; rfl, by repeat (first | exact Drawn0.refl _ | apply Drawn0.step)⟩
  · have f := Aside0.mk (show c = 2 by rw [← hc]; unfold discB; rw [if_neg (fun e => hn e.1)])
    clear hc hn
    go_enter Try.func76, Try.ntmps76
    go_wp2_with (first | (go_at_call 67; (with_reducible refine (impl_isAround_c _ bn.out).mono ?_); rintro e w' ⟨rfl, ⟨nd, rfl⟩⟩))
    go_ret
    exact ⟨by rw [f.out]; rfl, by repeat (first | exact Drawn0.refl _ | apply Drawn0.step)⟩
theorem spec_l06Radius_c {n r : Int} {c : Int} (w : World) (hc : discB n r true = c) : Calls Try.prog 75 #[.int .i64 n, .int .i64 r] w fun e w' => e = .returned (.int .i64 c) ∧ Drawn0 w w' := by
  rcases dec (arOk n) with ⟨hn, bn⟩ | ⟨hn, bn⟩
  · rcases dec (radOk r) with ⟨hr, br⟩ | ⟨hr, br⟩
    · skip
      by_cases z : n < 4 * r
      · have f := Aside0.mk (show c = 5 by rw [← hc]; unfold discB; rw [if_pos ⟨hn, hr, rfl⟩, if_pos z])
        clear hc
        go_enter Try.func75, Try.ntmps75
        go_wp2_with (first | (go_at_call 65; (with_reducible refine (spec_l00In_d _ (by first | exact bn.out | exact br.out)).mono ?_); rintro e w' ⟨rfl, ⟨nd, rfl⟩⟩))
        go_ret
        exact ⟨by rw [f.out]; rfl, by repeat (first | exact Drawn0.refl _ | apply Drawn0.step)⟩
      · have f := Aside0.mk (show c = 0 by rw [← hc]; unfold discB; rw [if_pos ⟨hn, hr, rfl⟩, if_neg z])
        clear hc
        go_enter Try.func75, Try.ntmps75
        go_wp2_with (first | (go_at_call 65; (with_reducible refine (spec_l00In_d _ (by first | exact bn.out | exact br.out)).mono ?_); rintro e w' ⟨rfl, ⟨nd, rfl⟩⟩))
        go_ret
        exact ⟨by rw [f.out]; rfl, by repeat (first | exact Drawn0.refl _ | apply Drawn0.step)⟩
    · have f := Aside0.mk (show c = 2 by rw [← hc]; unfold discB; rw [if_neg (fun e => hr e.2.1)])
      clear hc hn hr
      go_enter Try.func75, Try.ntmps75
      go_wp2_with (first | (go_at_call 65; (with_reducible refine (spec_l00In_d _ (by first | exact bn.out | exact br.out)).mono ?_); rintro e w' ⟨rfl, ⟨nd, rfl⟩⟩))
      go_ret
      exact ⟨by rw [f.out]; rfl, by repeat (first | exact Drawn0.refl _ | apply Drawn0.step)⟩
  · have f := Aside0.mk (show c = 2 by rw [← hc]; unfold discB; rw [if_neg (fun e => hn e.1)])
    clear hc hn
    go_enter Try.func75, Try.ntmps75
    go_wp2_with (first | (go_at_call 65; (with_reducible refine (spec_l00In_d _ bn.out).mono ?_); rintro e w' ⟨rfl, ⟨nd, rfl⟩⟩))
    go_ret
    exact ⟨by rw [f.out]; rfl, by repeat (first | exact Drawn0.refl _ | apply Drawn0.step)⟩
theorem impl_CapOverlap_c {n r l : Int} (w : World) : Calls Try.prog 41 #[.int .i64 n, .int .i64 r, .int .i64 l] w fun e w' => e = .returned (.tuple #[.int .i64 (RCapOverlap n r l).1, .int .i64 (RCapOverlap n r l).2]) ∧ Drawn0 w w' := by
  obtain ⟨c, hc⟩ : ∃ c, discB n r (decide (northOk l)) = c := ⟨_, rfl⟩
  by_cases z : c = 0
  · subst z
    obtain ⟨hn, hr, h4, hl⟩ := discB_0 hc
    have hl := of_decide_eq_true hl
    obtain ⟨m0, m1⟩ := arcLen_bd hn (a := 324000 - l) (by omega)
    have f := Aside0.mk (show RCapOverlap n r l = (r - arcLen n (324000 - l), 0) by unfold RCapOverlap onC; rw [hc]; rfl)
    rw [decide_eq_true hl] at hc
    have hc := Aside0.mk hc
    have bl := Aside0.mk (decide_eq_true hl)
    go_enter Try.func41, Try.ntmps41
    go_wp2_with (first | (go_at_call 68; (with_reducible refine (impl_isNorth_c _ bl.out).mono ?_); rintro e w' ⟨rfl, ⟨nd, rfl⟩⟩) | (go_at_call 76; (with_reducible refine (impl_discCode_c _ hc.out).mono ?_); rintro e w' ⟨rfl, ⟨nd, rfl⟩⟩) | (go_at_call 70; (with_reducible refine (impl_arcLength_c _ (by omega) (by omega)).mono ?_); rintro e w' ⟨rfl, ⟨nd, rfl⟩⟩))
    go_ret2
    exact ⟨pair_eq f.out, by repeat (first | exact Drawn0.refl _ | apply Drawn0.step)⟩
  · have f := Aside0.mk (show RCapOverlap n r l = (0, c) by unfold RCapOverlap onC; rw [hc, if_neg z])
    have z1 : (c == 0) = false := by simp [z]
    have z2 : (c != 0) = true := by simp [z]
    clear z
    rcases dec (northOk l) with ⟨hl, bl⟩ | ⟨hl, bl⟩
    all_goals
      rw [bl.out] at hc
      have hc := Aside0.mk hc
      clear hl
      go_enter Try.func41, Try.ntmps41
      go_wp2_with (first | (go_at_call 68; (with_reducible refine (impl_isNorth_c _ bl.out).mono ?_); rintro e w' ⟨rfl, ⟨nd, rfl⟩⟩) | (go_at_call 76; (with_reducible refine (impl_discCode_c _ hc.out).mono ?_); rintro e w' ⟨rfl, ⟨nd, rfl⟩⟩))
      go_ret2
      exact ⟨pair_eq f.out, by repeat (first | exact Drawn0.refl _ | apply Drawn0.step)⟩
theorem spec_CapOverlap_c {n r l : Int} (w : World) : Calls Try.prog 40 #[.int .i64 n, .int .i64 r, .int .i64 l] w fun e w' => e = .returned (.tuple #[.int .i64 (RCapOverlap n r l).1, .int .i64 (RCapOverlap n r l).2]) ∧ Drawn0 w w' := by
  by_cases k : arOk n ∧ northOk l
  · have hd := Aside0.mk (show cod2 (arOk n ∧ northOk l) = 0 from if_pos k)
    obtain ⟨hn, hl⟩ := k
    obtain ⟨m0, m1⟩ := arcLen_bd hn (a := 324000 - l) (by omega)
    obtain ⟨c, hc⟩ : ∃ c, discB n r true = c := ⟨_, rfl⟩
    by_cases z : c = 0
    · subst z
      obtain ⟨_, hr, h4, _⟩ := discB_0 hc
      have f := Aside0.mk (show RCapOverlap n r l = (r - arcLen n (324000 - l), 0) by unfold RCapOverlap onC; rw [decide_eq_true hl, hc]; rfl)
      have hc := Aside0.mk hc
      go_enter Try.func40, Try.ntmps40
      go_wp2_with (first | (go_at_call 64; (with_reducible refine (spec_l06Code_c _ hd.out).mono ?_); rintro e w' ⟨rfl, ⟨nd, rfl⟩⟩) | (go_at_call 75; (with_reducible refine (spec_l06Radius_c _ hc.out).mono ?_); rintro e w' ⟨rfl, ⟨nd, rfl⟩⟩) | (go_at_call 66; (with_reducible refine (spec_l06Arc_c _ (by omega) (by omega)).mono ?_); rintro e w' ⟨rfl, ⟨nd, rfl⟩⟩))
      go_ret2
      exact ⟨pair_eq f.out, by repeat (first | exact Drawn0.refl _ | apply Drawn0.step)⟩
    · have f := Aside0.mk (show RCapOverlap n r l = (0, c) by unfold RCapOverlap onC; rw [decide_eq_true hl, hc, if_neg z])
      have hc := Aside0.mk hc
      have z1 : (c == 0) = false := by simp [z]
      have z2 : (c != 0) = true := by simp [z]
      clear z
      go_enter Try.func40, Try.ntmps40
      go_wp2_with (first | (go_at_call 64; (with_reducible refine (spec_l06Code_c _ hd.out).mono ?_); rintro e w' ⟨rfl, ⟨nd, rfl⟩⟩) | (go_at_call 75; (with_reducible refine (spec_l06Radius_c _ hc.out).mono ?_); rintro e w' ⟨rfl, ⟨nd, rfl⟩⟩))
      go_ret2
      exact ⟨pair_eq f.out, by repeat (first | exact Drawn0.refl _ | apply Drawn0.step)⟩
  · have hd := Aside0.mk (show cod2 (arOk n ∧ northOk l) = 2 from if_neg k)
    have f := Aside0.mk (show RCapOverlap n r l = (0, 2) by unfold RCapOverlap; rw [show discB n r (decide (northOk l)) = 2 from if_neg (fun e => k ⟨e.1, of_decide_eq_true e.2.2⟩)]; rfl)
    clear k
    go_enter Try.func40, Try.ntmps40
    go_wp2_with (first | (go_at_call 64; (with_reducible refine (spec_l06Code_c _ hd.out).mono ?_); rintro e w' ⟨rfl, ⟨nd, rfl⟩⟩))
    go_ret2
    exact ⟨pair_eq f.out, by repeat (first | exact Drawn0.refl _ | apply Drawn0.step)⟩
theorem impl_SmallestCap_c {n l o : Int} (w : World) : Calls Try.prog 33 #[.int .i64 n, .int .i64 l, .int .i64 o] w fun e w' => e = .returned (.tuple #[.int .i64 (RSmallestCap n l o).1, .int .i64 (RSmallestCap n l o).2]) ∧ Drawn0 w w' := by
  rcases dec (arOk n) with ⟨hn, bn⟩ | ⟨hn, bn⟩
  · rcases dec (northOk l) with ⟨hl, bl⟩ | ⟨hl, bl⟩
    · rcases dec (radOk o) with ⟨ho, bo⟩ | ⟨ho, bo⟩
      · obtain ⟨m0, m1⟩ := arcLen_bd hn (a := 324000 - l) (by omega)
        by_cases g : 100000 < arcLen n (324000 - l) + o
        · skip
          · have f := Aside0.mk (show RSmallestCap n l o = (0, 5) by unfold RSmallestCap capV; rw [if_pos ⟨hn, hl, ho⟩, if_pos (Or.inl g)])
            go_enter Try.func33, Try.ntmps33
            go_wp2_with (first | (go_at_call 67; (with_reducible refine (impl_isAround_c _ bn.out).mono ?_); rintro e w' ⟨rfl, ⟨nd, rfl⟩⟩) | (go_at_call 68; (with_reducible refine (impl_isNorth_c _ bl.out).mono ?_); rintro e w' ⟨rfl, ⟨nd, rfl⟩⟩) | (go_at_call 69; (with_reducible refine (impl_isRadius_c _ bo.out).mono ?_); rintro e w' ⟨rfl, ⟨nd, rfl⟩⟩) | (go_at_call 70; (with_reducible refine (impl_arcLength_c _ (by omega) (by omega)).mono ?_); rintro e w' ⟨rfl, ⟨nd, rfl⟩⟩))
            go_ret2
            exact ⟨pair_eq f.out, by repeat (first | exact Drawn0.refl _ | apply Drawn0.step)⟩
        · by_cases g2 : n < 4 * (arcLen n (324000 - l) + o)
          · have f := Aside0.mk (show RSmallestCap n l o = (0, 5) by unfold RSmallestCap capV; rw [if_pos ⟨hn, hl, ho⟩, if_pos (Or.inr g2)])
            go_enter Try.func33, Try.ntmps33
            go_wp2_with (first | (go_at_call 67; (with_reducible refine (impl_isAround_c _ bn.out).mono ?_); rintro e w' ⟨rfl, ⟨nd, rfl⟩⟩) | (go_at_call 68; (with_reducible refine (impl_isNorth_c _ bl.out).mono ?_); rintro e w' ⟨rfl, ⟨nd, rfl⟩⟩) | (go_at_call 69; (with_reducible refine (impl_isRadius_c _ bo.out).mono ?_); rintro e w' ⟨rfl, ⟨nd, rfl⟩⟩) | (go_at_call 70; (with_reducible refine (impl_arcLength_c _ (by omega) (by omega)).mono ?_); rintro e w' ⟨rfl, ⟨nd, rfl⟩⟩))
            go_ret2
            exact ⟨pair_eq f.out, by repeat (first | exact Drawn0.refl _ | apply Drawn0.step)⟩
          · have f := Aside0.mk (show RSmallestCap n l o = (arcLen n (324000 - l) + o, 0) by unfold RSmallestCap capV; rw [if_pos ⟨hn, hl, ho⟩, if_neg (fun e => e.elim g g2)])
            go_enter Try.func33, Try.ntmps33
            go_wp2_with (first | (go_at_call 67; (with_reducible refine (impl_isAround_c _ bn.out).mono ?_); rintro e w' ⟨rfl, ⟨nd, rfl⟩⟩) | (go_at_call 68; (with_reducible refine (impl_isNorth_c _ bl.out).mono ?_); rintro e w' ⟨rfl, ⟨nd, rfl⟩⟩) | (go_at_call 69; (with_reducible refine (impl_isRadius_c _ bo.out).mono ?_); rintro e w' ⟨rfl, ⟨nd, rfl⟩⟩) | (go_at_call 70; (with_reducible refine (impl_arcLength_c _ (by omega) (by omega)).mono ?_); rintro e w' ⟨rfl, ⟨nd, rfl⟩⟩))
            go_ret2
            exact ⟨pair_eq f.out, by repeat (first | exact Drawn0.refl _ | apply Drawn0.step)⟩
      · have f := Aside0.mk (show RSmallestCap n l o = (0, 2) from if_neg (fun e => ho e.2.2))
        clear hn hl ho
        go_enter Try.func33, Try.ntmps33
        go_wp2_with (first | (go_at_call 67; (with_reducible refine (impl_isAround_c _ bn.out).mono ?_); rintro e w' ⟨rfl, ⟨nd, rfl⟩⟩) | (go_at_call 68; (with_reducible refine (impl_isNorth_c _ bl.out).mono ?_); rintro e w' ⟨rfl, ⟨nd, rfl⟩⟩) | (go_at_call 69; (with_reducible refine (impl_isRadius_c _ bo.out).mono ?_); rintro e w' ⟨rfl, ⟨nd, rfl⟩⟩))
        go_ret2
        exact ⟨pair_eq f.out, by repeat (first | exact Drawn0.refl _ | apply Drawn0.step)⟩
    · have f := Aside0.mk (show RSmallestCap n l o = (0, 2) from if_neg (fun e => hl e.2.1))
      clear hn hl
      go_enter Try.func33, Try.ntmps33
      go_wp2_with (first | (go_at_call 67; (with_reducible refine (impl_isAround_c _ bn.out).mono ?_); rintro e w' ⟨rfl, ⟨nd, rfl⟩⟩) | (go_at_call 68; (with_reducible refine (impl_isNorth_c _ bl.out).mono ?_); rintro e w' ⟨rfl, ⟨nd, rfl⟩⟩))
      go_ret2
      exact ⟨pair_eq f.out, by repeat (first | exact Drawn0.refl _ | apply Drawn0.step)⟩
  · have f := Aside0.mk (show RSmallestCap n l o = (0, 2) from if_neg (fun e => hn e.1))
    clear hn
    go_enter Try.func33, Try.ntmps33
    go_wp2_with (first | (go_at_call 67; (with_reducible refine (impl_isAround_c _ bn.out).mono ?_); rintro e w' ⟨rfl, ⟨nd, rfl⟩⟩))
    go_ret2
    exact ⟨pair_eq f.out, by repeat (first | exact Drawn0.refl _ | apply Drawn0.step)⟩
theorem spec_SmallestCap_c {n l o : Int} (w : World) : Calls Try.prog 32 #[.int .i64 n, .int .i64 l, .int .i64 o] w fun e w' => e = .returned (.tuple #[.int .i64 (RSmallestCap n l o).1, .int .i64 (RSmallestCap n l o).2]) ∧ Drawn0 w w' := by
  by_cases k : arOk n ∧ northOk l
  · have hd := Aside0.mk (show cod2 (arOk n ∧ northOk l) = 0 from if_pos k)
    obtain ⟨hn, hl⟩ := k
    rcases dec (radOk o) with ⟨ho, bo⟩ | ⟨ho, bo⟩
    · obtain ⟨m0, m1⟩ := arcLen_bd hn (a := 324000 - l) (by omega)
      by_cases g : 100000 < arcLen n (324000 - l) + o
      · skip
        · have f := Aside0.mk (show RSmallestCap n l o = (0, 5) by unfold RSmallestCap capV; rw [if_pos ⟨hn, hl, ho⟩, if_pos (Or.inl g)])
          go_enter Try.func32, Try.ntmps32
          go_wp2_with (first | (go_at_call 64; (with_reducible refine (spec_l06Code_c _ hd.out).mono ?_); rintro e w' ⟨rfl, ⟨nd, rfl⟩⟩) | (go_at_call 65; (with_reducible refine (spec_l00In_d _ bo.out).mono ?_); rintro e w' ⟨rfl, ⟨nd, rfl⟩⟩) | (go_at_call 66; (with_reducible refine (spec_l06Arc_c _ (by omega) (by omega)).mono ?_); rintro e w' ⟨rfl, ⟨nd, rfl⟩⟩))
          go_ret2
          exact ⟨pair_eq f.out, by repeat (first | exact Drawn0.refl _ | apply Drawn0.step)⟩
      · by_cases g2 : n < 4 * (arcLen n (324000 - l) + o)
        · have f := Aside0.mk (show RSmallestCap n l o = (0, 5) by unfold RSmallestCap capV; rw [if_pos ⟨hn, hl, ho⟩, if_pos (Or.inr g2)])
          go_enter Try.func32, Try.ntmps32
          go_wp2_with (first | (go_at_call 64; (with_reducible refine (spec_l06Code_c _ hd.out).mono ?_); rintro e w' ⟨rfl, ⟨nd, rfl⟩⟩) | (go_at_call 65; (with_reducible refine (spec_l00In_d _ bo.out).mono ?_); rintro e w' ⟨rfl, ⟨nd, rfl⟩⟩) | (go_at_call 66; (with_reducible refine (spec_l06Arc_c _ (by omega) (by omega)).mono ?_); rintro e w' ⟨rfl, ⟨nd, rfl⟩⟩))
          go_ret2
          exact ⟨pair_eq f.out, by repeat (first | exact Drawn0.refl _ | apply Drawn0.step)⟩
        · have f := Aside0.mk (show RSmallestCap n l o = (arcLen n (324000 - l) + o, 0) by unfold RSmallestCap capV; rw [if_pos ⟨hn, hl, ho⟩, if_neg (fun e => e.elim g g2)])
          go_enter Try.func32, Try.ntmps32
          go_wp2_with (first | (go_at_call 64; (with_reducible refine (spec_l06Code_c _ hd.out).mono ?_); rintro e w' ⟨rfl, ⟨nd, rfl⟩⟩) | (go_at_call 65; (with_reducible refine (spec_l00In_d _ bo.out).mono ?_); rintro e w' ⟨rfl, ⟨nd, rfl⟩⟩) | (go_at_call 66; (with_reducible refine (spec_l06Arc_c _ (by omega) (by omega)).mono ?_); rintro e w' ⟨rfl, ⟨nd, rfl⟩⟩))
          go_ret2
          exact ⟨pair_eq f.out, by repeat (first | exact Drawn0.refl _ | apply Drawn0.step)⟩
    · have f := Aside0.mk (show RSmallestCap n l o = (0, 2) from if_neg (fun e => ho e.2.2))
      clear hn hl ho
      go_enter Try.func32, Try.ntmps32
      go_wp2_with (first | (go_at_call 64; (with_reducible refine (spec_l06Code_c _ hd.out).mono ?_); rintro e w' ⟨rfl, ⟨nd, rfl⟩⟩) | (go_at_call 65; (with_reducible refine (spec_l00In_d _ bo.out).mono ?_); rintro e w' ⟨rfl, ⟨nd, rfl⟩⟩))
      go_ret2
      exact ⟨pair_eq f.out, by repeat (first | exact Drawn0.refl _ | apply Drawn0.step)⟩
  · have hd := Aside0.mk (show cod2 (arOk n ∧ northOk l) = 2 from if_neg k)
    have f := Aside0.mk (show RSmallestCap n l o = (0, 2) from if_neg (fun e => k ⟨e.1, e.2.1⟩))
    clear k
    go_enter Try.func32, Try.ntmps32
    go_wp2_with (first | (go_at_call 64; (with_reducible refine (spec_l06Code_c _ hd.out).mono ?_); rintro e w' ⟨rfl, ⟨nd, rfl⟩⟩))
    go_ret2
    exact ⟨pair_eq f.out, by repeat (first | exact Drawn0.refl _ | apply Drawn0.step)⟩
theorem FnExactCapOverlap_c (a b c : Int) (w : World) (_ : (Lit.int .i64 a).wf = true) (_ : (Lit.int .i64 b).wf = true) (_ : (Lit.int .i64 c).wf = true) : Calls Try.prog 13 #[.int .i64 a, .int .i64 b, .int .i64 c] w fun e w' => e = .returned (.bool (true)) ∧ Drawn0 w w' := by
  go_enter Try.func13, Try.ntmps13
  go_wp2_with (first | (go_at_call 40; (with_reducible refine (spec_CapOverlap_c _).mono ?_); rintro e w' ⟨rfl, ⟨nd, rfl⟩⟩) | (go_at_call 41; (with_reducible refine (impl_CapOverlap_c _).mono ?_); rintro e w' ⟨rfl, ⟨nd, rfl⟩⟩))
  go_ret
  exact ⟨rfl, by repeat (first | exact Drawn0.refl _ | apply Drawn0.step)⟩
theorem FnExactSmallestCap_c (a b c : Int) (w : World) (_ : (Lit.int .i64 a).wf = true) (_ : (Lit.int .i64 b).wf = true) (_ : (Lit.int .i64 c).wf = true) : Calls Try.prog 7 #[.int .i64 a, .int .i64 b, .int .i64 c] w fun e w' => e = .returned (.bool (true)) ∧ Drawn0 w w' := by
  go_enter Try.func7, Try.ntmps7
  go_wp2_with (first | (go_at_call 32; (with_reducible refine (spec_SmallestCap_c _).mono ?_); rintro e w' ⟨rfl, ⟨nd, rfl⟩⟩) | (go_at_call 33; (with_reducible refine (impl_SmallestCap_c _).mono ?_); rintro e w' ⟨rfl, ⟨nd, rfl⟩⟩))
  go_ret
  exact ⟨rfl, by repeat (first | exact Drawn0.refl _ | apply Drawn0.step)⟩
end Go.Proofs.Ytckbhiphmdpjnaa.Con
