/- Contracts of the program's functions on whole numbers, second part. Conditions: as stated. -/
import Derived.Test.YtckbhiphmdpjnaaConA
import Derived.LoopTactic
namespace Go.Proofs.Ytckbhiphmdpjnaa.Con
open Go.RowKit Go.Proofs.YtckbhiphmdpjnaaW.PrintWords Go.Proofs.YtckbhiphmdpjnaaW.PrintLast Go.Proofs.YtckbhiphmdpjnaaW.PrintMore Go.Proofs.Ytckbhiphmdpjnaa.Mth
attribute [local go_sem] max2_int min2_int max_two min_two max_three min_three
set_option linter.unusedVariables false
set_option linter.unusedSimpArgs false
theorem impl_arc_c {s : Int} (w : World) (hs0 : 0 ≤ s) (hs1 : s ≤ 1000000) : Calls Try.prog 60 #[.int .i64 s] w fun e w' => e = .returned (.int .i64 (Ar s)) ∧ Drawn0 w w' := by
  go_enter Try.func60, Try.ntmps60
  go_wp2
  go_loopw [3, 4] (fun v3 v4 wr => ∃ l h : Int, 0 ≤ l ∧ l ≤ h ∧ h ≤ 324000 ∧ s ≤ S h ∧ (∀ y, 0 ≤ y → y < l → S y < s) ∧ v3 = .int .i64 l ∧ v4 = .int .i64 h ∧ Drawn0 w wr) (fun v3 v4 _ => (intOf v4 - intOf v3).toNat)
  case atStart => exact ⟨0, 324000, by omega, by omega, by omega, by rw [S_q]; omega, fun y a b => by omega, rfl, rfl, Drawn0.refl _⟩
  case round =>
    obtain ⟨l, h, a, b, c, e, f, rfl, rfl, hd⟩ := hrel
    have f := Aside0.mk f
    have e := Aside0.mk e
    have hd := Aside0.mk hd
    by_cases hlt : l < h
    · by_cases q : s ≤ S ((l + h) / 2)
      · go_wp2_with ((go_at_call 57; (with_reducible refine (impl_sine_c _).mono ?_); rintro e w' ⟨rfl, ⟨nd, rfl⟩⟩))
        go_roundw
        case rel => exact ⟨l, (l + h) / 2, a, by omega, by omega, q, f.out, rfl, rfl, hd.out.step _⟩
        case measure => simp [intOf]; omega
      · go_wp2_with ((go_at_call 57; (with_reducible refine (impl_sine_c _).mono ?_); rintro e w' ⟨rfl, ⟨nd, rfl⟩⟩))
        go_roundw
        case rel =>
          refine ⟨(l + h) / 2 + 1, h, by omega, by omega, c, e.out, ?_, rfl, rfl, hd.out.step _⟩
          intro y y0 y1
          have := S_mono y0 (show y ≤ (l + h) / 2 by omega) (by omega)
          omega
        case measure => simp [intOf]; omega
    · have hh : l = h := by omega
      subst hh
      have g := Aside0.mk (IsArc.eq ⟨a, c, e.out, f.out⟩)
      go_wp2
      go_ret
      exact ⟨ret_int g.out.symm, hd.out⟩
theorem impl_ArcOf_c {s : Int} (w : World) : Calls Try.prog 28 #[.int .i64 s] w fun e w' => e = .returned (.tuple #[.int .i64 (RArcOf s).1, .int .i64 (RArcOf s).2]) ∧ Drawn0 w w' := by
  rcases dec (0 ≤ s ∧ s ≤ 1000000) with ⟨h, b⟩ | ⟨h, b⟩
  · have f := Aside0.mk (show RArcOf s = (Ar s, 0) from if_pos h)
    go_enter Try.func28, Try.ntmps28
    go_wp2_with (first | (go_at_call 59; (with_reducible refine (impl_within_d _ b.out).mono ?_); rintro e w' ⟨rfl, ⟨nd, rfl⟩⟩) | (go_at_call 60; (with_reducible refine (impl_arc_c _ (by omega) (by omega)).mono ?_); rintro e w' ⟨rfl, ⟨nd, rfl⟩⟩))
    go_ret2
    exact ⟨pair_eq f.out, by repeat (first | exact Drawn0.refl _ | apply Drawn0.step)⟩
  · have f := Aside0.mk (show RArcOf s = (0, 2) from if_neg h)
    clear h
    go_enter Try.func28, Try.ntmps28
    go_wp2_with (first | (go_at_call 59; (with_reducible refine (impl_within_d _ b.out).mono ?_); rintro e w' ⟨rfl, ⟨nd, rfl⟩⟩))
    go_ret2
    exact ⟨pair_eq f.out, by repeat (first | exact Drawn0.refl _ | apply Drawn0.step)⟩
theorem spec_WidthAt_c {n l : Int} (w : World) : Calls Try.prog 36 #[.int .i64 n, .int .i64 l] w fun e w' => e = .returned (.tuple #[.int .i64 (RWidthAt n l).1, .int .i64 (RWidthAt n l).2]) ∧ Drawn0 w w' := by
  rcases dec (0 ≤ n ∧ n ≤ 1000000) with ⟨h, b⟩ | ⟨h, b⟩
  · rcases dec (latOk l) with ⟨g, c⟩ | ⟨g, c⟩
    · have f := Aside0.mk (show RWidthAt n l = (near (n * Co l) 1000000, 0) from if_pos ⟨h, g⟩)
      obtain ⟨m0, m1⟩ := mul_bd (x := n) (y := Co l) (X := 1000000) (Y := 1000000) (by omega) (Co_bd l)
      go_enter Try.func36, Try.ntmps36
      go_wp2_with (first | (go_at_call 65; (with_reducible refine (spec_l00In_d _ (by first | exact b.out | exact c.out)).mono ?_); rintro e w' ⟨rfl, ⟨nd, rfl⟩⟩) | (go_at_call 63; (with_reducible refine (spec_l03Cosine_c _ (by omega) (by omega)).mono ?_); rintro e w' ⟨rfl, ⟨nd, rfl⟩⟩) | (go_at_call 73; (with_reducible refine (spec_l00Round_c _ (by omega) (by omega) (by omega) (by omega)).mono ?_); rintro e w' ⟨rfl, ⟨nd, rfl⟩⟩))
      go_ret2
      exact ⟨pair_eq f.out, by repeat (first | exact Drawn0.refl _ | apply Drawn0.step)⟩
    · have f := Aside0.mk (show RWidthAt n l = (0, 2) from if_neg (fun e => g e.2))
      clear g
      go_enter Try.func36, Try.ntmps36
      go_wp2_with (first | (go_at_call 65; (with_reducible refine (spec_l00In_d _ (by first | exact b.out | exact c.out)).mono ?_); rintro e w' ⟨rfl, ⟨nd, rfl⟩⟩))
      go_ret2
      exact ⟨pair_eq f.out, by repeat (first | exact Drawn0.refl _ | apply Drawn0.step)⟩
  · have f := Aside0.mk (show RWidthAt n l = (0, 2) from if_neg (fun e => h e.1))
    clear h
    go_enter Try.func36, Try.ntmps36
    go_wp2_with (first | (go_at_call 65; (with_reducible refine (spec_l00In_d _ b.out).mono ?_); rintro e w' ⟨rfl, ⟨nd, rfl⟩⟩))
    go_ret2
    exact ⟨pair_eq f.out, by repeat (first | exact Drawn0.refl _ | apply Drawn0.step)⟩
theorem FnExactWidthAt_c (a b : Int) (w : World) (_ : (Lit.int .i64 a).wf = true) (_ : (Lit.int .i64 b).wf = true) : Calls Try.prog 10 #[.int .i64 a, .int .i64 b] w fun e w' => e = .returned (.bool (true)) ∧ Drawn0 w w' := by
  go_enter Try.func10, Try.ntmps10
  go_wp2_with (first | (go_at_call 36; (with_reducible refine (spec_WidthAt_c _).mono ?_); rintro e w' ⟨rfl, ⟨nd, rfl⟩⟩) | (go_at_call 37; (with_reducible refine (impl_WidthAt_c _).mono ?_); rintro e w' ⟨rfl, ⟨nd, rfl⟩⟩))
  go_ret
  exact ⟨rfl, by repeat (first | exact Drawn0.refl _ | apply Drawn0.step)⟩
theorem impl_TangentOf_c {a : Int} (w : World) : Calls Try.prog 30 #[.int .i64 a] w fun e w' => e = .returned (.tuple #[.int .i64 (RTangentOf a).1, .int .i64 (RTangentOf a).2]) ∧ Drawn0 w w' := by
  obtain ⟨c0, c1⟩ := Co_bd a
  obtain ⟨s0, s1⟩ := S_bd a
  rcases dec (angOk a) with ⟨h, b⟩ | ⟨h, b⟩
  · by_cases z : Co a = 0
    · have f := Aside0.mk (show RTangentOf a = (0, 6) by unfold RTangentOf; rw [if_pos h, if_pos z])
      have z' : (Co a == 0) = true := by simp [z]
      clear z
      go_enter Try.func30, Try.ntmps30
      go_wp2_with (first | (go_at_call 54; (with_reducible refine (impl_isAngle_c _ b.out).mono ?_); rintro e w' ⟨rfl, ⟨nd, rfl⟩⟩) | (go_at_call 58; (with_reducible refine (impl_cosine_c _ (by omega) (by omega)).mono ?_); rintro e w' ⟨rfl, ⟨nd, rfl⟩⟩) | (go_at_call 57; (with_reducible refine (impl_sine_c _).mono ?_); rintro e w' ⟨rfl, ⟨nd, rfl⟩⟩))
      go_ret2
      exact ⟨pair_eq f.out, by repeat (first | exact Drawn0.refl _ | apply Drawn0.step)⟩
    · have z' : (Co a == 0) = false := by simp [z]
      by_cases g : Co a < 0
      · have f := Aside0.mk (show RTangentOf a = (near (1000000 * -S a) (-Co a), 0) by unfold RTangentOf nearS; rw [if_pos h, if_neg z, if_pos g, show 1000000 * -S a = -(1000000 * S a) by omega])
        clear z
        go_enter Try.func30, Try.ntmps30
        go_wp2_with (first | (go_at_call 54; (with_reducible refine (impl_isAngle_c _ b.out).mono ?_); rintro e w' ⟨rfl, ⟨nd, rfl⟩⟩) | (go_at_call 58; (with_reducible refine (impl_cosine_c _ (by omega) (by omega)).mono ?_); rintro e w' ⟨rfl, ⟨nd, rfl⟩⟩) | (go_at_call 57; (with_reducible refine (impl_sine_c _).mono ?_); rintro e w' ⟨rfl, ⟨nd, rfl⟩⟩) | (go_at_call 62; (with_reducible refine (impl_nearest_c _ (by omega) (by omega) (by omega) (by omega)).mono ?_); rintro e w' ⟨rfl, ⟨nd, rfl⟩⟩))
        go_ret2
        exact ⟨pair_eq f.out, by repeat (first | exact Drawn0.refl _ | apply Drawn0.step)⟩
      · have f := Aside0.mk (show RTangentOf a = (near (1000000 * S a) (Co a), 0) by unfold RTangentOf nearS; rw [if_pos h, if_neg z, if_neg g])
        have g : 0 < Co a := by omega
        clear z
        go_enter Try.func30, Try.ntmps30
        go_wp2_with (first | (go_at_call 54; (with_reducible refine (impl_isAngle_c _ b.out).mono ?_); rintro e w' ⟨rfl, ⟨nd, rfl⟩⟩) | (go_at_call 58; (with_reducible refine (impl_cosine_c _ (by omega) (by omega)).mono ?_); rintro e w' ⟨rfl, ⟨nd, rfl⟩⟩) | (go_at_call 57; (with_reducible refine (impl_sine_c _).mono ?_); rintro e w' ⟨rfl, ⟨nd, rfl⟩⟩) | (go_at_call 62; (with_reducible refine (impl_nearest_c _ (by omega) (by omega) (by omega) (by omega)).mono ?_); rintro e w' ⟨rfl, ⟨nd, rfl⟩⟩))
        go_ret2
        exact ⟨pair_eq f.out, by repeat (first | exact Drawn0.refl _ | apply Drawn0.step)⟩
  · have f := Aside0.mk (show RTangentOf a = (0, 2) from if_neg h)
    clear h
    go_enter Try.func30, Try.ntmps30
    go_wp2_with (first | (go_at_call 54; (with_reducible refine (impl_isAngle_c _ b.out).mono ?_); rintro e w' ⟨rfl, ⟨nd, rfl⟩⟩))
    go_ret2
    exact ⟨pair_eq f.out, by repeat (first | exact Drawn0.refl _ | apply Drawn0.step)⟩
end Go.Proofs.Ytckbhiphmdpjnaa.Con
