/- Contracts of the program's functions on gores, discs and rims, second part. Conditions: as stated. -/
import Derived.Test.YtledlfncpjoepaaConC
import Derived.Test.YtledlfncpjoepaaMgo
import Derived.LoopTactic
namespace Go.Proofs.Ytledlfncpjoepaa.Con
open Go.RowKit Go.Proofs.YtledlfncpjoepaaW.PrintWords Go.Proofs.YtledlfncpjoepaaW.PrintLast Go.Proofs.YtledlfncpjoepaaW.PrintMore Go.Proofs.Ytledlfncpjoepaa.Mth
attribute [local go_sem] max2_int min2_int max_two min_two max_three min_three
set_option linter.unusedVariables false
set_option linter.unusedSimpArgs false
theorem impl_goreWidth_c {g n l : Int} (w : World) (hg : 6 ≤ g ∧ g ≤ 48) (hn : arOk n) (hl : latOk l) : Calls Try.prog 71 #[.int .i64 g, .int .i64 n, .int .i64 l] w fun e w' => e = .returned (.int .i64 (gw g n l)) ∧ Drawn0 w w' := by
  obtain ⟨m0, m1⟩ := nCo_bd hn l
  go_enter Try.func71, Try.ntmps71
  go_wp2_with (first | (go_at_call 55; (with_reducible refine (impl_cosine_c _ (by omega) (by omega)).mono ?_); rintro e w' ⟨rfl, ⟨nd, rfl⟩⟩) | (go_at_call 56; (with_reducible refine (impl_nearest_c _ (by omega) (by omega) (by omega) (by omega)).mono ?_); rintro e w' ⟨rfl, ⟨nd, rfl⟩⟩))
  go_ret
  exact ⟨rfl, by repeat (first | exact Drawn0.refl _ | apply Drawn0.step)⟩
theorem spec_l04Width_c {g n l : Int} (w : World) (hg : 6 ≤ g ∧ g ≤ 48) (hn : arOk n) (hl : latOk l) : Calls Try.prog 67 #[.int .i64 g, .int .i64 n, .int .i64 l] w fun e w' => e = .returned (.int .i64 (gw g n l)) ∧ Drawn0 w w' := by
  obtain ⟨m0, m1⟩ := nCo_bd hn l
  go_enter Try.func67, Try.ntmps67
  go_wp2_with (first | (go_at_call 50; (with_reducible refine (spec_l03Cosine_c _ (by omega) (by omega)).mono ?_); rintro e w' ⟨rfl, ⟨nd, rfl⟩⟩) | (go_at_call 98; (with_reducible refine (spec_l00Round_c _ (by omega) (by omega) (by omega) (by omega)).mono ?_); rintro e w' ⟨rfl, ⟨nd, rfl⟩⟩))
  go_ret
  exact ⟨rfl, by repeat (first | exact Drawn0.refl _ | apply Drawn0.step)⟩
theorem impl_parallel_c {n l : Int} (w : World) (hn : arOk n) (hl : latOk l) : Calls Try.prog 106 #[.int .i64 n, .int .i64 l] w fun e w' => e = .returned (.int .i64 (par n l)) ∧ Drawn0 w w' := by
  obtain ⟨m0, m1⟩ := nCo_bd hn l
  go_enter Try.func106, Try.ntmps106
  go_wp2_with (first | (go_at_call 55; (with_reducible refine (impl_cosine_c _ (by omega) (by omega)).mono ?_); rintro e w' ⟨rfl, ⟨nd, rfl⟩⟩) | (go_at_call 56; (with_reducible refine (impl_nearest_c _ (by omega) (by omega) (by omega) (by omega)).mono ?_); rintro e w' ⟨rfl, ⟨nd, rfl⟩⟩))
  go_ret
  exact ⟨rfl, by repeat (first | exact Drawn0.refl _ | apply Drawn0.step)⟩
theorem impl_closing_c {g n l : Int} (w : World) (hg : 6 ≤ g ∧ g ≤ 48) (hn : arOk n) (hl : latOk l) : Calls Try.prog 93 #[.int .i64 g, .int .i64 n, .int .i64 l] w fun e w' => e = .returned (.int .i64 (clo g n l)) ∧ Drawn0 w w' := by
  obtain ⟨m0, m1⟩ := nCo_bd hn l
  obtain ⟨a0, a1⟩ := gw_bd hg hn l
  obtain ⟨b0, b1⟩ := par_bd hn l
  obtain ⟨d0, d1⟩ := ggw_bd hg hn l
  have hp : near (n * Co l) 1000000 = par n l := rfl
  go_enter Try.func93, Try.ntmps93
  go_wp2_with (first | (go_at_call 71; (with_reducible refine (impl_goreWidth_c _ (by omega) (by omega) (by omega)).mono ?_); rintro e w' ⟨rfl, ⟨nd, rfl⟩⟩) | (go_at_call 106; (with_reducible refine (impl_parallel_c _ (by omega) (by omega)).mono ?_); rintro e w' ⟨rfl, ⟨nd, rfl⟩⟩))
  repeat (go_quiet (first | (go_at_call 71; exact quiet0 (impl_goreWidth_c _ (by omega) (by omega) (by omega))) | (go_at_call 106; exact quiet0 (impl_parallel_c _ (by omega) (by omega)))); try go_wp2)
  go_ret
  exact ⟨rfl, by repeat (first | exact Drawn0.refl _ | apply Drawn0.step)⟩
theorem spec_l04Closing_c {g n l : Int} (w : World) (hg : 6 ≤ g ∧ g ≤ 48) (hn : arOk n) (hl : latOk l) : Calls Try.prog 92 #[.int .i64 g, .int .i64 n, .int .i64 l] w fun e w' => e = .returned (.int .i64 (clo g n l)) ∧ Drawn0 w w' := by
  obtain ⟨m0, m1⟩ := nCo_bd hn l
  obtain ⟨a0, a1⟩ := gw_bd hg hn l
  obtain ⟨b0, b1⟩ := par_bd hn l
  obtain ⟨d0, d1⟩ := ggw_bd hg hn l
  have hp : near (n * Co l) 1000000 = par n l := rfl
  go_enter Try.func92, Try.ntmps92
  go_wp2_with (first | (go_at_call 67; (with_reducible refine (spec_l04Width_c _ (by omega) (by omega) (by omega)).mono ?_); rintro e w' ⟨rfl, ⟨nd, rfl⟩⟩) | (go_at_call 50; (with_reducible refine (spec_l03Cosine_c _ (by omega) (by omega)).mono ?_); rintro e w' ⟨rfl, ⟨nd, rfl⟩⟩) | (go_at_call 98; (with_reducible refine (spec_l00Round_c _ (by omega) (by omega) (by omega) (by omega)).mono ?_); rintro e w' ⟨rfl, ⟨nd, rfl⟩⟩))
  repeat (go_quiet (first | (go_at_call 67; exact quiet0 (spec_l04Width_c _ (by omega) (by omega) (by omega))) | (go_at_call 50; exact quiet0 (spec_l03Cosine_c _ (by omega) (by omega))) | (go_at_call 98; exact quiet0 (spec_l00Round_c _ (by omega) (by omega) (by omega) (by omega)))); try go_wp2)
  go_ret
  exact ⟨rfl, by repeat (first | exact Drawn0.refl _ | apply Drawn0.step)⟩
theorem spec_l04Code_c {g n l : Int} {c : Int} (w : World) (hc : cod12 (gOk g) (arOk n ∧ latOk l) = c) : Calls Try.prog 78 #[.int .i64 g, .int .i64 n, .int .i64 l] w fun e w' => e = .returned (.int .i64 (c)) ∧ Drawn0 w w' := by
  rcases dec (gOk g) with ⟨h, b⟩ | ⟨h, b⟩
  · rcases dec (arOk n) with ⟨hn, bn⟩ | ⟨hn, bn⟩
    · rcases dec (latOk l) with ⟨hl, bl⟩ | ⟨hl, bl⟩
      · have f := Aside0.mk (show c = 0 by rw [← hc]; unfold cod12; rw [if_pos h, if_pos ⟨hn, hl⟩])
        clear hc h hn hl
        go_enter Try.func78, Try.ntmps78
        go_wp2_with (first | (go_at_call 66; (with_reducible refine (spec_l04Ok_c _ b.out).mono ?_); rintro e w' ⟨rfl, ⟨nd, rfl⟩⟩) | (go_at_call 61; (with_reducible refine (spec_l00In_d _ (by first | exact bn.out | exact bl.out)).mono ?_); rintro e w' ⟨rfl, ⟨nd, rfl⟩⟩))
        go_ret
        exact ⟨by rw [f.out]; rfl, by repeat (first | exact Drawn0.refl _ | apply Drawn0.step)⟩
      · have f := Aside0.mk (show c = 2 by rw [← hc]; unfold cod12; rw [if_pos h, if_neg (fun e => hl e.2)])
        clear hc h hn hl
        go_enter Try.func78, Try.ntmps78
        go_wp2_with (first | (go_at_call 66; (with_reducible refine (spec_l04Ok_c _ b.out).mono ?_); rintro e w' ⟨rfl, ⟨nd, rfl⟩⟩) | (go_at_call 61; (with_reducible refine (spec_l00In_d _ (by first | exact bn.out | exact bl.out)).mono ?_); rintro e w' ⟨rfl, ⟨nd, rfl⟩⟩))
        go_ret
        exact ⟨by rw [f.out]; rfl, by repeat (first | exact Drawn0.refl _ | apply Drawn0.step)⟩
    · have f := Aside0.mk (show c = 2 by rw [← hc]; unfold cod12; rw [if_pos h, if_neg (fun e => hn e.1)])
      clear hc h hn
      go_enter Try.func78, Try.ntmps78
      go_wp2_with (first | (go_at_call 66; (with_reducible refine (spec_l04Ok_c _ b.out).mono ?_); rintro e w' ⟨rfl, ⟨nd, rfl⟩⟩) | (go_at_call 61; (with_reducible refine (spec_l00In_d _ bn.out).mono ?_); rintro e w' ⟨rfl, ⟨nd, rfl⟩⟩))
      go_ret
      exact ⟨by rw [f.out]; rfl, by repeat (first | exact Drawn0.refl _ | apply Drawn0.step)⟩
  · have f := Aside0.mk (show c = 1 by rw [← hc]; unfold cod12; rw [if_neg h])
    clear hc h
    go_enter Try.func78, Try.ntmps78
    go_wp2_with (first | (go_at_call 66; (with_reducible refine (spec_l04Ok_c _ b.out).mono ?_); rintro e w' ⟨rfl, ⟨nd, rfl⟩⟩))
    go_ret
    exact ⟨by rw [f.out]; rfl, by repeat (first | exact Drawn0.refl _ | apply Drawn0.step)⟩
theorem impl_GoreWidth_c {g n l : Int} (w : World) : Calls Try.prog 35 #[.int .i64 g, .int .i64 n, .int .i64 l] w fun e w' => e = .returned (.tuple #[.int .i64 (RGoreWidth g n l).1, .int .i64 (RGoreWidth g n l).2]) ∧ Drawn0 w w' := by
  rcases dec (gOk g) with ⟨h, b⟩ | ⟨h, b⟩ <;> rcases dec (arOk n) with ⟨hn, bn⟩ | ⟨hn, bn⟩ <;> rcases dec (latOk l) with ⟨hl, bl⟩ | ⟨hl, bl⟩
  · have f := Aside0.mk (show RGoreWidth g n l = (gw g n l, 0) by unfold RGoreWidth; rw [if_pos h, if_pos ⟨hn, hl⟩])
    go_enter Try.func35, Try.ntmps35
    go_wp2_with (first | (go_at_call 70; (with_reducible refine (impl_ValidGores_c _ b.out).mono ?_); rintro e w' ⟨rfl, ⟨nd, rfl⟩⟩) | (go_at_call 68; (with_reducible refine (impl_isAround_c _ bn.out).mono ?_); rintro e w' ⟨rfl, ⟨nd, rfl⟩⟩) | (go_at_call 80; (with_reducible refine (impl_isLat_c _ bl.out).mono ?_); rintro e w' ⟨rfl, ⟨nd, rfl⟩⟩) | (go_at_call 79; (with_reducible refine (impl_check_tt _).mono ?_); rintro e w' ⟨rfl, ⟨nd, rfl⟩⟩) | (go_at_call 79; (with_reducible refine (impl_check_tf _).mono ?_); rintro e w' ⟨rfl, ⟨nd, rfl⟩⟩) | (go_at_call 79; (with_reducible refine (impl_check_f _).mono ?_); rintro e w' ⟨rfl, ⟨nd, rfl⟩⟩) | (go_at_call 71; (with_reducible refine (impl_goreWidth_c _ (by omega) (by omega) (by omega)).mono ?_); rintro e w' ⟨rfl, ⟨nd, rfl⟩⟩))
    go_ret2
    exact ⟨pair_eq f.out, by repeat (first | exact Drawn0.refl _ | apply Drawn0.step)⟩
  iterate 3
    · have f := Aside0.mk (show RGoreWidth g n l = (0, 2) by unfold RGoreWidth; rw [if_pos h, if_neg (fun e => by first | exact hn e.1 | exact hl e.2)])
      clear h hn hl
      go_enter Try.func35, Try.ntmps35
      go_wp2_with (first | (go_at_call 70; (with_reducible refine (impl_ValidGores_c _ b.out).mono ?_); rintro e w' ⟨rfl, ⟨nd, rfl⟩⟩) | (go_at_call 68; (with_reducible refine (impl_isAround_c _ bn.out).mono ?_); rintro e w' ⟨rfl, ⟨nd, rfl⟩⟩) | (go_at_call 80; (with_reducible refine (impl_isLat_c _ bl.out).mono ?_); rintro e w' ⟨rfl, ⟨nd, rfl⟩⟩) | (go_at_call 79; (with_reducible refine (impl_check_tt _).mono ?_); rintro e w' ⟨rfl, ⟨nd, rfl⟩⟩) | (go_at_call 79; (with_reducible refine (impl_check_tf _).mono ?_); rintro e w' ⟨rfl, ⟨nd, rfl⟩⟩) | (go_at_call 79; (with_reducible refine (impl_check_f _).mono ?_); rintro e w' ⟨rfl, ⟨nd, rfl⟩⟩))
      go_ret2
      exact ⟨pair_eq f.out, by repeat (first | exact Drawn0.refl _ | apply Drawn0.step)⟩
  all_goals
    · have f := Aside0.mk (show RGoreWidth g n l = (0, 1) by unfold RGoreWidth; rw [if_neg h])
      clear h hn hl
      go_enter Try.func35, Try.ntmps35
      go_wp2_with (first | (go_at_call 70; (with_reducible refine (impl_ValidGores_c _ b.out).mono ?_); rintro e w' ⟨rfl, ⟨nd, rfl⟩⟩) | (go_at_call 68; (with_reducible refine (impl_isAround_c _ bn.out).mono ?_); rintro e w' ⟨rfl, ⟨nd, rfl⟩⟩) | (go_at_call 80; (with_reducible refine (impl_isLat_c _ bl.out).mono ?_); rintro e w' ⟨rfl, ⟨nd, rfl⟩⟩) | (go_at_call 79; (with_reducible refine (impl_check_tt _).mono ?_); rintro e w' ⟨rfl, ⟨nd, rfl⟩⟩) | (go_at_call 79; (with_reducible refine (impl_check_tf _).mono ?_); rintro e w' ⟨rfl, ⟨nd, rfl⟩⟩) | (go_at_call 79; (with_reducible refine (impl_check_f _).mono ?_); rintro e w' ⟨rfl, ⟨nd, rfl⟩⟩))
      go_ret2
      exact ⟨pair_eq f.out, by repeat (first | exact Drawn0.refl _ | apply Drawn0.step)⟩
theorem spec_GoreWidth_c {g n l : Int} (w : World) : Calls Try.prog 34 #[.int .i64 g, .int .i64 n, .int .i64 l] w fun e w' => e = .returned (.tuple #[.int .i64 (RGoreWidth g n l).1, .int .i64 (RGoreWidth g n l).2]) ∧ Drawn0 w w' := by
  by_cases h : gOk g
  · by_cases k : arOk n ∧ latOk l
    · have f := Aside0.mk (show RGoreWidth g n l = (gw g n l, 0) by unfold RGoreWidth; rw [if_pos h, if_pos k])
      have hc := Aside0.mk (show cod12 (gOk g) (arOk n ∧ latOk l) = 0 by unfold cod12; rw [if_pos h, if_pos k])
      obtain ⟨hn, hl⟩ := k
      go_enter Try.func34, Try.ntmps34
      go_wp2_with (first | (go_at_call 78; (with_reducible refine (spec_l04Code_c _ hc.out).mono ?_); rintro e w' ⟨rfl, ⟨nd, rfl⟩⟩) | (go_at_call 67; (with_reducible refine (spec_l04Width_c _ (by omega) (by omega) (by omega)).mono ?_); rintro e w' ⟨rfl, ⟨nd, rfl⟩⟩))
      go_ret2
      exact ⟨pair_eq f.out, by repeat (first | exact Drawn0.refl _ | apply Drawn0.step)⟩
    · have f := Aside0.mk (show RGoreWidth g n l = (0, 2) by unfold RGoreWidth; rw [if_pos h, if_neg k])
      have hc := Aside0.mk (show cod12 (gOk g) (arOk n ∧ latOk l) = 2 by unfold cod12; rw [if_pos h, if_neg k])
      clear h k
      go_enter Try.func34, Try.ntmps34
      go_wp2_with (first | (go_at_call 78; (with_reducible refine (spec_l04Code_c _ hc.out).mono ?_); rintro e w' ⟨rfl, ⟨nd, rfl⟩⟩))
      go_ret2
      exact ⟨pair_eq f.out, by repeat (first | exact Drawn0.refl _ | apply Drawn0.step)⟩
  · have f := Aside0.mk (show RGoreWidth g n l = (0, 1) by unfold RGoreWidth; rw [if_neg h])
    have hc := Aside0.mk (show cod12 (gOk g) (arOk n ∧ latOk l) = 1 by unfold cod12; rw [if_neg h])
    clear h
    go_enter Try.func34, Try.ntmps34
    go_wp2_with (first | (go_at_call 78; (with_reducible refine (spec_l04Code_c _ hc.out).mono ?_); rintro e w' ⟨rfl, ⟨nd, rfl⟩⟩))
    go_ret2
    exact ⟨pair_eq f.out, by repeat (first | exact Drawn0.refl _ | apply Drawn0.step)⟩
theorem FnExactGoreWidth_c (a b c : Int) (w : World) (_ : (Lit.int .i64 a).wf = true) (_ : (Lit.int .i64 b).wf = true) (_ : (Lit.int .i64 c).wf = true) : Calls Try.prog 8 #[.int .i64 a, .int .i64 b, .int .i64 c] w fun e w' => e = .returned (.bool (true)) ∧ Drawn0 w w' := by
  go_enter Try.func8, Try.ntmps8
  go_wp2_with (first | (go_at_call 34; (with_reducible refine (spec_GoreWidth_c _).mono ?_); rintro e w' ⟨rfl, ⟨nd, rfl⟩⟩) | (go_at_call 35; (with_reducible refine (impl_GoreWidth_c _).mono ?_); rintro e w' ⟨rfl, ⟨nd, rfl⟩⟩))
  go_ret
  exact ⟨rfl, by repeat (first | exact Drawn0.refl _ | apply Drawn0.step)⟩
theorem impl_ClosingAt_c {g n l : Int} (w : World) : Calls Try.prog 46 #[.int .i64 g, .int .i64 n, .int .i64 l] w fun e w' => e = .returned (.tuple #[.int .i64 (RClosingAt g n l).1, .int .i64 (RClosingAt g n l).2]) ∧ Drawn0 w w' := by
  rcases dec (gOk g) with ⟨h, b⟩ | ⟨h, b⟩ <;> rcases dec (arOk n) with ⟨hn, bn⟩ | ⟨hn, bn⟩ <;> rcases dec (latOk l) with ⟨hl, bl⟩ | ⟨hl, bl⟩
  · have f := Aside0.mk (show RClosingAt g n l = (clo g n l, 0) by unfold RClosingAt; rw [if_pos h, if_pos ⟨hn, hl⟩])
    go_enter Try.func46, Try.ntmps46
    go_wp2_with (first | (go_at_call 70; (with_reducible refine (impl_ValidGores_c _ b.out).mono ?_); rintro e w' ⟨rfl, ⟨nd, rfl⟩⟩) | (go_at_call 68; (with_reducible refine (impl_isAround_c _ bn.out).mono ?_); rintro e w' ⟨rfl, ⟨nd, rfl⟩⟩) | (go_at_call 80; (with_reducible refine (impl_isLat_c _ bl.out).mono ?_); rintro e w' ⟨rfl, ⟨nd, rfl⟩⟩) | (go_at_call 79; (with_reducible refine (impl_check_tt _).mono ?_); rintro e w' ⟨rfl, ⟨nd, rfl⟩⟩) | (go_at_call 79; (with_reducible refine (impl_check_tf _).mono ?_); rintro e w' ⟨rfl, ⟨nd, rfl⟩⟩) | (go_at_call 79; (with_reducible refine (impl_check_f _).mono ?_); rintro e w' ⟨rfl, ⟨nd, rfl⟩⟩) | (go_at_call 93; (with_reducible refine (impl_closing_c _ (by omega) (by omega) (by omega)).mono ?_); rintro e w' ⟨rfl, ⟨nd, rfl⟩⟩))
    go_ret2
    exact ⟨pair_eq f.out, by repeat (first | exact Drawn0.refl _ | apply Drawn0.step)⟩
  iterate 3
    · have f := Aside0.mk (show RClosingAt g n l = (0, 2) by unfold RClosingAt; rw [if_pos h, if_neg (fun e => by first | exact hn e.1 | exact hl e.2)])
      clear h hn hl
      go_enter Try.func46, Try.ntmps46
      go_wp2_with (first | (go_at_call 70; (with_reducible refine (impl_ValidGores_c _ b.out).mono ?_); rintro e w' ⟨rfl, ⟨nd, rfl⟩⟩) | (go_at_call 68; (with_reducible refine (impl_isAround_c _ bn.out).mono ?_); rintro e w' ⟨rfl, ⟨nd, rfl⟩⟩) | (go_at_call 80; (with_reducible refine (impl_isLat_c _ bl.out).mono ?_); rintro e w' ⟨rfl, ⟨nd, rfl⟩⟩) | (go_at_call 79; (with_reducible refine (impl_check_tt _).mono ?_); rintro e w' ⟨rfl, ⟨nd, rfl⟩⟩) | (go_at_call 79; (with_reducible refine (impl_check_tf _).mono ?_); rintro e w' ⟨rfl, ⟨nd, rfl⟩⟩) | (go_at_call 79; (with_reducible refine (impl_check_f _).mono ?_); rintro e w' ⟨rfl, ⟨nd, rfl⟩⟩))
      go_ret2
      exact ⟨pair_eq f.out, by repeat (first | exact Drawn0.refl _ | apply Drawn0.step)⟩
  all_goals
    · have f := Aside0.mk (show RClosingAt g n l = (0, 1) by unfold RClosingAt; rw [if_neg h])
      clear h hn hl
      go_enter Try.func46, Try.ntmps46
      go_wp2_with (first | (go_at_call 70; (with_reducible refine (impl_ValidGores_c _ b.out).mono ?_); rintro e w' ⟨rfl, ⟨nd, rfl⟩⟩) | (go_at_call 68; (with_reducible refine (impl_isAround_c _ bn.out).mono ?_); rintro e w' ⟨rfl, ⟨nd, rfl⟩⟩) | (go_at_call 80; (with_reducible refine (impl_isLat_c _ bl.out).mono ?_); rintro e w' ⟨rfl, ⟨nd, rfl⟩⟩) | (go_at_call 79; (with_reducible refine (impl_check_tt _).mono ?_); rintro e w' ⟨rfl, ⟨nd, rfl⟩⟩) | (go_at_call 79; (with_reducible refine (impl_check_tf _).mono ?_); rintro e w' ⟨rfl, ⟨nd, rfl⟩⟩) | (go_at_call 79; (with_reducible refine (impl_check_f _).mono ?_); rintro e w' ⟨rfl, ⟨nd, rfl⟩⟩))
      go_ret2
      exact ⟨pair_eq f.out, by repeat (first | exact Drawn0.refl _ | apply Drawn0.step)⟩
theorem spec_ClosingAt_c {g n l : Int} (w : World) : Calls Try.prog 45 #[.int .i64 g, .int .i64 n, .int .i64 l] w fun e w' => e = .returned (.tuple #[.int .i64 (RClosingAt g n l).1, .int .i64 (RClosingAt g n l).2]) ∧ Drawn0 w w' := by
  by_cases h : gOk g
  · by_cases k : arOk n ∧ latOk l
    · have f := Aside0.mk (show RClosingAt g n l = (clo g n l, 0) by unfold RClosingAt; rw [if_pos h, if_pos k])
      have hc := Aside0.mk (show cod12 (gOk g) (arOk n ∧ latOk l) = 0 by unfold cod12; rw [if_pos h, if_pos k])
      obtain ⟨hn, hl⟩ := k
      go_enter Try.func45, Try.ntmps45
      go_wp2_with (first | (go_at_call 78; (with_reducible refine (spec_l04Code_c _ hc.out).mono ?_); rintro e w' ⟨rfl, ⟨nd, rfl⟩⟩) | (go_at_call 92; (with_reducible refine (spec_l04Closing_c _ (by omega) (by omega) (by omega)).mono ?_); rintro e w' ⟨rfl, ⟨nd, rfl⟩⟩))
      go_ret2
      exact ⟨pair_eq f.out, by repeat (first | exact Drawn0.refl _ | apply Drawn0.step)⟩
    · have f := Aside0.mk (show RClosingAt g n l = (0, 2) by unfold RClosingAt; rw [if_pos h, if_neg k])
      have hc := Aside0.mk (show cod12 (gOk g) (arOk n ∧ latOk l) = 2 by unfold cod12; rw [if_pos h, if_neg k])
      clear h k
      go_enter Try.func45, Try.ntmps45
      go_wp2_with (first | (go_at_call 78; (with_reducible refine (spec_l04Code_c _ hc.out).mono ?_); rintro e w' ⟨rfl, ⟨nd, rfl⟩⟩))
      go_ret2
      exact ⟨pair_eq f.out, by repeat (first | exact Drawn0.refl _ | apply Drawn0.step)⟩
  · have f := Aside0.mk (show RClosingAt g n l = (0, 1) by unfold RClosingAt; rw [if_neg h])
    have hc := Aside0.mk (show cod12 (gOk g) (arOk n ∧ latOk l) = 1 by unfold cod12; rw [if_neg h])
    clear h
    go_enter Try.func45, Try.ntmps45
    go_wp2_with (first | (go_at_call 78; (with_reducible refine (spec_l04Code_c _ hc.out).mono ?_); rintro e w' ⟨rfl, ⟨nd, rfl⟩⟩))
    go_ret2
    exact ⟨pair_eq f.out, by repeat (first | exact Drawn0.refl _ | apply Drawn0.step)⟩
theorem FnExactClosingAt_c (a b c : Int) (w : World) (_ : (Lit.int .i64 a).wf = true) (_ : (Lit.int .i64 b).wf = true) (_ : (Lit.int .i64 c).wf = true) : Calls Try.prog 13 #[.int .i64 a, .int .i64 b, .int .i64 c] w fun e w' => e = .returned (.bool (true)) ∧ Drawn0 w w' := by
  go_enter Try.func13, Try.ntmps13
  go_wp2_with (first | (go_at_call 45; (with_reducible refine (spec_ClosingAt_c _).mono ?_); rintro e w' ⟨rfl, ⟨nd, rfl⟩⟩) | (go_at_call 46; (with_reducible refine (impl_ClosingAt_c _).mono ?_); rintro e w' ⟨rfl, ⟨nd, rfl⟩⟩))
  go_ret
  exact ⟨rfl, by repeat (first | exact Drawn0.refl _ | apply Drawn0.step)⟩
end Go.Proofs.Ytledlfncpjoepaa.Con
