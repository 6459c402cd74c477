/- Contracts of the program's functions on gores, discs and rims, second part. Conditions: as stated. -/
import Derived.Test.YtkfbbaaniglaeaaConC
import Derived.Test.YtkfbbaaniglaeaaMgo
import Derived.LoopTactic
namespace Go.Proofs.Ytkfbbaaniglaeaa.Con
open Go.RowKit Go.Proofs.YtkfbbaaniglaeaaW.PrintWords Go.Proofs.YtkfbbaaniglaeaaW.PrintLast Go.Proofs.YtkfbbaaniglaeaaW.PrintMore Go.Proofs.Ytkfbbaaniglaeaa.Mth
attribute [local go_sem] max2_int min2_int max_two min_two max_three min_three
set_option linter.unusedVariables false
set_option linter.unusedSimpArgs false
theorem impl_goreWidth_c {g n l : Int} (w : World) (hg : 6 ≤ g ∧ g ≤ 48) (hn : arOk n) (hl : latOk l) : Calls Try.prog 162 #[.int .i64 g, .int .i64 n, .int .i64 l] w fun e w' => e = .returned (.int .i64 (gw g n l)) ∧ Drawn0 w w' := by
  obtain ⟨m0, m1⟩ := nCo_bd hn l
  go_enter Try.func162, Try.ntmps162
  go_wp2_with (first | (go_at_call 190; (with_reducible refine (impl_cosine_c _ (by omega) (by omega)).mono ?_); rintro e w' ⟨rfl, ⟨nd, rfl⟩⟩) | (go_at_call 185; (with_reducible refine (impl_nearest_c _ (by omega) (by omega) (by omega) (by omega)).mono ?_); rintro e w' ⟨rfl, ⟨nd, rfl⟩⟩))
  go_ret
  exact ⟨rfl, by repeat (first | exact Drawn0.refl _ | apply Drawn0.step)⟩
theorem spec_l04Width_c {g n l : Int} (w : World) (hg : 6 ≤ g ∧ g ≤ 48) (hn : arOk n) (hl : latOk l) : Calls Try.prog 164 #[.int .i64 g, .int .i64 n, .int .i64 l] w fun e w' => e = .returned (.int .i64 (gw g n l)) ∧ Drawn0 w w' := by
  obtain ⟨m0, m1⟩ := nCo_bd hn l
  go_enter Try.func164, Try.ntmps164
  go_wp2_with (first | (go_at_call 188; (with_reducible refine (spec_l03Cosine_c _ (by omega) (by omega)).mono ?_); rintro e w' ⟨rfl, ⟨nd, rfl⟩⟩) | (go_at_call 187; (with_reducible refine (spec_l00Round_c _ (by omega) (by omega) (by omega) (by omega)).mono ?_); rintro e w' ⟨rfl, ⟨nd, rfl⟩⟩))
  go_ret
  exact ⟨rfl, by repeat (first | exact Drawn0.refl _ | apply Drawn0.step)⟩
theorem impl_parallel_c {n l : Int} (w : World) (hn : arOk n) (hl : latOk l) : Calls Try.prog 186 #[.int .i64 n, .int .i64 l] w fun e w' => e = .returned (.int .i64 (par n l)) ∧ Drawn0 w w' := by
  obtain ⟨m0, m1⟩ := nCo_bd hn l
  go_enter Try.func186, Try.ntmps186
  go_wp2_with (first | (go_at_call 190; (with_reducible refine (impl_cosine_c _ (by omega) (by omega)).mono ?_); rintro e w' ⟨rfl, ⟨nd, rfl⟩⟩) | (go_at_call 185; (with_reducible refine (impl_nearest_c _ (by omega) (by omega) (by omega) (by omega)).mono ?_); rintro e w' ⟨rfl, ⟨nd, rfl⟩⟩))
  go_ret
  exact ⟨rfl, by repeat (first | exact Drawn0.refl _ | apply Drawn0.step)⟩
theorem impl_closing_c {g n l : Int} (w : World) (hg : 6 ≤ g ∧ g ≤ 48) (hn : arOk n) (hl : latOk l) : Calls Try.prog 152 #[.int .i64 g, .int .i64 n, .int .i64 l] w fun e w' => e = .returned (.int .i64 (clo g n l)) ∧ Drawn0 w w' := by
  obtain ⟨m0, m1⟩ := nCo_bd hn l
  obtain ⟨a0, a1⟩ := gw_bd hg hn l
  obtain ⟨b0, b1⟩ := par_bd hn l
  obtain ⟨d0, d1⟩ := ggw_bd hg hn l
  have hp : near (n * Co l) 1000000 = par n l := rfl
  go_enter Try.func152, Try.ntmps152
  go_wp2_with (first | (go_at_call 162; (with_reducible refine (impl_goreWidth_c _ (by omega) (by omega) (by omega)).mono ?_); rintro e w' ⟨rfl, ⟨nd, rfl⟩⟩) | (go_at_call 186; (with_reducible refine (impl_parallel_c _ (by omega) (by omega)).mono ?_); rintro e w' ⟨rfl, ⟨nd, rfl⟩⟩))
  repeat (go_quiet (first | (go_at_call 162; exact quiet0 (impl_goreWidth_c _ (by omega) (by omega) (by omega))) | (go_at_call 186; exact quiet0 (impl_parallel_c _ (by omega) (by omega)))); try go_wp2)
  go_ret
  exact ⟨rfl, by repeat (first | exact Drawn0.refl _ | apply Drawn0.step)⟩
theorem spec_l04Closing_c {g n l : Int} (w : World) (hg : 6 ≤ g ∧ g ≤ 48) (hn : arOk n) (hl : latOk l) : Calls Try.prog 154 #[.int .i64 g, .int .i64 n, .int .i64 l] w fun e w' => e = .returned (.int .i64 (clo g n l)) ∧ Drawn0 w w' := by
  obtain ⟨m0, m1⟩ := nCo_bd hn l
  obtain ⟨a0, a1⟩ := gw_bd hg hn l
  obtain ⟨b0, b1⟩ := par_bd hn l
  obtain ⟨d0, d1⟩ := ggw_bd hg hn l
  have hp : near (n * Co l) 1000000 = par n l := rfl
  go_enter Try.func154, Try.ntmps154
  go_wp2_with (first | (go_at_call 164; (with_reducible refine (spec_l04Width_c _ (by omega) (by omega) (by omega)).mono ?_); rintro e w' ⟨rfl, ⟨nd, rfl⟩⟩) | (go_at_call 188; (with_reducible refine (spec_l03Cosine_c _ (by omega) (by omega)).mono ?_); rintro e w' ⟨rfl, ⟨nd, rfl⟩⟩) | (go_at_call 187; (with_reducible refine (spec_l00Round_c _ (by omega) (by omega) (by omega) (by omega)).mono ?_); rintro e w' ⟨rfl, ⟨nd, rfl⟩⟩))
  repeat (go_quiet (first | (go_at_call 164; exact quiet0 (spec_l04Width_c _ (by omega) (by omega) (by omega))) | (go_at_call 188; exact quiet0 (spec_l03Cosine_c _ (by omega) (by omega))) | (go_at_call 187; exact quiet0 (spec_l00Round_c _ (by omega) (by omega) (by omega) (by omega)))); try go_wp2)
  go_ret
  exact ⟨rfl, by repeat (first | exact Drawn0.refl _ | apply Drawn0.step)⟩
theorem spec_l04Code_c {g n l : Int} {c : Int} (w : World) (hc : cod12 (gOk g) (arOk n ∧ latOk l) = c) : Calls Try.prog 153 #[.int .i64 g, .int .i64 n, .int .i64 l] w fun e w' => e = .returned (.int .i64 (c)) ∧ Drawn0 w w' := by
  rcases dec (gOk g) with ⟨h, b⟩ | ⟨h, b⟩
  · rcases dec (arOk n) with ⟨hn, bn⟩ | ⟨hn, bn⟩
    · rcases dec (latOk l) with ⟨hl, bl⟩ | ⟨hl, bl⟩
      · have f := Aside0.mk (show c = 0 by rw [← hc]; unfold cod12; rw [if_pos h, if_pos ⟨hn, hl⟩])
        clear hc h hn hl
        go_enter Try.func153, Try.ntmps153
        go_wp2_with (first | (go_at_call 123; (with_reducible refine (spec_l04Ok_c _ b.out).mono ?_); rintro e w' ⟨rfl, ⟨nd, rfl⟩⟩) | (go_at_call 144; (with_reducible refine (spec_l00In_d _ (by first | exact bn.out | exact bl.out)).mono ?_); rintro e w' ⟨rfl, ⟨nd, rfl⟩⟩))
        go_ret
        exact ⟨by rw [f.out]; rfl, by repeat (first | exact Drawn0.refl _ | apply Drawn0.step)⟩
      · have f := Aside0.mk (show c = 2 by rw [← hc]; unfold cod12; rw [if_pos h, if_neg (fun e => hl e.2)])
        clear hc h hn hl
        go_enter Try.func153, Try.ntmps153
        go_wp2_with (first | (go_at_call 123; (with_reducible refine (spec_l04Ok_c _ b.out).mono ?_); rintro e w' ⟨rfl, ⟨nd, rfl⟩⟩) | (go_at_call 144; (with_reducible refine (spec_l00In_d _ (by first | exact bn.out | exact bl.out)).mono ?_); rintro e w' ⟨rfl, ⟨nd, rfl⟩⟩))
        go_ret
        exact ⟨by rw [f.out]; rfl, by repeat (first | exact Drawn0.refl _ | apply Drawn0.step)⟩
    · have f := Aside0.mk (show c = 2 by rw [← hc]; unfold cod12; rw [if_pos h, if_neg (fun e => hn e.1)])
      clear hc h hn
      go_enter Try.func153, Try.ntmps153
      go_wp2_with (first | (go_at_call 123; (with_reducible refine (spec_l04Ok_c _ b.out).mono ?_); rintro e w' ⟨rfl, ⟨nd, rfl⟩⟩) | (go_at_call 144; (with_reducible refine (spec_l00In_d _ bn.out).mono ?_); rintro e w' ⟨rfl, ⟨nd, rfl⟩⟩))
      go_ret
      exact ⟨by rw [f.out]; rfl, by repeat (first | exact Drawn0.refl _ | apply Drawn0.step)⟩
  · have f := Aside0.mk (show c = 1 by rw [← hc]; unfold cod12; rw [if_neg h])
    clear hc h
    go_enter Try.func153, Try.ntmps153
    go_wp2_with (first | (go_at_call 123; (with_reducible refine (spec_l04Ok_c _ b.out).mono ?_); rintro e w' ⟨rfl, ⟨nd, rfl⟩⟩))
    go_ret
    exact ⟨by rw [f.out]; rfl, by repeat (first | exact Drawn0.refl _ | apply Drawn0.step)⟩
theorem impl_GoreWidth_c {g n l : Int} (w : World) : Calls Try.prog 69 #[.int .i64 g, .int .i64 n, .int .i64 l] w fun e w' => e = .returned (.tuple #[.int .i64 (RGoreWidth g n l).1, .int .i64 (RGoreWidth g n l).2]) ∧ Drawn0 w w' := by
  rcases dec (gOk g) with ⟨h, b⟩ | ⟨h, b⟩ <;> rcases dec (arOk n) with ⟨hn, bn⟩ | ⟨hn, bn⟩ <;> rcases dec (latOk l) with ⟨hl, bl⟩ | ⟨hl, bl⟩
  · have f := Aside0.mk (show RGoreWidth g n l = (gw g n l, 0) by unfold RGoreWidth; rw [if_pos h, if_pos ⟨hn, hl⟩])
    go_enter Try.func69, Try.ntmps69
    go_wp2_with (first | (go_at_call 100; (with_reducible refine (impl_ValidGores_c _ b.out).mono ?_); rintro e w' ⟨rfl, ⟨nd, rfl⟩⟩) | (go_at_call 140; (with_reducible refine (impl_isAround_c _ bn.out).mono ?_); rintro e w' ⟨rfl, ⟨nd, rfl⟩⟩) | (go_at_call 151; (with_reducible refine (impl_isLat_c _ bl.out).mono ?_); rintro e w' ⟨rfl, ⟨nd, rfl⟩⟩) | (go_at_call 126; (with_reducible refine (impl_check_tt _).mono ?_); rintro e w' ⟨rfl, ⟨nd, rfl⟩⟩) | (go_at_call 126; (with_reducible refine (impl_check_tf _).mono ?_); rintro e w' ⟨rfl, ⟨nd, rfl⟩⟩) | (go_at_call 126; (with_reducible refine (impl_check_f _).mono ?_); rintro e w' ⟨rfl, ⟨nd, rfl⟩⟩) | (go_at_call 162; (with_reducible refine (impl_goreWidth_c _ (by omega) (by omega) (by omega)).mono ?_); rintro e w' ⟨rfl, ⟨nd, rfl⟩⟩))
    go_ret2
    exact ⟨pair_eq f.out, by repeat (first | exact Drawn0.refl _ | apply Drawn0.step)⟩
  iterate 3
    · have f := Aside0.mk (show RGoreWidth g n l = (0, 2) by unfold RGoreWidth; rw [if_pos h, if_neg (fun e => by first | exact hn e.1 | exact hl e.2)])
      clear h hn hl
      go_enter Try.func69, Try.ntmps69
      go_wp2_with (first | (go_at_call 100; (with_reducible refine (impl_ValidGores_c _ b.out).mono ?_); rintro e w' ⟨rfl, ⟨nd, rfl⟩⟩) | (go_at_call 140; (with_reducible refine (impl_isAround_c _ bn.out).mono ?_); rintro e w' ⟨rfl, ⟨nd, rfl⟩⟩) | (go_at_call 151; (with_reducible refine (impl_isLat_c _ bl.out).mono ?_); rintro e w' ⟨rfl, ⟨nd, rfl⟩⟩) | (go_at_call 126; (with_reducible refine (impl_check_tt _).mono ?_); rintro e w' ⟨rfl, ⟨nd, rfl⟩⟩) | (go_at_call 126; (with_reducible refine (impl_check_tf _).mono ?_); rintro e w' ⟨rfl, ⟨nd, rfl⟩⟩) | (go_at_call 126; (with_reducible refine (impl_check_f _).mono ?_); rintro e w' ⟨rfl, ⟨nd, rfl⟩⟩))
      go_ret2
      exact ⟨pair_eq f.out, by repeat (first | exact Drawn0.refl _ | apply Drawn0.step)⟩
  all_goals
    · have f := Aside0.mk (show RGoreWidth g n l = (0, 1) by unfold RGoreWidth; rw [if_neg h])
      clear h hn hl
      go_enter Try.func69, Try.ntmps69
      go_wp2_with (first | (go_at_call 100; (with_reducible refine (impl_ValidGores_c _ b.out).mono ?_); rintro e w' ⟨rfl, ⟨nd, rfl⟩⟩) | (go_at_call 140; (with_reducible refine (impl_isAround_c _ bn.out).mono ?_); rintro e w' ⟨rfl, ⟨nd, rfl⟩⟩) | (go_at_call 151; (with_reducible refine (impl_isLat_c _ bl.out).mono ?_); rintro e w' ⟨rfl, ⟨nd, rfl⟩⟩) | (go_at_call 126; (with_reducible refine (impl_check_tt _).mono ?_); rintro e w' ⟨rfl, ⟨nd, rfl⟩⟩) | (go_at_call 126; (with_reducible refine (impl_check_tf _).mono ?_); rintro e w' ⟨rfl, ⟨nd, rfl⟩⟩) | (go_at_call 126; (with_reducible refine (impl_check_f _).mono ?_); rintro e w' ⟨rfl, ⟨nd, rfl⟩⟩))
      go_ret2
      exact ⟨pair_eq f.out, by repeat (first | exact Drawn0.refl _ | apply Drawn0.step)⟩
theorem spec_GoreWidth_c {g n l : Int} (w : World) : Calls Try.prog 70 #[.int .i64 g, .int .i64 n, .int .i64 l] w fun e w' => e = .returned (.tuple #[.int .i64 (RGoreWidth g n l).1, .int .i64 (RGoreWidth g n l).2]) ∧ Drawn0 w w' := by
  by_cases h : gOk g
  · by_cases k : arOk n ∧ latOk l
    · have f := Aside0.mk (show RGoreWidth g n l = (gw g n l, 0) by unfold RGoreWidth; rw [if_pos h, if_pos k])
      have hc := Aside0.mk (show cod12 (gOk g) (arOk n ∧ latOk l) = 0 by unfold cod12; rw [if_pos h, if_pos k])
      obtain ⟨hn, hl⟩ := k
      go_enter Try.func70, Try.ntmps70
      go_wp2_with (first | (go_at_call 153; (with_reducible refine (spec_l04Code_c _ hc.out).mono ?_); rintro e w' ⟨rfl, ⟨nd, rfl⟩⟩) | (go_at_call 164; (with_reducible refine (spec_l04Width_c _ (by omega) (by omega) (by omega)).mono ?_); rintro e w' ⟨rfl, ⟨nd, rfl⟩⟩))
      go_ret2
      exact ⟨pair_eq f.out, by repeat (first | exact Drawn0.refl _ | apply Drawn0.step)⟩
    · have f := Aside0.mk (show RGoreWidth g n l = (0, 2) by unfold RGoreWidth; rw [if_pos h, if_neg k])
      have hc := Aside0.mk (show cod12 (gOk g) (arOk n ∧ latOk l) = 2 by unfold cod12; rw [if_pos h, if_neg k])
      clear h k
      go_enter Try.func70, Try.ntmps70
      go_wp2_with (first | (go_at_call 153; (with_reducible refine (spec_l04Code_c _ hc.out).mono ?_); rintro e w' ⟨rfl, ⟨nd, rfl⟩⟩))
      go_ret2
      exact ⟨pair_eq f.out, by repeat (first | exact Drawn0.refl _ | apply Drawn0.step)⟩
  · have f := Aside0.mk (show RGoreWidth g n l = (0, 1) by unfold RGoreWidth; rw [if_neg h])
    have hc := Aside0.mk (show cod12 (gOk g) (arOk n ∧ latOk l) = 1 by unfold cod12; rw [if_neg h])
    clear h
    go_enter Try.func70, Try.ntmps70
    go_wp2_with (first | (go_at_call 153; (with_reducible refine (spec_l04Code_c _ hc.out).mono ?_); rintro e w' ⟨rfl, ⟨nd, rfl⟩⟩))
    go_ret2
    exact ⟨pair_eq f.out, by repeat (first | exact Drawn0.refl _ | apply Drawn0.step)⟩
theorem impl_ClosingAt_c {g n l : Int} (w : World) : Calls Try.prog 58 #[.int .i64 g, .int .i64 n, .int .i64 l] w fun e w' => e = .returned (.tuple #[.int .i64 (RClosingAt g n l).1, .int .i64 (RClosingAt g n l).2]) ∧ Drawn0 w w' := by
  rcases dec (gOk g) with ⟨h, b⟩ | ⟨h, b⟩ <;> rcases dec (arOk n) with ⟨hn, bn⟩ | ⟨hn, bn⟩ <;> rcases dec (latOk l) with ⟨hl, bl⟩ | ⟨hl, bl⟩
  · have f := Aside0.mk (show RClosingAt g n l = (clo g n l, 0) by unfold RClosingAt; rw [if_pos h, if_pos ⟨hn, hl⟩])
    go_enter Try.func58, Try.ntmps58
    go_wp2_with (first | (go_at_call 100; (with_reducible refine (impl_ValidGores_c _ b.out).mono ?_); rintro e w' ⟨rfl, ⟨nd, rfl⟩⟩) | (go_at_call 140; (with_reducible refine (impl_isAround_c _ bn.out).mono ?_); rintro e w' ⟨rfl, ⟨nd, rfl⟩⟩) | (go_at_call 151; (with_reducible refine (impl_isLat_c _ bl.out).mono ?_); rintro e w' ⟨rfl, ⟨nd, rfl⟩⟩) | (go_at_call 126; (with_reducible refine (impl_check_tt _).mono ?_); rintro e w' ⟨rfl, ⟨nd, rfl⟩⟩) | (go_at_call 126; (with_reducible refine (impl_check_tf _).mono ?_); rintro e w' ⟨rfl, ⟨nd, rfl⟩⟩) | (go_at_call 126; (with_reducible refine (impl_check_f _).mono ?_); rintro e w' ⟨rfl, ⟨nd, rfl⟩⟩) | (go_at_call 152; (with_reducible refine (impl_closing_c _ (by omega) (by omega) (by omega)).mono ?_); rintro e w' ⟨rfl, ⟨nd, rfl⟩⟩))
    go_ret2
    exact ⟨pair_eq f.out, by repeat (first | exact Drawn0.refl _ | apply Drawn0.step)⟩
  iterate 3
    · have f := Aside0.mk (show RClosingAt g n l = (0, 2) by unfold RClosingAt; rw [if_pos h, if_neg (fun e => by first | exact hn e.1 | exact hl e.2)])
      clear h hn hl
      go_enter Try.func58, Try.ntmps58
      go_wp2_with (first | (go_at_call 100; (with_reducible refine (impl_ValidGores_c _ b.out).mono ?_); rintro e w' ⟨rfl, ⟨nd, rfl⟩⟩) | (go_at_call 140; (with_reducible refine (impl_isAround_c _ bn.out).mono ?_); rintro e w' ⟨rfl, ⟨nd, rfl⟩⟩) | (go_at_call 151; (with_reducible refine (impl_isLat_c _ bl.out).mono ?_); rintro e w' ⟨rfl, ⟨nd, rfl⟩⟩) | (go_at_call 126; (with_reducible refine (impl_check_tt _).mono ?_); rintro e w' ⟨rfl, ⟨nd, rfl⟩⟩) | (go_at_call 126; (with_reducible refine (impl_check_tf _).mono ?_); rintro e w' ⟨rfl, ⟨nd, rfl⟩⟩) | (go_at_call 126; (with_reducible refine (impl_check_f _).mono ?_); rintro e w' ⟨rfl, ⟨nd, rfl⟩⟩))
      go_ret2
      exact ⟨pair_eq f.out, by repeat (first | exact Drawn0.refl _ | apply Drawn0.step)⟩
  all_goals
    · have f := Aside0.mk (show RClosingAt g n l = (0, 1) by unfold RClosingAt; rw [if_neg h])
      clear h hn hl
      go_enter Try.func58, Try.ntmps58
      go_wp2_with (first | (go_at_call 100; (with_reducible refine (impl_ValidGores_c _ b.out).mono ?_); rintro e w' ⟨rfl, ⟨nd, rfl⟩⟩) | (go_at_call 140; (with_reducible refine (impl_isAround_c _ bn.out).mono ?_); rintro e w' ⟨rfl, ⟨nd, rfl⟩⟩) | (go_at_call 151; (with_reducible refine (impl_isLat_c _ bl.out).mono ?_); rintro e w' ⟨rfl, ⟨nd, rfl⟩⟩) | (go_at_call 126; (with_reducible refine (impl_check_tt _).mono ?_); rintro e w' ⟨rfl, ⟨nd, rfl⟩⟩) | (go_at_call 126; (with_reducible refine (impl_check_tf _).mono ?_); rintro e w' ⟨rfl, ⟨nd, rfl⟩⟩) | (go_at_call 126; (with_reducible refine (impl_check_f _).mono ?_); rintro e w' ⟨rfl, ⟨nd, rfl⟩⟩))
      go_ret2
      exact ⟨pair_eq f.out, by repeat (first | exact Drawn0.refl _ | apply Drawn0.step)⟩
theorem spec_ClosingAt_c {g n l : Int} (w : World) : Calls Try.prog 59 #[.int .i64 g, .int .i64 n, .int .i64 l] w fun e w' => e = .returned (.tuple #[.int .i64 (RClosingAt g n l).1, .int .i64 (RClosingAt g n l).2]) ∧ Drawn0 w w' := by
  by_cases h : gOk g
  · by_cases k : arOk n ∧ latOk l
    · have f := Aside0.mk (show RClosingAt g n l = (clo g n l, 0) by unfold RClosingAt; rw [if_pos h, if_pos k])
      have hc := Aside0.mk (show cod12 (gOk g) (arOk n ∧ latOk l) = 0 by unfold cod12; rw [if_pos h, if_pos k])
      obtain ⟨hn, hl⟩ := k
      go_enter Try.func59, Try.ntmps59
      go_wp2_with (first | (go_at_call 153; (with_reducible refine (spec_l04Code_c _ hc.out).mono ?_); rintro e w' ⟨rfl, ⟨nd, rfl⟩⟩) | (go_at_call 154; (with_reducible refine (spec_l04Closing_c _ (by omega) (by omega) (by omega)).mono ?_); rintro e w' ⟨rfl, ⟨nd, rfl⟩⟩))
      go_ret2
      exact ⟨pair_eq f.out, by repeat (first | exact Drawn0.refl _ | apply Drawn0.step)⟩
    · have f := Aside0.mk (show RClosingAt g n l = (0, 2) by unfold RClosingAt; rw [if_pos h, if_neg k])
      have hc := Aside0.mk (show cod12 (gOk g) (arOk n ∧ latOk l) = 2 by unfold cod12; rw [if_pos h, if_neg k])
      clear h k
      go_enter Try.func59, Try.ntmps59
      go_wp2_with (first | (go_at_call 153; (with_reducible refine (spec_l04Code_c _ hc.out).mono ?_); rintro e w' ⟨rfl, ⟨nd, rfl⟩⟩))
      go_ret2
      exact ⟨pair_eq f.out, by repeat (first | exact Drawn0.refl _ | apply Drawn0.step)⟩
  · have f := Aside0.mk (show RClosingAt g n l = (0, 1) by unfold RClosingAt; rw [if_neg h])
    have hc := Aside0.mk (show cod12 (gOk g) (arOk n ∧ latOk l) = 1 by unfold cod12; rw [if_neg h])
    clear h
    go_enter Try.func59, Try.ntmps59
    go_wp2_with (first | (go_at_call 153; (with_reducible refine (spec_l04Code_c _ hc.out).mono ?_); rintro e w' ⟨rfl, ⟨nd, rfl⟩⟩))
    go_ret2
    exact ⟨pair_eq f.out, by repeat (first | exact Drawn0.refl _ | apply Drawn0.step)⟩
end Go.Proofs.Ytkfbbaaniglaeaa.Con
