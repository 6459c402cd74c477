/- Contracts of the program's functions on gores, discs and rims, second part. Conditions: as stated. -/
import Derived.Test.YtjmciajeimhigaaConC
import Derived.Test.YtjmciajeimhigaaMgo
import Derived.LoopTactic
namespace Go.Proofs.Ytjmciajeimhigaa.Con
open Go.RowKit Go.Proofs.YtjmciajeimhigaaW.PrintWords Go.Proofs.YtjmciajeimhigaaW.PrintLast Go.Proofs.YtjmciajeimhigaaW.PrintMore Go.Proofs.Ytjmciajeimhigaa.Mth
attribute [local go_sem] max2_int min2_int max_two min_two max_three min_three
set_option linter.unusedVariables false
set_option linter.unusedSimpArgs false
theorem impl_goreWidth_c {g n l : Int} (w : World) (hg : 6 ≤ g ∧ g ≤ 48) (hn : arOk n) (hl : latOk l) : Calls Try.prog 73 #[.int .i64 g, .int .i64 n, .int .i64 l] w fun e w' => e = .returned (.int .i64 (gw g n l)) ∧ Drawn0 w w' := by
  obtain ⟨m0, m1⟩ := nCo_bd hn l
  go_enter Try.func73, Try.ntmps73
  go_wp2_with (first | (go_at_call 64; (with_reducible refine (impl_cosine_c _ (by omega) (by omega)).mono ?_); rintro e w' ⟨rfl, ⟨nd, rfl⟩⟩) | (go_at_call 63; (with_reducible refine (impl_nearest_c _ (by omega) (by omega) (by omega) (by omega)).mono ?_); rintro e w' ⟨rfl, ⟨nd, rfl⟩⟩))
  go_ret
  exact ⟨rfl, by repeat (first | exact Drawn0.refl _ | apply Drawn0.step)⟩
theorem spec_l04Width_c {g n l : Int} (w : World) (hg : 6 ≤ g ∧ g ≤ 48) (hn : arOk n) (hl : latOk l) : Calls Try.prog 68 #[.int .i64 g, .int .i64 n, .int .i64 l] w fun e w' => e = .returned (.int .i64 (gw g n l)) ∧ Drawn0 w w' := by
  obtain ⟨m0, m1⟩ := nCo_bd hn l
  go_enter Try.func68, Try.ntmps68
  go_wp2_with (first | (go_at_call 102; (with_reducible refine (spec_l03Cosine_c _ (by omega) (by omega)).mono ?_); rintro e w' ⟨rfl, ⟨nd, rfl⟩⟩) | (go_at_call 100; (with_reducible refine (spec_l00Round_c _ (by omega) (by omega) (by omega) (by omega)).mono ?_); rintro e w' ⟨rfl, ⟨nd, rfl⟩⟩))
  go_ret
  exact ⟨rfl, by repeat (first | exact Drawn0.refl _ | apply Drawn0.step)⟩
theorem impl_parallel_c {n l : Int} (w : World) (hn : arOk n) (hl : latOk l) : Calls Try.prog 103 #[.int .i64 n, .int .i64 l] w fun e w' => e = .returned (.int .i64 (par n l)) ∧ Drawn0 w w' := by
  obtain ⟨m0, m1⟩ := nCo_bd hn l
  go_enter Try.func103, Try.ntmps103
  go_wp2_with (first | (go_at_call 64; (with_reducible refine (impl_cosine_c _ (by omega) (by omega)).mono ?_); rintro e w' ⟨rfl, ⟨nd, rfl⟩⟩) | (go_at_call 63; (with_reducible refine (impl_nearest_c _ (by omega) (by omega) (by omega) (by omega)).mono ?_); rintro e w' ⟨rfl, ⟨nd, rfl⟩⟩))
  go_ret
  exact ⟨rfl, by repeat (first | exact Drawn0.refl _ | apply Drawn0.step)⟩
theorem impl_closing_c {g n l : Int} (w : World) (hg : 6 ≤ g ∧ g ≤ 48) (hn : arOk n) (hl : latOk l) : Calls Try.prog 76 #[.int .i64 g, .int .i64 n, .int .i64 l] w fun e w' => e = .returned (.int .i64 (clo g n l)) ∧ Drawn0 w w' := by
  obtain ⟨m0, m1⟩ := nCo_bd hn l
  obtain ⟨a0, a1⟩ := gw_bd hg hn l
  obtain ⟨b0, b1⟩ := par_bd hn l
  obtain ⟨d0, d1⟩ := ggw_bd hg hn l
  have hp : near (n * Co l) 1000000 = par n l := rfl
  go_enter Try.func76, Try.ntmps76
  go_wp2_with (first | (go_at_call 73; (with_reducible refine (impl_goreWidth_c _ (by omega) (by omega) (by omega)).mono ?_); rintro e w' ⟨rfl, ⟨nd, rfl⟩⟩) | (go_at_call 103; (with_reducible refine (impl_parallel_c _ (by omega) (by omega)).mono ?_); rintro e w' ⟨rfl, ⟨nd, rfl⟩⟩))
  repeat (go_quiet (first | (go_at_call 73; exact quiet0 (impl_goreWidth_c _ (by omega) (by omega) (by omega))) | (go_at_call 103; exact quiet0 (impl_parallel_c _ (by omega) (by omega)))); try go_wp2)
  go_ret
  exact ⟨rfl, by repeat (first | exact Drawn0.refl _ | apply Drawn0.step)⟩
theorem spec_l04Closing_c {g n l : Int} (w : World) (hg : 6 ≤ g ∧ g ≤ 48) (hn : arOk n) (hl : latOk l) : Calls Try.prog 75 #[.int .i64 g, .int .i64 n, .int .i64 l] w fun e w' => e = .returned (.int .i64 (clo g n l)) ∧ Drawn0 w w' := by
  obtain ⟨m0, m1⟩ := nCo_bd hn l
  obtain ⟨a0, a1⟩ := gw_bd hg hn l
  obtain ⟨b0, b1⟩ := par_bd hn l
  obtain ⟨d0, d1⟩ := ggw_bd hg hn l
  have hp : near (n * Co l) 1000000 = par n l := rfl
  go_enter Try.func75, Try.ntmps75
  go_wp2_with (first | (go_at_call 68; (with_reducible refine (spec_l04Width_c _ (by omega) (by omega) (by omega)).mono ?_); rintro e w' ⟨rfl, ⟨nd, rfl⟩⟩) | (go_at_call 102; (with_reducible refine (spec_l03Cosine_c _ (by omega) (by omega)).mono ?_); rintro e w' ⟨rfl, ⟨nd, rfl⟩⟩) | (go_at_call 100; (with_reducible refine (spec_l00Round_c _ (by omega) (by omega) (by omega) (by omega)).mono ?_); rintro e w' ⟨rfl, ⟨nd, rfl⟩⟩))
  repeat (go_quiet (first | (go_at_call 68; exact quiet0 (spec_l04Width_c _ (by omega) (by omega) (by omega))) | (go_at_call 102; exact quiet0 (spec_l03Cosine_c _ (by omega) (by omega))) | (go_at_call 100; exact quiet0 (spec_l00Round_c _ (by omega) (by omega) (by omega) (by omega)))); try go_wp2)
  go_ret
  exact ⟨rfl, by repeat (first | exact Drawn0.refl _ | apply Drawn0.step)⟩
theorem spec_l04Code_c {g n l : Int} {c : Int} (w : World) (hc : cod12 (gOk g) (arOk n ∧ latOk l) = c) : Calls Try.prog 101 #[.int .i64 g, .int .i64 n, .int .i64 l] w fun e w' => e = .returned (.int .i64 (c)) ∧ Drawn0 w w' := by
  rcases dec (gOk g) with ⟨h, b⟩ | ⟨h, b⟩
  · rcases dec (arOk n) with ⟨hn, bn⟩ | ⟨hn, bn⟩
    · rcases dec (latOk l) with ⟨hl, bl⟩ | ⟨hl, bl⟩
      · have f := Aside0.mk (show c = 0 by rw [← hc]; unfold cod12; rw [if_pos h, if_pos ⟨hn, hl⟩])
        clear hc h hn hl
        go_enter Try.func101, Try.ntmps101
        go_wp2_with (first | (go_at_call 77; (with_reducible refine (spec_l04Ok_c _ b.out).mono ?_); rintro e w' ⟨rfl, ⟨nd, rfl⟩⟩) | (go_at_call 92; (with_reducible refine (spec_l00In_d _ (by first | exact bn.out | exact bl.out)).mono ?_); rintro e w' ⟨rfl, ⟨nd, rfl⟩⟩))
        go_ret
        exact ⟨by rw [f.out]; rfl, by repeat (first | exact Drawn0.refl _ | apply Drawn0.step)⟩
      · have f := Aside0.mk (show c = 2 by rw [← hc]; unfold cod12; rw [if_pos h, if_neg (fun e => hl e.2)])
        clear hc h hn hl
        go_enter Try.func101, Try.ntmps101
        go_wp2_with (first | (go_at_call 77; (with_reducible refine (spec_l04Ok_c _ b.out).mono ?_); rintro e w' ⟨rfl, ⟨nd, rfl⟩⟩) | (go_at_call 92; (with_reducible refine (spec_l00In_d _ (by first | exact bn.out | exact bl.out)).mono ?_); rintro e w' ⟨rfl, ⟨nd, rfl⟩⟩))
        go_ret
        exact ⟨by rw [f.out]; rfl, by repeat (first | exact Drawn0.refl _ | apply Drawn0.step)⟩
    · have f := Aside0.mk (show c = 2 by rw [← hc]; unfold cod12; rw [if_pos h, if_neg (fun e => hn e.1)])
      clear hc h hn
      go_enter Try.func101, Try.ntmps101
      go_wp2_with (first | (go_at_call 77; (with_reducible refine (spec_l04Ok_c _ b.out).mono ?_); rintro e w' ⟨rfl, ⟨nd, rfl⟩⟩) | (go_at_call 92; (with_reducible refine (spec_l00In_d _ bn.out).mono ?_); rintro e w' ⟨rfl, ⟨nd, rfl⟩⟩))
      go_ret
      exact ⟨by rw [f.out]; rfl, by repeat (first | exact Drawn0.refl _ | apply Drawn0.step)⟩
  · have f := Aside0.mk (show c = 1 by rw [← hc]; unfold cod12; rw [if_neg h])
    clear hc h
    go_enter Try.func101, Try.ntmps101
    go_wp2_with (first | (go_at_call 77; (with_reducible refine (spec_l04Ok_c _ b.out).mono ?_); rintro e w' ⟨rfl, ⟨nd, rfl⟩⟩))
    go_ret
    exact ⟨by rw [f.out]; rfl, by repeat (first | exact Drawn0.refl _ | apply Drawn0.step)⟩
end Go.Proofs.Ytjmciajeimhigaa.Con
