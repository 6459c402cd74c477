/- Contracts of the program's functions on gores, discs and rims, third part. Conditions: as stated. -/
import Derived.Test.YtkfbbaaniglaeaaConD
import Derived.Test.YtkfbbaaniglaeaaMgo
import Derived.LoopTactic
namespace Go.Proofs.Ytkfbbaaniglaeaa.Con
open Go.RowKit Go.Proofs.YtkfbbaaniglaeaaW.PrintWords Go.Proofs.YtkfbbaaniglaeaaW.PrintLast Go.Proofs.YtkfbbaaniglaeaaW.PrintMore Go.Proofs.Ytkfbbaaniglaeaa.Mth
attribute [local go_sem] max2_int min2_int max_two min_two max_three min_three
set_option linter.unusedVariables false
set_option linter.unusedSimpArgs false
theorem impl_arcLength_c {n a : Int} (w : World) (hn : arOk n) (ha : 0 ≤ a ∧ a ≤ 1296000) : Calls Try.prog 147 #[.int .i64 n, .int .i64 a] w fun e w' => e = .returned (.int .i64 (arcLen n a)) ∧ Drawn0 w w' := by
  obtain ⟨m0, m1⟩ := mul_nn_bd (x := n) (y := a) (X := 1000000) (Y := 1296000) (by omega) (by omega)
  go_enter Try.func147, Try.ntmps147
  go_wp2_with (first | (go_at_call 185; (with_reducible refine (impl_nearest_c _ (by omega) (by omega) (by omega) (by omega)).mono ?_); rintro e w' ⟨rfl, ⟨nd, rfl⟩⟩))
  go_ret
  exact ⟨rfl, by repeat (first | exact Drawn0.refl _ | apply Drawn0.step)⟩
theorem spec_l06Arc_c {n a : Int} (w : World) (hn : arOk n) (ha : 0 ≤ a ∧ a ≤ 1296000) : Calls Try.prog 148 #[.int .i64 n, .int .i64 a] w fun e w' => e = .returned (.int .i64 (arcLen n a)) ∧ Drawn0 w w' := by
  obtain ⟨m0, m1⟩ := mul_nn_bd (x := n) (y := a) (X := 1000000) (Y := 1296000) (by omega) (by omega)
  go_enter Try.func148, Try.ntmps148
  go_wp2_with (first | (go_at_call 187; (with_reducible refine (spec_l00Round_c _ (by omega) (by omega) (by omega) (by omega)).mono ?_); rintro e w' ⟨rfl, ⟨nd, rfl⟩⟩))
  go_ret
  exact ⟨rfl, by repeat (first | exact Drawn0.refl _ | apply Drawn0.step)⟩
theorem spec_l06Code_c {n l : Int} {c : Int} (w : World) (hc : cod2 (arOk n ∧ northOk l) = c) : Calls Try.prog 143 #[.int .i64 n, .int .i64 l] w fun e w' => e = .returned (.int .i64 (c)) ∧ Drawn0 w w' := by
  rcases dec (arOk n) with ⟨hn, bn⟩ | ⟨hn, bn⟩ <;> rcases dec (northOk l) with ⟨hl, bl⟩ | ⟨hl, bl⟩
  · have f := Aside0.mk (show c = 0 by rw [← hc]; exact if_pos ⟨hn, hl⟩)
    clear hc hn hl
    go_enter Try.func143, Try.ntmps143
    go_wp2_with (first | (go_at_call 144; (with_reducible refine (spec_l00In_d _ (by first | exact bn.out | exact bl.out)).mono ?_); rintro e w' ⟨rfl, ⟨nd, rfl⟩⟩))
    go_ret
    exact ⟨by rw [f.out]; rfl, by repeat (first | exact Drawn0.refl _ | apply Drawn0.step)⟩
  all_goals
    have f := Aside0.mk (show c = 2 by rw [← hc]; exact if_neg (fun e => by first | exact hn e.1 | exact hl e.2))
    clear hc hn hl
    go_enter Try.func143, Try.ntmps143
    go_wp2_with (first | (go_at_call 144; (with_reducible refine (spec_l00In_d _ (by first | exact bn.out | exact bl.out)).mono ?_); rintro e w' ⟨rfl, ⟨nd, rfl⟩⟩))
    go_ret
    exact ⟨by rw [f.out]; rfl, by repeat (first | exact Drawn0.refl _ | apply Drawn0.step)⟩
theorem impl_CapRadius_c {n l : Int} (w : World) : Calls Try.prog 76 #[.int .i64 n, .int .i64 l] w fun e w' => e = .returned (.tuple #[.int .i64 (RCapRadius n l).1, .int .i64 (RCapRadius n l).2]) ∧ Drawn0 w w' := by
  rcases dec (arOk n) with ⟨hn, bn⟩ | ⟨hn, bn⟩ <;> rcases dec (northOk l) with ⟨hl, bl⟩ | ⟨hl, bl⟩
  · have f := Aside0.mk (show RCapRadius n l = (arcLen n (324000 - l), 0) from if_pos ⟨hn, hl⟩)
    go_enter Try.func76, Try.ntmps76
    go_wp2_with (first | (go_at_call 140; (with_reducible refine (impl_isAround_c _ bn.out).mono ?_); rintro e w' ⟨rfl, ⟨nd, rfl⟩⟩) | (go_at_call 141; (with_reducible refine (impl_isNorth_c _ bl.out).mono ?_); rintro e w' ⟨rfl, ⟨nd, rfl⟩⟩) | (go_at_call 147; (with_reducible refine (impl_arcLength_c _ (by omega) (by omega)).mono ?_); rintro e w' ⟨rfl, ⟨nd, rfl⟩⟩))
    go_ret2
    exact ⟨pair_eq f.out, by repeat (first | exact Drawn0.refl _ | apply Drawn0.step)⟩
  all_goals
    have f := Aside0.mk (show RCapRadius n l = (0, 2) from if_neg (fun e => by first | exact hn e.1 | exact hl e.2))
    clear hn hl
    go_enter Try.func76, Try.ntmps76
    go_wp2_with (first | (go_at_call 140; (with_reducible refine (impl_isAround_c _ bn.out).mono ?_); rintro e w' ⟨rfl, ⟨nd, rfl⟩⟩) | (go_at_call 141; (with_reducible refine (impl_isNorth_c _ bl.out).mono ?_); rintro e w' ⟨rfl, ⟨nd, rfl⟩⟩))
    go_ret2
    exact ⟨pair_eq f.out, by repeat (first | exact Drawn0.refl _ | apply Drawn0.step)⟩
theorem spec_CapRadius_c {n l : Int} (w : World) : Calls Try.prog 77 #[.int .i64 n, .int .i64 l] w fun e w' => e = .returned (.tuple #[.int .i64 (RCapRadius n l).1, .int .i64 (RCapRadius n l).2]) ∧ Drawn0 w w' := by
  by_cases k : arOk n ∧ northOk l
  · have f := Aside0.mk (show RCapRadius n l = (arcLen n (324000 - l), 0) from if_pos k)
    have hc := Aside0.mk (show cod2 (arOk n ∧ northOk l) = 0 from if_pos k)
    obtain ⟨hn, hl⟩ := k
    go_enter Try.func77, Try.ntmps77
    go_wp2_with (first | (go_at_call 143; (with_reducible refine (spec_l06Code_c _ hc.out).mono ?_); rintro e w' ⟨rfl, ⟨nd, rfl⟩⟩) | (go_at_call 148; (with_reducible refine (spec_l06Arc_c _ (by omega) (by omega)).mono ?_); rintro e w' ⟨rfl, ⟨nd, rfl⟩⟩))
    go_ret2
    exact ⟨pair_eq f.out, by repeat (first | exact Drawn0.refl _ | apply Drawn0.step)⟩
  · have f := Aside0.mk (show RCapRadius n l = (0, 2) from if_neg k)
    have hc := Aside0.mk (show cod2 (arOk n ∧ northOk l) = 2 from if_neg k)
    clear k
    go_enter Try.func77, Try.ntmps77
    go_wp2_with (first | (go_at_call 143; (with_reducible refine (spec_l06Code_c _ hc.out).mono ?_); rintro e w' ⟨rfl, ⟨nd, rfl⟩⟩))
    go_ret2
    exact ⟨pair_eq f.out, by repeat (first | exact Drawn0.refl _ | apply Drawn0.step)⟩
theorem impl_rimExcess_c {n l : Int} (w : World) (hn : arOk n) (hl : northOk l) : Calls Try.prog 142 #[.int .i64 n, .int .i64 l] w fun e w' => e = .returned (.int .i64 (rimX n l)) ∧ Drawn0 w w' := by
  obtain ⟨m0, m1⟩ := arcLen_bd hn (a := 324000 - l) (by omega)
  obtain ⟨a0, a1⟩ := rim_bd hn hl
  obtain ⟨b0, b1⟩ := par_bd hn l
  go_enter Try.func142, Try.ntmps142
  go_wp2_with (first | (go_at_call 147; (with_reducible refine (impl_arcLength_c _ (by omega) (by omega)).mono ?_); rintro e w' ⟨rfl, ⟨nd, rfl⟩⟩) | (go_at_call 185; (with_reducible refine (impl_nearest_c _ (by omega) (by omega) (by omega) (by omega)).mono ?_); rintro e w' ⟨rfl, ⟨nd, rfl⟩⟩) | (go_at_call 186; (with_reducible refine (impl_parallel_c _ (by omega) (by omega)).mono ?_); rintro e w' ⟨rfl, ⟨nd, rfl⟩⟩))
  repeat (go_quiet (first | (go_at_call 147; exact quiet0 (impl_arcLength_c _ (by omega) (by omega))) | (go_at_call 185; exact quiet0 (impl_nearest_c _ (by omega) (by omega) (by omega) (by omega))) | (go_at_call 186; exact quiet0 (impl_parallel_c _ (by omega) (by omega)))); try go_wp2)
  go_ret
  exact ⟨rfl, by repeat (first | exact Drawn0.refl _ | apply Drawn0.step)⟩
theorem spec_l06Excess_c {n l : Int} (w : World) (hn : arOk n) (hl : northOk l) : Calls Try.prog 146 #[.int .i64 n, .int .i64 l] w fun e w' => e = .returned (.int .i64 (rimX n l)) ∧ Drawn0 w w' := by
  obtain ⟨m0, m1⟩ := arcLen_bd hn (a := 324000 - l) (by omega)
  obtain ⟨a0, a1⟩ := rim_bd hn hl
  obtain ⟨b0, b1⟩ := par_bd hn l
  obtain ⟨c0, c1⟩ := nCo_bd hn l
  have hp : near (n * Co l) 1000000 = par n l := rfl
  go_enter Try.func146, Try.ntmps146
  go_wp2_with (first | (go_at_call 148; (with_reducible refine (spec_l06Arc_c _ (by omega) (by omega)).mono ?_); rintro e w' ⟨rfl, ⟨nd, rfl⟩⟩) | (go_at_call 188; (with_reducible refine (spec_l03Cosine_c _ (by omega) (by omega)).mono ?_); rintro e w' ⟨rfl, ⟨nd, rfl⟩⟩) | (go_at_call 187; (with_reducible refine (spec_l00Round_c _ (by omega) (by omega) (by omega) (by omega)).mono ?_); rintro e w' ⟨rfl, ⟨nd, rfl⟩⟩))
  repeat (go_quiet (first | (go_at_call 148; exact quiet0 (spec_l06Arc_c _ (by omega) (by omega))) | (go_at_call 188; exact quiet0 (spec_l03Cosine_c _ (by omega) (by omega))) | (go_at_call 187; exact quiet0 (spec_l00Round_c _ (by omega) (by omega) (by omega) (by omega)))); try go_wp2)
  go_ret
  exact ⟨rfl, by repeat (first | exact Drawn0.refl _ | apply Drawn0.step)⟩
theorem impl_RimExcess_c {n l : Int} (w : World) : Calls Try.prog 55 #[.int .i64 n, .int .i64 l] w fun e w' => e = .returned (.tuple #[.int .i64 (RRimExcess n l).1, .int .i64 (RRimExcess n l).2]) ∧ Drawn0 w w' := by
  rcases dec (arOk n) with ⟨hn, bn⟩ | ⟨hn, bn⟩ <;> rcases dec (northOk l) with ⟨hl, bl⟩ | ⟨hl, bl⟩
  · have f := Aside0.mk (show RRimExcess n l = (rimX n l, 0) from if_pos ⟨hn, hl⟩)
    go_enter Try.func55, Try.ntmps55
    go_wp2_with (first | (go_at_call 140; (with_reducible refine (impl_isAround_c _ bn.out).mono ?_); rintro e w' ⟨rfl, ⟨nd, rfl⟩⟩) | (go_at_call 141; (with_reducible refine (impl_isNorth_c _ bl.out).mono ?_); rintro e w' ⟨rfl, ⟨nd, rfl⟩⟩) | (go_at_call 142; (with_reducible refine (impl_rimExcess_c _ (by omega) (by omega)).mono ?_); rintro e w' ⟨rfl, ⟨nd, rfl⟩⟩))
    go_ret2
    exact ⟨pair_eq f.out, by repeat (first | exact Drawn0.refl _ | apply Drawn0.step)⟩
  all_goals
    have f := Aside0.mk (show RRimExcess n l = (0, 2) from if_neg (fun e => by first | exact hn e.1 | exact hl e.2))
    clear hn hl
    go_enter Try.func55, Try.ntmps55
    go_wp2_with (first | (go_at_call 140; (with_reducible refine (impl_isAround_c _ bn.out).mono ?_); rintro e w' ⟨rfl, ⟨nd, rfl⟩⟩) | (go_at_call 141; (with_reducible refine (impl_isNorth_c _ bl.out).mono ?_); rintro e w' ⟨rfl, ⟨nd, rfl⟩⟩))
    go_ret2
    exact ⟨pair_eq f.out, by repeat (first | exact Drawn0.refl _ | apply Drawn0.step)⟩
theorem spec_RimExcess_c {n l : Int} (w : World) : Calls Try.prog 56 #[.int .i64 n, .int .i64 l] w fun e w' => e = .returned (.tuple #[.int .i64 (RRimExcess n l).1, .int .i64 (RRimExcess n l).2]) ∧ Drawn0 w w' := by
  by_cases k : arOk n ∧ northOk l
  · have f := Aside0.mk (show RRimExcess n l = (rimX n l, 0) from if_pos k)
    have hc := Aside0.mk (show cod2 (arOk n ∧ northOk l) = 0 from if_pos k)
    obtain ⟨hn, hl⟩ := k
    go_enter Try.func56, Try.ntmps56
    go_wp2_with (first | (go_at_call 143; (with_reducible refine (spec_l06Code_c _ hc.out).mono ?_); rintro e w' ⟨rfl, ⟨nd, rfl⟩⟩) | (go_at_call 146; (with_reducible refine (spec_l06Excess_c _ (by omega) (by omega)).mono ?_); rintro e w' ⟨rfl, ⟨nd, rfl⟩⟩))
    go_ret2
    exact ⟨pair_eq f.out, by repeat (first | exact Drawn0.refl _ | apply Drawn0.step)⟩
  · have f := Aside0.mk (show RRimExcess n l = (0, 2) from if_neg k)
    have hc := Aside0.mk (show cod2 (arOk n ∧ northOk l) = 2 from if_neg k)
    clear k
    go_enter Try.func56, Try.ntmps56
    go_wp2_with (first | (go_at_call 143; (with_reducible refine (spec_l06Code_c _ hc.out).mono ?_); rintro e w' ⟨rfl, ⟨nd, rfl⟩⟩))
    go_ret2
    exact ⟨pair_eq f.out, by repeat (first | exact Drawn0.refl _ | apply Drawn0.step)⟩
theorem impl_ceilDiv_c {a b : Int} (w : World) (hb : 0 < b) (h0 : 0 ≤ a) (h1 : a ≤ 1000000000000) : Calls Try.prog 105 #[.int .i64 a, .int .i64 b] w fun e w' => e = .returned (.int .i64 (-(-a / b))) ∧ Drawn0 w w' := by
  obtain ⟨c0, c1⟩ := ceil_bd hb h0 h1
  go_enter Try.func105, Try.ntmps105
  go_wp2_with (first | (go_at_call 172; (with_reducible refine (impl_floorDiv_c _ (by omega) (by omega) (by omega)).mono ?_); rintro e w' ⟨rfl, ⟨nd, rfl⟩⟩))
  go_ret
  exact ⟨rfl, by repeat (first | exact Drawn0.refl _ | apply Drawn0.step)⟩
theorem spec_l00Max_c {a b c : Int} (w : World) (hc : (if b < a then a else b) = c) : Calls Try.prog 145 #[.int .i64 a, .int .i64 b] w fun e w' => e = .returned (.int .i64 (c)) ∧ Drawn0 w w' := by
  by_cases h : b < a
  · have f := Aside0.mk (show c = a by rw [← hc]; exact if_pos h)
    clear hc
    go_enter Try.func145, Try.ntmps145
    go_wp2_with (first | (fail))
    go_ret
    exact ⟨by rw [f.out]; rfl, by repeat (first | exact Drawn0.refl _ | apply Drawn0.step)⟩
  · have f := Aside0.mk (show c = b by rw [← hc]; exact if_neg h)
    clear hc
    go_enter Try.func145, Try.ntmps145
    go_wp2_with (first | (fail))
    go_ret
    exact ⟨by rw [f.out]; rfl, by repeat (first | exact Drawn0.refl _ | apply Drawn0.step)⟩
theorem spec_l00Min_c {a b c : Int} (w : World) (hc : (if a < b then a else b) = c) : Calls Try.prog 196 #[.int .i64 a, .int .i64 b] w fun e w' => e = .returned (.int .i64 (c)) ∧ Drawn0 w w' := by
  by_cases h : a < b
  · have f := Aside0.mk (show c = a by rw [← hc]; exact if_pos h)
    clear hc
    go_enter Try.func196, Try.ntmps196
    go_wp2_with (first | (fail))
    go_ret
    exact ⟨by rw [f.out]; rfl, by repeat (first | exact Drawn0.refl _ | apply Drawn0.step)⟩
  · have f := Aside0.mk (show c = b by rw [← hc]; exact if_neg h)
    clear hc
    go_enter Try.func196, Try.ntmps196
    go_wp2_with (first | (fail))
    go_ret
    exact ⟨by rw [f.out]; rfl, by repeat (first | exact Drawn0.refl _ | apply Drawn0.step)⟩
theorem impl_SlitsFor_c {n l m : Int} (w : World) : Calls Try.prog 46 #[.int .i64 n, .int .i64 l, .int .i64 m] w fun e w' => e = .returned (.tuple #[.int .i64 (RSlitsFor n l m).1, .int .i64 (RSlitsFor n l m).2]) ∧ Drawn0 w w' := by
  rcases dec (arOk n) with ⟨hn, bn⟩ | ⟨hn, bn⟩
  · rcases dec (northOk l) with ⟨hl, bl⟩ | ⟨hl, bl⟩
    · rcases dec (brOk m) with ⟨hm, bm⟩ | ⟨hm, bm⟩
      · obtain ⟨x0, x1⟩ := rimX_bd hn hl
        by_cases z : 0 < rimX n l
        · have e : pos (rimX n l) = rimX n l := if_pos z
          obtain ⟨q0, q1⟩ := ceil_bd (a := rimX n l) (b := m) (by omega) (by omega) x1
          by_cases g : 72 < -(-(rimX n l) / m)
          · have f := Aside0.mk (show RSlitsFor n l m = (0, 5) by unfold RSlitsFor slits; rw [if_pos ⟨hn, hl, hm⟩, e, if_pos g])
            clear e
            go_enter Try.func46, Try.ntmps46
            go_wp2_with (first | (go_at_call 140; (with_reducible refine (impl_isAround_c _ bn.out).mono ?_); rintro e w' ⟨rfl, ⟨nd, rfl⟩⟩) | (go_at_call 141; (with_reducible refine (impl_isNorth_c _ bl.out).mono ?_); rintro e w' ⟨rfl, ⟨nd, rfl⟩⟩) | (go_at_call 104; (with_reducible refine (impl_isBreadth_c _ bm.out).mono ?_); rintro e w' ⟨rfl, ⟨nd, rfl⟩⟩) | (go_at_call 142; (with_reducible refine (impl_rimExcess_c _ (by omega) (by omega)).mono ?_); rintro e w' ⟨rfl, ⟨nd, rfl⟩⟩) | (go_at_call 105; (with_reducible refine (impl_ceilDiv_c _ (by omega) (by omega) (by omega)).mono ?_); rintro e w' ⟨rfl, ⟨nd, rfl⟩⟩))
            go_ret2
            exact ⟨pair_eq f.out, by repeat (first | exact Drawn0.refl _ | apply Drawn0.step)⟩
          · have f := Aside0.mk (show RSlitsFor n l m = (-(-(rimX n l) / m), 0) by unfold RSlitsFor slits; rw [if_pos ⟨hn, hl, hm⟩, e, if_neg g])
            clear e
            go_enter Try.func46, Try.ntmps46
            go_wp2_with (first | (go_at_call 140; (with_reducible refine (impl_isAround_c _ bn.out).mono ?_); rintro e w' ⟨rfl, ⟨nd, rfl⟩⟩) | (go_at_call 141; (with_reducible refine (impl_isNorth_c _ bl.out).mono ?_); rintro e w' ⟨rfl, ⟨nd, rfl⟩⟩) | (go_at_call 104; (with_reducible refine (impl_isBreadth_c _ bm.out).mono ?_); rintro e w' ⟨rfl, ⟨nd, rfl⟩⟩) | (go_at_call 142; (with_reducible refine (impl_rimExcess_c _ (by omega) (by omega)).mono ?_); rintro e w' ⟨rfl, ⟨nd, rfl⟩⟩) | (go_at_call 105; (with_reducible refine (impl_ceilDiv_c _ (by omega) (by omega) (by omega)).mono ?_); rintro e w' ⟨rfl, ⟨nd, rfl⟩⟩))
            go_ret2
            exact ⟨pair_eq f.out, by repeat (first | exact Drawn0.refl _ | apply Drawn0.step)⟩
        · have f := Aside0.mk (show RSlitsFor n l m = (0, 0) by unfold RSlitsFor slits; rw [if_pos ⟨hn, hl, hm⟩, show pos (rimX n l) = 0 from if_neg z]; simp)
          go_enter Try.func46, Try.ntmps46
          go_wp2_with (first | (go_at_call 140; (with_reducible refine (impl_isAround_c _ bn.out).mono ?_); rintro e w' ⟨rfl, ⟨nd, rfl⟩⟩) | (go_at_call 141; (with_reducible refine (impl_isNorth_c _ bl.out).mono ?_); rintro e w' ⟨rfl, ⟨nd, rfl⟩⟩) | (go_at_call 104; (with_reducible refine (impl_isBreadth_c _ bm.out).mono ?_); rintro e w' ⟨rfl, ⟨nd, rfl⟩⟩) | (go_at_call 142; (with_reducible refine (impl_rimExcess_c _ (by omega) (by omega)).mono ?_); rintro e w' ⟨rfl, ⟨nd, rfl⟩⟩) | (go_at_call 105; (with_reducible refine (impl_ceilDiv_c _ (by omega) (by omega) (by omega)).mono ?_); rintro e w' ⟨rfl, ⟨nd, rfl⟩⟩))
          go_ret2
          exact ⟨pair_eq f.out, by repeat (first | exact Drawn0.refl _ | apply Drawn0.step)⟩
      · have f := Aside0.mk (show RSlitsFor n l m = (0, 2) from if_neg (fun e => hm e.2.2))
        clear hn hl hm
        go_enter Try.func46, Try.ntmps46
        go_wp2_with (first | (go_at_call 140; (with_reducible refine (impl_isAround_c _ bn.out).mono ?_); rintro e w' ⟨rfl, ⟨nd, rfl⟩⟩) | (go_at_call 141; (with_reducible refine (impl_isNorth_c _ bl.out).mono ?_); rintro e w' ⟨rfl, ⟨nd, rfl⟩⟩) | (go_at_call 104; (with_reducible refine (impl_isBreadth_c _ bm.out).mono ?_); rintro e w' ⟨rfl, ⟨nd, rfl⟩⟩))
        go_ret2
        exact ⟨pair_eq f.out, by repeat (first | exact Drawn0.refl _ | apply Drawn0.step)⟩
    · have f := Aside0.mk (show RSlitsFor n l m = (0, 2) from if_neg (fun e => hl e.2.1))
      clear hn hl
      go_enter Try.func46, Try.ntmps46
      go_wp2_with (first | (go_at_call 140; (with_reducible refine (impl_isAround_c _ bn.out).mono ?_); rintro e w' ⟨rfl, ⟨nd, rfl⟩⟩) | (go_at_call 141; (with_reducible refine (impl_isNorth_c _ bl.out).mono ?_); rintro e w' ⟨rfl, ⟨nd, rfl⟩⟩))
      go_ret2
      exact ⟨pair_eq f.out, by repeat (first | exact Drawn0.refl _ | apply Drawn0.step)⟩
  · have f := Aside0.mk (show RSlitsFor n l m = (0, 2) from if_neg (fun e => hn e.1))
    clear hn
    go_enter Try.func46, Try.ntmps46
    go_wp2_with (first | (go_at_call 140; (with_reducible refine (impl_isAround_c _ bn.out).mono ?_); rintro e w' ⟨rfl, ⟨nd, rfl⟩⟩))
    go_ret2
    exact ⟨pair_eq f.out, by repeat (first | exact Drawn0.refl _ | apply Drawn0.step)⟩
theorem spec_SlitsFor_c {n l m : Int} (w : World) : Calls Try.prog 47 #[.int .i64 n, .int .i64 l, .int .i64 m] w fun e w' => e = .returned (.tuple #[.int .i64 (RSlitsFor n l m).1, .int .i64 (RSlitsFor n l m).2]) ∧ Drawn0 w w' := by
  by_cases k : arOk n ∧ northOk l
  · have hc := Aside0.mk (show cod2 (arOk n ∧ northOk l) = 0 from if_pos k)
    rcases dec (brOk m) with ⟨hm, bm⟩ | ⟨hm, bm⟩
    · obtain ⟨hn, hl⟩ := k
      obtain ⟨x0, x1⟩ := rimX_bd hn hl
      by_cases z : 0 < rimX n l
      · have e : pos (rimX n l) = rimX n l := if_pos z
        have hx := Aside0.mk (show (if rimX n l < 0 then 0 else rimX n l) = rimX n l from if_neg (by omega))
        obtain ⟨q0, q1⟩ := ceil_bd (a := rimX n l) (b := m) (by omega) (by omega) x1
        rw [ceil_eq (by omega)] at q0 q1
        by_cases g : 72 < (rimX n l + m - 1) / m
        · have f := Aside0.mk (show RSlitsFor n l m = (0, 5) by unfold RSlitsFor slits; rw [if_pos ⟨hn, hl, hm⟩, e, ceil_eq (by omega), if_pos g])
          clear e
          go_enter Try.func47, Try.ntmps47
          go_wp2_with (first | (go_at_call 143; (with_reducible refine (spec_l06Code_c _ hc.out).mono ?_); rintro e w' ⟨rfl, ⟨nd, rfl⟩⟩) | (go_at_call 144; (with_reducible refine (spec_l00In_d _ bm.out).mono ?_); rintro e w' ⟨rfl, ⟨nd, rfl⟩⟩) | (go_at_call 146; (with_reducible refine (spec_l06Excess_c _ (by omega) (by omega)).mono ?_); rintro e w' ⟨rfl, ⟨nd, rfl⟩⟩) | (go_at_call 145; (with_reducible refine (spec_l00Max_c _ hx.out).mono ?_); rintro e w' ⟨rfl, ⟨nd, rfl⟩⟩))
          go_ret2
          exact ⟨pair_eq f.out, by repeat (first | exact Drawn0.refl _ | apply Drawn0.step)⟩
        · have f := Aside0.mk (show RSlitsFor n l m = ((rimX n l + m - 1) / m, 0) by unfold RSlitsFor slits; rw [if_pos ⟨hn, hl, hm⟩, e, ceil_eq (by omega), if_neg g])
          clear e
          go_enter Try.func47, Try.ntmps47
          go_wp2_with (first | (go_at_call 143; (with_reducible refine (spec_l06Code_c _ hc.out).mono ?_); rintro e w' ⟨rfl, ⟨nd, rfl⟩⟩) | (go_at_call 144; (with_reducible refine (spec_l00In_d _ bm.out).mono ?_); rintro e w' ⟨rfl, ⟨nd, rfl⟩⟩) | (go_at_call 146; (with_reducible refine (spec_l06Excess_c _ (by omega) (by omega)).mono ?_); rintro e w' ⟨rfl, ⟨nd, rfl⟩⟩) | (go_at_call 145; (with_reducible refine (spec_l00Max_c _ hx.out).mono ?_); rintro e w' ⟨rfl, ⟨nd, rfl⟩⟩))
          go_ret2
          exact ⟨pair_eq f.out, by repeat (first | exact Drawn0.refl _ | apply Drawn0.step)⟩
      · have hq : (m - 1) / m = 0 := Int.ediv_eq_zero_of_lt (by omega) (by omega)
        have f := Aside0.mk (show RSlitsFor n l m = ((m - 1) / m, 0) by unfold RSlitsFor slits; rw [if_pos ⟨hn, hl, hm⟩, show pos (rimX n l) = 0 from if_neg z, hq]; simp)
        have hx := Aside0.mk (show (if rimX n l < 0 then 0 else rimX n l) = 0 by split <;> omega)
        have u0 : 0 ≤ (m - 1) / m := by omega
        have u1 : (m - 1) / m ≤ 0 := by omega
        clear hq
        go_enter Try.func47, Try.ntmps47
        go_wp2_with (first | (go_at_call 143; (with_reducible refine (spec_l06Code_c _ hc.out).mono ?_); rintro e w' ⟨rfl, ⟨nd, rfl⟩⟩) | (go_at_call 144; (with_reducible refine (spec_l00In_d _ bm.out).mono ?_); rintro e w' ⟨rfl, ⟨nd, rfl⟩⟩) | (go_at_call 146; (with_reducible refine (spec_l06Excess_c _ (by omega) (by omega)).mono ?_); rintro e w' ⟨rfl, ⟨nd, rfl⟩⟩) | (go_at_call 145; (with_reducible refine (spec_l00Max_c _ hx.out).mono ?_); rintro e w' ⟨rfl, ⟨nd, rfl⟩⟩))
        go_ret2
        exact ⟨pair_eq f.out, by repeat (first | exact Drawn0.refl _ | apply Drawn0.step)⟩
    · have f := Aside0.mk (show RSlitsFor n l m = (0, 2) from if_neg (fun e => hm e.2.2))
      clear k hm
      go_enter Try.func47, Try.ntmps47
      go_wp2_with (first | (go_at_call 143; (with_reducible refine (spec_l06Code_c _ hc.out).mono ?_); rintro e w' ⟨rfl, ⟨nd, rfl⟩⟩) | (go_at_call 144; (with_reducible refine (spec_l00In_d _ bm.out).mono ?_); rintro e w' ⟨rfl, ⟨nd, rfl⟩⟩))
      go_ret2
      exact ⟨pair_eq f.out, by repeat (first | exact Drawn0.refl _ | apply Drawn0.step)⟩
  · have f := Aside0.mk (show RSlitsFor n l m = (0, 2) from if_neg (fun e => k ⟨e.1, e.2.1⟩))
    have hc := Aside0.mk (show cod2 (arOk n ∧ northOk l) = 2 from if_neg k)
    clear k
    go_enter Try.func47, Try.ntmps47
    go_wp2_with (first | (go_at_call 143; (with_reducible refine (spec_l06Code_c _ hc.out).mono ?_); rintro e w' ⟨rfl, ⟨nd, rfl⟩⟩))
    go_ret2
    exact ⟨pair_eq f.out, by repeat (first | exact Drawn0.refl _ | apply Drawn0.step)⟩
theorem spec_l04Paper_c {n p : Int} {c : Int} (w : World) (hc : cod2 (arOk n ∧ papOk p) = c) : Calls Try.prog 163 #[.int .i64 n, .int .i64 p] w fun e w' => e = .returned (.int .i64 (c)) ∧ Drawn0 w w' := by
  rcases dec (arOk n) with ⟨hn, bn⟩ | ⟨hn, bn⟩ <;> rcases dec (papOk p) with ⟨hl, bl⟩ | ⟨hl, bl⟩
  · have f := Aside0.mk (show c = 0 by rw [← hc]; exact if_pos ⟨hn, hl⟩)
    clear hc hn hl
    go_enter Try.func163, Try.ntmps163
    go_wp2_with (first | (go_at_call 144; (with_reducible refine (spec_l00In_d _ (by first | exact bn.out | exact bl.out)).mono ?_); rintro e w' ⟨rfl, ⟨nd, rfl⟩⟩))
    go_ret
    exact ⟨by rw [f.out]; rfl, by repeat (first | exact Drawn0.refl _ | apply Drawn0.step)⟩
  all_goals
    have f := Aside0.mk (show c = 2 by rw [← hc]; exact if_neg (fun e => by first | exact hn e.1 | exact hl e.2))
    clear hc hn hl
    go_enter Try.func163, Try.ntmps163
    go_wp2_with (first | (go_at_call 144; (with_reducible refine (spec_l00In_d _ (by first | exact bn.out | exact bl.out)).mono ?_); rintro e w' ⟨rfl, ⟨nd, rfl⟩⟩))
    go_ret
    exact ⟨by rw [f.out]; rfl, by repeat (first | exact Drawn0.refl _ | apply Drawn0.step)⟩
theorem impl_FewestGores_c {n p : Int} (w : World) : Calls Try.prog 64 #[.int .i64 n, .int .i64 p] w fun e w' => e = .returned (.tuple #[.int .i64 (RFewestGores n p).1, .int .i64 (RFewestGores n p).2]) ∧ Drawn0 w w' := by
  rcases dec (arOk n) with ⟨hn, bn⟩ | ⟨hn, bn⟩ <;> rcases dec (papOk p) with ⟨hp, bp⟩ | ⟨hp, bp⟩
  · have f := Aside0.mk (show RFewestGores n p = fewF n p 43 6 from if_pos ⟨hn, hp⟩)

    go_enter Try.func64, Try.ntmps64
    go_wp2_with (first | (go_at_call 140; (with_reducible refine (impl_isAround_c _ bn.out).mono ?_); rintro e w' ⟨rfl, ⟨nd, rfl⟩⟩) | (go_at_call 161; (with_reducible refine (impl_isPaper_c _ bp.out).mono ?_); rintro e w' ⟨rfl, ⟨nd, rfl⟩⟩))
    go_loopw [6] (fun v wr => ∃ (g : Int) (d : Nat), 6 ≤ g ∧ g + d = 49 ∧ fewF n p 43 6 = fewF n p d g ∧ v = .int .i64 g ∧ Drawn0 w wr) (fun v _ => (49 - intOf v).toNat)
    case atStart => exact ⟨6, 43, by omega, by omega, rfl, rfl, by repeat (first | exact Drawn0.refl _ | apply Drawn0.step)⟩
    case round =>
      obtain ⟨g, d, g0, gd, ff, rfl, hd⟩ := hrel
      have hd := Aside0.mk hd
      have gd := Aside0.mk gd
      by_cases hlt : g ≤ 48
      · obtain ⟨d, rfl⟩ : ∃ m, d = m + 1 := ⟨d - 1, by have := gd.out; omega⟩
        rcases dec (gOk g) with ⟨h, b⟩ | ⟨h, b⟩
        · by_cases z : gw g n 0 ≤ p
          · have f2 := Aside0.mk (f.out.trans (ff.trans (fewF_yes d ⟨h, z⟩)))
            clear ff h
            go_wp2_with (first | (go_at_call 100; (with_reducible refine (impl_ValidGores_c _ b.out).mono ?_); rintro e w' ⟨rfl, ⟨nd, rfl⟩⟩) | (go_at_call 162; (with_reducible refine (impl_goreWidth_c _ (by omega) (by omega) (by omega)).mono ?_); rintro e w' ⟨rfl, ⟨nd, rfl⟩⟩))
            go_ret2
            exact ⟨pair_eq f2.out, by repeat (first | exact hd.out | apply Drawn0.step)⟩
          · have f2 := Aside0.mk (ff.trans (fewF_no d (fun e => z e.2)))
            clear ff h
            go_wp2_with (first | (go_at_call 100; (with_reducible refine (impl_ValidGores_c _ b.out).mono ?_); rintro e w' ⟨rfl, ⟨nd, rfl⟩⟩) | (go_at_call 162; (with_reducible refine (impl_goreWidth_c _ (by omega) (by omega) (by omega)).mono ?_); rintro e w' ⟨rfl, ⟨nd, rfl⟩⟩))
            go_roundw
            case rel => exact ⟨g + 1, d, by omega, by have := gd.out; omega, f2.out, rfl, by repeat (first | exact hd.out | apply Drawn0.step)⟩
            case measure => simp [intOf]; omega
        · have f2 := Aside0.mk (ff.trans (fewF_no d (fun e => h e.1)))
          clear ff h
          go_wp2_with (first | (go_at_call 100; (with_reducible refine (impl_ValidGores_c _ b.out).mono ?_); rintro e w' ⟨rfl, ⟨nd, rfl⟩⟩))
          go_roundw
          case rel => exact ⟨g + 1, d, by omega, by have := gd.out; omega, f2.out, rfl, by repeat (first | exact hd.out | apply Drawn0.step)⟩
          case measure => simp [intOf]; omega
      · obtain rfl : d = 0 := by have := gd.out; omega
        have f2 := Aside0.mk (f.out.trans ff)
        clear ff
        go_wp2
        go_ret2
        exact ⟨pair_eq f2.out, by repeat (first | exact hd.out | apply Drawn0.step)⟩
  all_goals
    have f := Aside0.mk (show RFewestGores n p = (0, 2) from if_neg (fun e => by first | exact hn e.1 | exact hp e.2))

    clear hn hp
    go_enter Try.func64, Try.ntmps64
    go_wp2_with (first | (go_at_call 140; (with_reducible refine (impl_isAround_c _ bn.out).mono ?_); rintro e w' ⟨rfl, ⟨nd, rfl⟩⟩) | (go_at_call 161; (with_reducible refine (impl_isPaper_c _ bp.out).mono ?_); rintro e w' ⟨rfl, ⟨nd, rfl⟩⟩))
    go_ret2
    exact ⟨pair_eq f.out, by repeat (first | exact Drawn0.refl _ | apply Drawn0.step)⟩
theorem spec_FewestGores_c {n p : Int} (w : World) : Calls Try.prog 65 #[.int .i64 n, .int .i64 p] w fun e w' => e = .returned (.tuple #[.int .i64 (RFewestGores n p).1, .int .i64 (RFewestGores n p).2]) ∧ Drawn0 w w' := by
  rcases dec (arOk n) with ⟨hn, bn⟩ | ⟨hn, bn⟩ <;> rcases dec (papOk p) with ⟨hp, bp⟩ | ⟨hp, bp⟩
  · have f := Aside0.mk (show RFewestGores n p = fewF n p 43 6 from if_pos ⟨hn, hp⟩)
    have hc := Aside0.mk (show cod2 (arOk n ∧ papOk p) = 0 from if_pos ⟨hn, hp⟩)
    go_enter Try.func65, Try.ntmps65
    go_wp2_with (first | (go_at_call 163; (with_reducible refine (spec_l04Paper_c _ hc.out).mono ?_); rintro e w' ⟨rfl, ⟨nd, rfl⟩⟩))
    go_loopw [7] (fun v wr => ∃ (g : Int) (d : Nat), 6 ≤ g ∧ g + d = 49 ∧ fewF n p 43 6 = fewF n p d g ∧ v = .int .i64 g ∧ Drawn0 w wr) (fun v _ => (49 - intOf v).toNat)
    case atStart => exact ⟨6, 43, by omega, by omega, rfl, rfl, by repeat (first | exact Drawn0.refl _ | apply Drawn0.step)⟩
    case round =>
      obtain ⟨g, d, g0, gd, ff, rfl, hd⟩ := hrel
      have hd := Aside0.mk hd
      have gd := Aside0.mk gd
      by_cases hlt : g ≤ 48
      · obtain ⟨d, rfl⟩ : ∃ m, d = m + 1 := ⟨d - 1, by have := gd.out; omega⟩
        rcases dec (gOk g) with ⟨h, b⟩ | ⟨h, b⟩
        · by_cases z : gw g n 0 ≤ p
          · have f2 := Aside0.mk (f.out.trans (ff.trans (fewF_yes d ⟨h, z⟩)))
            clear ff h
            go_wp2_with (first | (go_at_call 123; (with_reducible refine (spec_l04Ok_c _ b.out).mono ?_); rintro e w' ⟨rfl, ⟨nd, rfl⟩⟩) | (go_at_call 164; (with_reducible refine (spec_l04Width_c _ (by omega) (by omega) (by omega)).mono ?_); rintro e w' ⟨rfl, ⟨nd, rfl⟩⟩))
            go_ret2
            exact ⟨pair_eq f2.out, by repeat (first | exact hd.out | apply Drawn0.step)⟩
          · have f2 := Aside0.mk (ff.trans (fewF_no d (fun e => z e.2)))
            clear ff h
            go_wp2_with (first | (go_at_call 123; (with_reducible refine (spec_l04Ok_c _ b.out).mono ?_); rintro e w' ⟨rfl, ⟨nd, rfl⟩⟩) | (go_at_call 164; (with_reducible refine (spec_l04Width_c _ (by omega) (by omega) (by omega)).mono ?_); rintro e w' ⟨rfl, ⟨nd, rfl⟩⟩))
            go_roundw
            case rel => exact ⟨g + 1, d, by omega, by have := gd.out; omega, f2.out, rfl, by repeat (first | exact hd.out | apply Drawn0.step)⟩
            case measure => simp [intOf]; omega
        · have f2 := Aside0.mk (ff.trans (fewF_no d (fun e => h e.1)))
          clear ff h
          go_wp2_with (first | (go_at_call 123; (with_reducible refine (spec_l04Ok_c _ b.out).mono ?_); rintro e w' ⟨rfl, ⟨nd, rfl⟩⟩))
          go_roundw
          case rel => exact ⟨g + 1, d, by omega, by have := gd.out; omega, f2.out, rfl, by repeat (first | exact hd.out | apply Drawn0.step)⟩
          case measure => simp [intOf]; omega
      · obtain rfl : d = 0 := by have := gd.out; omega
        have f2 := Aside0.mk (f.out.trans ff)
        clear ff
        go_wp2
        go_ret2
        exact ⟨pair_eq f2.out, by repeat (first | exact hd.out | apply Drawn0.step)⟩
  all_goals
    have f := Aside0.mk (show RFewestGores n p = (0, 2) from if_neg (fun e => by first | exact hn e.1 | exact hp e.2))
    have hc := Aside0.mk (show cod2 (arOk n ∧ papOk p) = 2 from if_neg (fun e => by first | exact hn e.1 | exact hp e.2))
    clear hn hp
    go_enter Try.func65, Try.ntmps65
    go_wp2_with (first | (go_at_call 163; (with_reducible refine (spec_l04Paper_c _ hc.out).mono ?_); rintro e w' ⟨rfl, ⟨nd, rfl⟩⟩))
    go_ret2
    exact ⟨pair_eq f.out, by repeat (first | exact Drawn0.refl _ | apply Drawn0.step)⟩
theorem impl_discCode_c {n r : Int} {ok : Bool} {c : Int} (w : World) (hc : discB n r ok = c) : Calls Try.prog 111 #[.int .i64 n, .int .i64 r, .bool ok] w fun e w' => e = .returned (.int .i64 c) ∧ Drawn0 w w' := by
  rcases dec (arOk n) with ⟨hn, bn⟩ | ⟨hn, bn⟩
  · rcases dec (radOk r) with ⟨hr, br⟩ | ⟨hr, br⟩
    · skip
      cases ok with
      | true =>
        by_cases z : n < 4 * r
        · have f := Aside0.mk (show c = 5 by rw [← hc]; unfold discB; rw [if_pos ⟨hn, hr, rfl⟩, if_pos z])
          clear hc
          go_enter Try.func111, Try.ntmps111
          go_wp2_with (first | (go_at_call 140; (with_reducible refine (impl_isAround_c _ bn.out).mono ?_); rintro e w' ⟨rfl, ⟨nd, rfl⟩⟩) | (go_at_call 103; (with_reducible refine (impl_isRadius_c _ br.out).mono ?_); rintro e w' ⟨rfl, ⟨nd, rfl⟩⟩))
          go_ret
          exact ⟨by rw [f.out]; rfl, by repeat (first | exact Drawn0.refl _ | apply Drawn0.step)⟩
        · have f := Aside0.mk (show c = 0 by rw [← hc]; unfold discB; rw [if_pos ⟨hn, hr, rfl⟩, if_neg z])
          clear hc
          go_enter Try.func111, Try.ntmps111
          go_wp2_with (first | (go_at_call 140; (with_reducible refine (impl_isAround_c _ bn.out).mono ?_); rintro e w' ⟨rfl, ⟨nd, rfl⟩⟩) | (go_at_call 103; (with_reducible refine (impl_isRadius_c _ br.out).mono ?_); rintro e w' ⟨rfl, ⟨nd, rfl⟩⟩))
          go_ret
          exact ⟨by rw [f.out]; rfl, by repeat (first | exact Drawn0.refl _ | apply Drawn0.step)⟩
      | false =>
        have f := Aside0.mk (show c = 2 by rw [← hc]; unfold discB; rw [if_neg (fun e => by simp at e)])
        clear hc hn hr
        go_enter Try.func111, Try.ntmps111
        go_wp2_with (first | (go_at_call 140; (with_reducible refine (impl_isAround_c _ bn.out).mono ?_); rintro e w' ⟨rfl, ⟨nd, rfl⟩⟩) | (go_at_call 103; (with_reducible refine (impl_isRadius_c _ br.out).mono ?_); rintro e w' ⟨rfl, ⟨nd, rfl⟩⟩))
        go_ret
        exact ⟨by rw [f.out]; rfl, by repeat (first | exact Drawn0.refl _ | apply Drawn0.step)⟩
    · have f := Aside0.mk (show c = 2 by rw [← hc]; unfold discB; rw [if_neg (fun e => hr e.2.1)])
      clear hc hn hr
      go_enter Try.func111, Try.ntmps111
      go_wp2_with (first | (go_at_call 140; (with_reducible refine (impl_isAround_c _ bn.out).mono ?_); rintro e w' ⟨rfl, ⟨nd, rfl⟩⟩) | (go_at_call 103; (with_reducible refine (impl_isRadius_c _ br.out).mono ?_); rintro e w' ⟨rfl, ⟨nd, rfl⟩⟩))
      go_ret
      exact ⟨by rw [f.out]; rfl, by repeat (first | exact Drawn0.refl _ | apply Drawn0.step)⟩
  · have f := Aside0.mk (show c = 2 by rw [← hc]; unfold discB; rw [if_neg (fun e => hn e.1)])
    clear hc hn
    go_enter Try.func111, Try.ntmps111
    go_wp2_with (first | (go_at_call 140; (with_reducible refine (impl_isAround_c _ bn.out).mono ?_); rintro e w' ⟨rfl, ⟨nd, rfl⟩⟩))
    go_ret
    exact ⟨by rw [f.out]; rfl, by repeat (first | exact Drawn0.refl _ | apply Drawn0.step)⟩
theorem spec_l06Radius_c {n r : Int} {c : Int} (w : World) (hc : discB n r true = c) : Calls Try.prog 107 #[.int .i64 n, .int .i64 r] w fun e w' => e = .returned (.int .i64 c) ∧ Drawn0 w w' := by
  rcases dec (arOk n) with ⟨hn, bn⟩ | ⟨hn, bn⟩
  · rcases dec (radOk r) with ⟨hr, br⟩ | ⟨hr, br⟩
    · skip
      by_cases z : n < 4 * r
      · have f := Aside0.mk (show c = 5 by rw [← hc]; unfold discB; rw [if_pos ⟨hn, hr, rfl⟩, if_pos z])
        clear hc
        go_enter Try.func107, Try.ntmps107
        go_wp2_with (first | (go_at_call 144; (with_reducible refine (spec_l00In_d _ (by first | exact bn.out | exact br.out)).mono ?_); rintro e w' ⟨rfl, ⟨nd, rfl⟩⟩))
        go_ret
        exact ⟨by rw [f.out]; rfl, by repeat (first | exact Drawn0.refl _ | apply Drawn0.step)⟩
      · have f := Aside0.mk (show c = 0 by rw [← hc]; unfold discB; rw [if_pos ⟨hn, hr, rfl⟩, if_neg z])
        clear hc
        go_enter Try.func107, Try.ntmps107
        go_wp2_with (first | (go_at_call 144; (with_reducible refine (spec_l00In_d _ (by first | exact bn.out | exact br.out)).mono ?_); rintro e w' ⟨rfl, ⟨nd, rfl⟩⟩))
        go_ret
        exact ⟨by rw [f.out]; rfl, by repeat (first | exact Drawn0.refl _ | apply Drawn0.step)⟩
    · have f := Aside0.mk (show c = 2 by rw [← hc]; unfold discB; rw [if_neg (fun e => hr e.2.1)])
      clear hc hn hr
      go_enter Try.func107, Try.ntmps107
      go_wp2_with (first | (go_at_call 144; (with_reducible refine (spec_l00In_d _ (by first | exact bn.out | exact br.out)).mono ?_); rintro e w' ⟨rfl, ⟨nd, rfl⟩⟩))
      go_ret
      exact ⟨by rw [f.out]; rfl, by repeat (first | exact Drawn0.refl _ | apply Drawn0.step)⟩
  · have f := Aside0.mk (show c = 2 by rw [← hc]; unfold discB; rw [if_neg (fun e => hn e.1)])
    clear hc hn
    go_enter Try.func107, Try.ntmps107
    go_wp2_with (first | (go_at_call 144; (with_reducible refine (spec_l00In_d _ bn.out).mono ?_); rintro e w' ⟨rfl, ⟨nd, rfl⟩⟩))
    go_ret
    exact ⟨by rw [f.out]; rfl, by repeat (first | exact Drawn0.refl _ | apply Drawn0.step)⟩
theorem impl_capEdge_c {n r : Int} (w : World) (hn : arOk n) (hr : radOk r) (h : 4 * r ≤ n) : Calls Try.prog 112 #[.int .i64 n, .int .i64 r] w fun e w' => e = .returned (.int .i64 (edge n r)) ∧ Drawn0 w w' := by
  have q0 : 0 ≤ r * 1296000 / n := Int.ediv_nonneg (by omega) (by omega)
  have q1 : r * 1296000 / n ≤ 1000000000000 := Int.le_trans (Int.ediv_le_self n (show 0 ≤ r * 1296000 by omega)) (by omega)
  have hz : (n == 0) = false := by simp; omega
  go_enter Try.func112, Try.ntmps112
  go_wp2_with (first | (fail))
  go_ret
  exact ⟨rfl, by repeat (first | exact Drawn0.refl _ | apply Drawn0.step)⟩
theorem spec_l06Edge_c {n r : Int} (w : World) (hn : arOk n) (hr : radOk r) (h : 4 * r ≤ n) : Calls Try.prog 108 #[.int .i64 n, .int .i64 r] w fun e w' => e = .returned (.int .i64 (edge n r)) ∧ Drawn0 w w' := by
  have q0 : 0 ≤ r * 1296000 / n := Int.ediv_nonneg (by omega) (by omega)
  have q1 : r * 1296000 / n ≤ 1000000000000 := Int.le_trans (Int.ediv_le_self n (show 0 ≤ r * 1296000 by omega)) (by omega)
  have hz : (n == 0) = false := by simp; omega
  go_enter Try.func108, Try.ntmps108
  go_wp2_with (first | (fail))
  go_ret
  exact ⟨rfl, by repeat (first | exact Drawn0.refl _ | apply Drawn0.step)⟩
theorem impl_CapEdge_c {n r : Int} (w : World) : Calls Try.prog 73 #[.int .i64 n, .int .i64 r] w fun e w' => e = .returned (.tuple #[.int .i64 (RCapEdgeB n r).1, .int .i64 (RCapEdgeB n r).2]) ∧ Drawn0 w w' := by
  obtain ⟨c, hc⟩ : ∃ c, discB n r true = c := ⟨_, rfl⟩
  by_cases z : c = 0
  · subst z
    obtain ⟨hn, hr, h4, _⟩ := discB_0 hc
    have f := Aside0.mk (show RCapEdgeB n r = (edge n r, 0) by unfold RCapEdgeB onC; rw [hc]; rfl)
    have hc := Aside0.mk hc
    go_enter Try.func73, Try.ntmps73
    go_wp2_with (first | (go_at_call 111; (with_reducible refine (impl_discCode_c _ hc.out).mono ?_); rintro e w' ⟨rfl, ⟨nd, rfl⟩⟩) | (go_at_call 112; (with_reducible refine (impl_capEdge_c _ (by omega) (by omega) (by omega)).mono ?_); rintro e w' ⟨rfl, ⟨nd, rfl⟩⟩))
    go_ret2
    exact ⟨pair_eq f.out, by repeat (first | exact Drawn0.refl _ | apply Drawn0.step)⟩
  · have f := Aside0.mk (show RCapEdgeB n r = (0, c) by unfold RCapEdgeB onC; rw [hc, if_neg z])
    have hc := Aside0.mk hc
    have z1 : (c == 0) = false := by simp [z]
    have z2 : (c != 0) = true := by simp [z]
    clear z
    go_enter Try.func73, Try.ntmps73
    go_wp2_with (first | (go_at_call 111; (with_reducible refine (impl_discCode_c _ hc.out).mono ?_); rintro e w' ⟨rfl, ⟨nd, rfl⟩⟩))
    go_ret2
    exact ⟨pair_eq f.out, by repeat (first | exact Drawn0.refl _ | apply Drawn0.step)⟩
theorem spec_CapEdge_c {n r : Int} (w : World) : Calls Try.prog 74 #[.int .i64 n, .int .i64 r] w fun e w' => e = .returned (.tuple #[.int .i64 (RCapEdgeB n r).1, .int .i64 (RCapEdgeB n r).2]) ∧ Drawn0 w w' := by
  obtain ⟨c, hc⟩ : ∃ c, discB n r true = c := ⟨_, rfl⟩
  by_cases z : c = 0
  · subst z
    obtain ⟨hn, hr, h4, _⟩ := discB_0 hc
    have f := Aside0.mk (show RCapEdgeB n r = (edge n r, 0) by unfold RCapEdgeB onC; rw [hc]; rfl)
    have hc := Aside0.mk hc
    go_enter Try.func74, Try.ntmps74
    go_wp2_with (first | (go_at_call 107; (with_reducible refine (spec_l06Radius_c _ hc.out).mono ?_); rintro e w' ⟨rfl, ⟨nd, rfl⟩⟩) | (go_at_call 108; (with_reducible refine (spec_l06Edge_c _ (by omega) (by omega) (by omega)).mono ?_); rintro e w' ⟨rfl, ⟨nd, rfl⟩⟩))
    go_ret2
    exact ⟨pair_eq f.out, by repeat (first | exact Drawn0.refl _ | apply Drawn0.step)⟩
  · have f := Aside0.mk (show RCapEdgeB n r = (0, c) by unfold RCapEdgeB onC; rw [hc, if_neg z])
    have hc := Aside0.mk hc
    have z1 : (c == 0) = false := by simp [z]
    have z2 : (c != 0) = true := by simp [z]
    clear z
    go_enter Try.func74, Try.ntmps74
    go_wp2_with (first | (go_at_call 107; (with_reducible refine (spec_l06Radius_c _ hc.out).mono ?_); rintro e w' ⟨rfl, ⟨nd, rfl⟩⟩))
    go_ret2
    exact ⟨pair_eq f.out, by repeat (first | exact Drawn0.refl _ | apply Drawn0.step)⟩
theorem impl_CapOverlap_c {n r l : Int} (w : World) : Calls Try.prog 52 #[.int .i64 n, .int .i64 r, .int .i64 l] w fun e w' => e = .returned (.tuple #[.int .i64 (RCapOverlap n r l).1, .int .i64 (RCapOverlap n r l).2]) ∧ Drawn0 w w' := by
  obtain ⟨c, hc⟩ : ∃ c, discB n r (decide (northOk l)) = c := ⟨_, rfl⟩
  by_cases z : c = 0
  · subst z
    obtain ⟨hn, hr, h4, hl⟩ := discB_0 hc
    have hl := of_decide_eq_true hl
    obtain ⟨m0, m1⟩ := arcLen_bd hn (a := 324000 - l) (by omega)
    have f := Aside0.mk (show RCapOverlap n r l = (r - arcLen n (324000 - l), 0) by unfold RCapOverlap onC; rw [hc]; rfl)
    rw [decide_eq_true hl] at hc
    have hc := Aside0.mk hc
    have bl := Aside0.mk (decide_eq_true hl)
    go_enter Try.func52, Try.ntmps52
    go_wp2_with (first | (go_at_call 141; (with_reducible refine (impl_isNorth_c _ bl.out).mono ?_); rintro e w' ⟨rfl, ⟨nd, rfl⟩⟩) | (go_at_call 111; (with_reducible refine (impl_discCode_c _ hc.out).mono ?_); rintro e w' ⟨rfl, ⟨nd, rfl⟩⟩) | (go_at_call 147; (with_reducible refine (impl_arcLength_c _ (by omega) (by omega)).mono ?_); rintro e w' ⟨rfl, ⟨nd, rfl⟩⟩))
    go_ret2
    exact ⟨pair_eq f.out, by repeat (first | exact Drawn0.refl _ | apply Drawn0.step)⟩
  · have f := Aside0.mk (show RCapOverlap n r l = (0, c) by unfold RCapOverlap onC; rw [hc, if_neg z])
    have z1 : (c == 0) = false := by simp [z]
    have z2 : (c != 0) = true := by simp [z]
    clear z
    rcases dec (northOk l) with ⟨hl, bl⟩ | ⟨hl, bl⟩
    all_goals
      rw [bl.out] at hc
      have hc := Aside0.mk hc
      clear hl
      go_enter Try.func52, Try.ntmps52
      go_wp2_with (first | (go_at_call 141; (with_reducible refine (impl_isNorth_c _ bl.out).mono ?_); rintro e w' ⟨rfl, ⟨nd, rfl⟩⟩) | (go_at_call 111; (with_reducible refine (impl_discCode_c _ hc.out).mono ?_); rintro e w' ⟨rfl, ⟨nd, rfl⟩⟩))
      go_ret2
      exact ⟨pair_eq f.out, by repeat (first | exact Drawn0.refl _ | apply Drawn0.step)⟩
theorem spec_CapOverlap_c {n r l : Int} (w : World) : Calls Try.prog 53 #[.int .i64 n, .int .i64 r, .int .i64 l] w fun e w' => e = .returned (.tuple #[.int .i64 (RCapOverlap n r l).1, .int .i64 (RCapOverlap n r l).2]) ∧ Drawn0 w w' := by
  by_cases k : arOk n ∧ northOk l
  · have hd := Aside0.mk (show cod2 (arOk n ∧ northOk l) = 0 from if_pos k)
    obtain ⟨hn, hl⟩ := k
    obtain ⟨m0, m1⟩ := arcLen_bd hn (a := 324000 - l) (by omega)
    obtain ⟨c, hc⟩ : ∃ c, discB n r true = c := ⟨_, rfl⟩
    by_cases z : c = 0
    · subst z
      obtain ⟨_, hr, h4, _⟩ := discB_0 hc
      have f := Aside0.mk (show RCapOverlap n r l = (r - arcLen n (324000 - l), 0) by unfold RCapOverlap onC; rw [decide_eq_true hl, hc]; rfl)
      have hc := Aside0.mk hc
      go_enter Try.func53, Try.ntmps53
      go_wp2_with (first | (go_at_call 143; (with_reducible refine (spec_l06Code_c _ hd.out).mono ?_); rintro e w' ⟨rfl, ⟨nd, rfl⟩⟩) | (go_at_call 107; (with_reducible refine (spec_l06Radius_c _ hc.out).mono ?_); rintro e w' ⟨rfl, ⟨nd, rfl⟩⟩) | (go_at_call 148; (with_reducible refine (spec_l06Arc_c _ (by omega) (by omega)).mono ?_); rintro e w' ⟨rfl, ⟨nd, rfl⟩⟩))
      go_ret2
      exact ⟨pair_eq f.out, by repeat (first | exact Drawn0.refl _ | apply Drawn0.step)⟩
    · have f := Aside0.mk (show RCapOverlap n r l = (0, c) by unfold RCapOverlap onC; rw [decide_eq_true hl, hc, if_neg z])
      have hc := Aside0.mk hc
      have z1 : (c == 0) = false := by simp [z]
      have z2 : (c != 0) = true := by simp [z]
      clear z
      go_enter Try.func53, Try.ntmps53
      go_wp2_with (first | (go_at_call 143; (with_reducible refine (spec_l06Code_c _ hd.out).mono ?_); rintro e w' ⟨rfl, ⟨nd, rfl⟩⟩) | (go_at_call 107; (with_reducible refine (spec_l06Radius_c _ hc.out).mono ?_); rintro e w' ⟨rfl, ⟨nd, rfl⟩⟩))
      go_ret2
      exact ⟨pair_eq f.out, by repeat (first | exact Drawn0.refl _ | apply Drawn0.step)⟩
  · have hd := Aside0.mk (show cod2 (arOk n ∧ northOk l) = 2 from if_neg k)
    have f := Aside0.mk (show RCapOverlap n r l = (0, 2) by unfold RCapOverlap; rw [show discB n r (decide (northOk l)) = 2 from if_neg (fun e => k ⟨e.1, of_decide_eq_true e.2.2⟩)]; rfl)
    clear k
    go_enter Try.func53, Try.ntmps53
    go_wp2_with (first | (go_at_call 143; (with_reducible refine (spec_l06Code_c _ hd.out).mono ?_); rintro e w' ⟨rfl, ⟨nd, rfl⟩⟩))
    go_ret2
    exact ⟨pair_eq f.out, by repeat (first | exact Drawn0.refl _ | apply Drawn0.step)⟩
theorem impl_SmallestCap_c {n l o : Int} (w : World) : Calls Try.prog 49 #[.int .i64 n, .int .i64 l, .int .i64 o] w fun e w' => e = .returned (.tuple #[.int .i64 (RSmallestCap n l o).1, .int .i64 (RSmallestCap n l o).2]) ∧ Drawn0 w w' := by
  rcases dec (arOk n) with ⟨hn, bn⟩ | ⟨hn, bn⟩
  · rcases dec (northOk l) with ⟨hl, bl⟩ | ⟨hl, bl⟩
    · rcases dec (radOk o) with ⟨ho, bo⟩ | ⟨ho, bo⟩
      · obtain ⟨m0, m1⟩ := arcLen_bd hn (a := 324000 - l) (by omega)
        by_cases g : 100000 < arcLen n (324000 - l) + o
        · skip
          · have f := Aside0.mk (show RSmallestCap n l o = (0, 5) by unfold RSmallestCap capV; rw [if_pos ⟨hn, hl, ho⟩, if_pos (Or.inl g)])
            go_enter Try.func49, Try.ntmps49
            go_wp2_with (first | (go_at_call 140; (with_reducible refine (impl_isAround_c _ bn.out).mono ?_); rintro e w' ⟨rfl, ⟨nd, rfl⟩⟩) | (go_at_call 141; (with_reducible refine (impl_isNorth_c _ bl.out).mono ?_); rintro e w' ⟨rfl, ⟨nd, rfl⟩⟩) | (go_at_call 103; (with_reducible refine (impl_isRadius_c _ bo.out).mono ?_); rintro e w' ⟨rfl, ⟨nd, rfl⟩⟩) | (go_at_call 147; (with_reducible refine (impl_arcLength_c _ (by omega) (by omega)).mono ?_); rintro e w' ⟨rfl, ⟨nd, rfl⟩⟩))
            go_ret2
            exact ⟨pair_eq f.out, by repeat (first | exact Drawn0.refl _ | apply Drawn0.step)⟩
        · by_cases g2 : n < 4 * (arcLen n (324000 - l) + o)
          · have f := Aside0.mk (show RSmallestCap n l o = (0, 5) by unfold RSmallestCap capV; rw [if_pos ⟨hn, hl, ho⟩, if_pos (Or.inr g2)])
            go_enter Try.func49, Try.ntmps49
            go_wp2_with (first | (go_at_call 140; (with_reducible refine (impl_isAround_c _ bn.out).mono ?_); rintro e w' ⟨rfl, ⟨nd, rfl⟩⟩) | (go_at_call 141; (with_reducible refine (impl_isNorth_c _ bl.out).mono ?_); rintro e w' ⟨rfl, ⟨nd, rfl⟩⟩) | (go_at_call 103; (with_reducible refine (impl_isRadius_c _ bo.out).mono ?_); rintro e w' ⟨rfl, ⟨nd, rfl⟩⟩) | (go_at_call 147; (with_reducible refine (impl_arcLength_c _ (by omega) (by omega)).mono ?_); rintro e w' ⟨rfl, ⟨nd, rfl⟩⟩))
            go_ret2
            exact ⟨pair_eq f.out, by repeat (first | exact Drawn0.refl _ | apply Drawn0.step)⟩
          · have f := Aside0.mk (show RSmallestCap n l o = (arcLen n (324000 - l) + o, 0) by unfold RSmallestCap capV; rw [if_pos ⟨hn, hl, ho⟩, if_neg (fun e => e.elim g g2)])
            go_enter Try.func49, Try.ntmps49
            go_wp2_with (first | (go_at_call 140; (with_reducible refine (impl_isAround_c _ bn.out).mono ?_); rintro e w' ⟨rfl, ⟨nd, rfl⟩⟩) | (go_at_call 141; (with_reducible refine (impl_isNorth_c _ bl.out).mono ?_); rintro e w' ⟨rfl, ⟨nd, rfl⟩⟩) | (go_at_call 103; (with_reducible refine (impl_isRadius_c _ bo.out).mono ?_); rintro e w' ⟨rfl, ⟨nd, rfl⟩⟩) | (go_at_call 147; (with_reducible refine (impl_arcLength_c _ (by omega) (by omega)).mono ?_); rintro e w' ⟨rfl, ⟨nd, rfl⟩⟩))
            go_ret2
            exact ⟨pair_eq f.out, by repeat (first | exact Drawn0.refl _ | apply Drawn0.step)⟩
      · have f := Aside0.mk (show RSmallestCap n l o = (0, 2) from if_neg (fun e => ho e.2.2))
        clear hn hl ho
        go_enter Try.func49, Try.ntmps49
        go_wp2_with (first | (go_at_call 140; (with_reducible refine (impl_isAround_c _ bn.out).mono ?_); rintro e w' ⟨rfl, ⟨nd, rfl⟩⟩) | (go_at_call 141; (with_reducible refine (impl_isNorth_c _ bl.out).mono ?_); rintro e w' ⟨rfl, ⟨nd, rfl⟩⟩) | (go_at_call 103; (with_reducible refine (impl_isRadius_c _ bo.out).mono ?_); rintro e w' ⟨rfl, ⟨nd, rfl⟩⟩))
        go_ret2
        exact ⟨pair_eq f.out, by repeat (first | exact Drawn0.refl _ | apply Drawn0.step)⟩
    · have f := Aside0.mk (show RSmallestCap n l o = (0, 2) from if_neg (fun e => hl e.2.1))
      clear hn hl
      go_enter Try.func49, Try.ntmps49
      go_wp2_with (first | (go_at_call 140; (with_reducible refine (impl_isAround_c _ bn.out).mono ?_); rintro e w' ⟨rfl, ⟨nd, rfl⟩⟩) | (go_at_call 141; (with_reducible refine (impl_isNorth_c _ bl.out).mono ?_); rintro e w' ⟨rfl, ⟨nd, rfl⟩⟩))
      go_ret2
      exact ⟨pair_eq f.out, by repeat (first | exact Drawn0.refl _ | apply Drawn0.step)⟩
  · have f := Aside0.mk (show RSmallestCap n l o = (0, 2) from if_neg (fun e => hn e.1))
    clear hn
    go_enter Try.func49, Try.ntmps49
    go_wp2_with (first | (go_at_call 140; (with_reducible refine (impl_isAround_c _ bn.out).mono ?_); rintro e w' ⟨rfl, ⟨nd, rfl⟩⟩))
    go_ret2
    exact ⟨pair_eq f.out, by repeat (first | exact Drawn0.refl _ | apply Drawn0.step)⟩
theorem spec_SmallestCap_c {n l o : Int} (w : World) : Calls Try.prog 50 #[.int .i64 n, .int .i64 l, .int .i64 o] w fun e w' => e = .returned (.tuple #[.int .i64 (RSmallestCap n l o).1, .int .i64 (RSmallestCap n l o).2]) ∧ Drawn0 w w' := by
  by_cases k : arOk n ∧ northOk l
  · have hd := Aside0.mk (show cod2 (arOk n ∧ northOk l) = 0 from if_pos k)
    obtain ⟨hn, hl⟩ := k
    rcases dec (radOk o) with ⟨ho, bo⟩ | ⟨ho, bo⟩
    · obtain ⟨m0, m1⟩ := arcLen_bd hn (a := 324000 - l) (by omega)
      by_cases g : 100000 < arcLen n (324000 - l) + o
      · skip
        · have f := Aside0.mk (show RSmallestCap n l o = (0, 5) by unfold RSmallestCap capV; rw [if_pos ⟨hn, hl, ho⟩, if_pos (Or.inl g)])
          go_enter Try.func50, Try.ntmps50
          go_wp2_with (first | (go_at_call 143; (with_reducible refine (spec_l06Code_c _ hd.out).mono ?_); rintro e w' ⟨rfl, ⟨nd, rfl⟩⟩) | (go_at_call 144; (with_reducible refine (spec_l00In_d _ bo.out).mono ?_); rintro e w' ⟨rfl, ⟨nd, rfl⟩⟩) | (go_at_call 148; (with_reducible refine (spec_l06Arc_c _ (by omega) (by omega)).mono ?_); rintro e w' ⟨rfl, ⟨nd, rfl⟩⟩))
          go_ret2
          exact ⟨pair_eq f.out, by repeat (first | exact Drawn0.refl _ | apply Drawn0.step)⟩
      · by_cases g2 : n < 4 * (arcLen n (324000 - l) + o)
        · have f := Aside0.mk (show RSmallestCap n l o = (0, 5) by unfold RSmallestCap capV; rw [if_pos ⟨hn, hl, ho⟩, if_pos (Or.inr g2)])
          go_enter Try.func50, Try.ntmps50
          go_wp2_with (first | (go_at_call 143; (with_reducible refine (spec_l06Code_c _ hd.out).mono ?_); rintro e w' ⟨rfl, ⟨nd, rfl⟩⟩) | (go_at_call 144; (with_reducible refine (spec_l00In_d _ bo.out).mono ?_); rintro e w' ⟨rfl, ⟨nd, rfl⟩⟩) | (go_at_call 148; (with_reducible refine (spec_l06Arc_c _ (by omega) (by omega)).mono ?_); rintro e w' ⟨rfl, ⟨nd, rfl⟩⟩))
          go_ret2
          exact ⟨pair_eq f.out, by repeat (first | exact Drawn0.refl _ | apply Drawn0.step)⟩
        · have f := Aside0.mk (show RSmallestCap n l o = (arcLen n (324000 - l) + o, 0) by unfold RSmallestCap capV; rw [if_pos ⟨hn, hl, ho⟩, if_neg (fun e => e.elim g g2)])
          go_enter Try.func50, Try.ntmps50
          go_wp2_with (first | (go_at_call 143; (with_reducible refine (spec_l06Code_c _ hd.out).mono ?_); rintro e w' ⟨rfl, ⟨nd, rfl⟩⟩) | (go_at_call 144; (with_reducible refine (spec_l00In_d _ bo.out).mono ?_); rintro e w' ⟨rfl, ⟨nd, rfl⟩⟩) | (go_at_call 148; (with_reducible refine (spec_l06Arc_c _ (by omega) (by omega)).mono ?_); rintro e w' ⟨rfl, ⟨nd, rfl⟩⟩))
          go_ret2
          exact ⟨pair_eq f.out, by repeat (first | exact Drawn0.refl _ | apply Drawn0.step)⟩
    · have f := Aside0.mk (show RSmallestCap n l o = (0, 2) from if_neg (fun e => ho e.2.2))
      clear hn hl ho
      go_enter Try.func50, Try.ntmps50
      go_wp2_with (first | (go_at_call 143; (with_reducible refine (spec_l06Code_c _ hd.out).mono ?_); rintro e w' ⟨rfl, ⟨nd, rfl⟩⟩) | (go_at_call 144; (with_reducible refine (spec_l00In_d _ bo.out).mono ?_); rintro e w' ⟨rfl, ⟨nd, rfl⟩⟩))
      go_ret2
      exact ⟨pair_eq f.out, by repeat (first | exact Drawn0.refl _ | apply Drawn0.step)⟩
  · have hd := Aside0.mk (show cod2 (arOk n ∧ northOk l) = 2 from if_neg k)
    have f := Aside0.mk (show RSmallestCap n l o = (0, 2) from if_neg (fun e => k ⟨e.1, e.2.1⟩))
    clear k
    go_enter Try.func50, Try.ntmps50
    go_wp2_with (first | (go_at_call 143; (with_reducible refine (spec_l06Code_c _ hd.out).mono ?_); rintro e w' ⟨rfl, ⟨nd, rfl⟩⟩))
    go_ret2
    exact ⟨pair_eq f.out, by repeat (first | exact Drawn0.refl _ | apply Drawn0.step)⟩
theorem impl_SheetsForGores_c {g n p : Int} (w : World) : Calls Try.prog 67 #[.int .i64 g, .int .i64 n, .int .i64 p] w fun e w' => e = .returned (.tuple #[.int .i64 (RSheetsForGores g n p).1, .int .i64 (RSheetsForGores g n p).2]) ∧ Drawn0 w w' := by
  rcases dec (gOk g) with ⟨h, b⟩ | ⟨h, b⟩ <;> rcases dec (arOk n) with ⟨hn, bn⟩ | ⟨hn, bn⟩ <;> rcases dec (papOk p) with ⟨hp, bp⟩ | ⟨hp, bp⟩
  · skip
    obtain ⟨g0, g1⟩ := gw_bd h.1 hn 0
    by_cases z : 1 < gw g n 0
    · have e : wid g n = gw g n 0 := if_pos z
      by_cases y : p < gw g n 0
      · have f := Aside0.mk (show RSheetsForGores g n p = (0, 5) by unfold RSheetsForGores sheets; rw [if_pos h, if_pos ⟨hn, hp⟩, e, if_pos y])
        clear e
        go_enter Try.func67, Try.ntmps67
        go_wp2_with (first | (go_at_call 100; (with_reducible refine (impl_ValidGores_c _ b.out).mono ?_); rintro e w' ⟨rfl, ⟨nd, rfl⟩⟩) | (go_at_call 140; (with_reducible refine (impl_isAround_c _ bn.out).mono ?_); rintro e w' ⟨rfl, ⟨nd, rfl⟩⟩) | (go_at_call 161; (with_reducible refine (impl_isPaper_c _ bp.out).mono ?_); rintro e w' ⟨rfl, ⟨nd, rfl⟩⟩) | (go_at_call 126; (with_reducible refine (impl_check_tt _).mono ?_); rintro e w' ⟨rfl, ⟨nd, rfl⟩⟩) | (go_at_call 126; (with_reducible refine (impl_check_tf _).mono ?_); rintro e w' ⟨rfl, ⟨nd, rfl⟩⟩) | (go_at_call 126; (with_reducible refine (impl_check_f _).mono ?_); rintro e w' ⟨rfl, ⟨nd, rfl⟩⟩) | (go_at_call 162; (with_reducible refine (impl_goreWidth_c _ (by omega) (by omega) (by omega)).mono ?_); rintro e w' ⟨rfl, ⟨nd, rfl⟩⟩) | (go_at_call 105; (with_reducible refine (impl_ceilDiv_c _ (by omega) (by omega) (by omega)).mono ?_); rintro e w' ⟨rfl, ⟨nd, rfl⟩⟩))
        go_ret2
        exact ⟨pair_eq f.out, by repeat (first | exact Drawn0.refl _ | apply Drawn0.step)⟩
      · have f := Aside0.mk (show RSheetsForGores g n p = (-(-g / (p / gw g n 0)), 0) by unfold RSheetsForGores sheets; rw [if_pos h, if_pos ⟨hn, hp⟩, e, if_neg y])
        clear e
        have u0 : 1 ≤ p / gw g n 0 := by rw [Int.le_ediv_iff_mul_le (by omega)]; omega
        have u1 : p / gw g n 0 ≤ 100000 := Int.le_trans (Int.ediv_le_self _ (by omega)) (by omega)
        have u2 : (p / gw g n 0 == 0) = false := by simp; omega
        have u3 : (gw g n 0 == 0) = false := by simp; omega
        go_enter Try.func67, Try.ntmps67
        go_wp2_with (first | (go_at_call 100; (with_reducible refine (impl_ValidGores_c _ b.out).mono ?_); rintro e w' ⟨rfl, ⟨nd, rfl⟩⟩) | (go_at_call 140; (with_reducible refine (impl_isAround_c _ bn.out).mono ?_); rintro e w' ⟨rfl, ⟨nd, rfl⟩⟩) | (go_at_call 161; (with_reducible refine (impl_isPaper_c _ bp.out).mono ?_); rintro e w' ⟨rfl, ⟨nd, rfl⟩⟩) | (go_at_call 126; (with_reducible refine (impl_check_tt _).mono ?_); rintro e w' ⟨rfl, ⟨nd, rfl⟩⟩) | (go_at_call 126; (with_reducible refine (impl_check_tf _).mono ?_); rintro e w' ⟨rfl, ⟨nd, rfl⟩⟩) | (go_at_call 126; (with_reducible refine (impl_check_f _).mono ?_); rintro e w' ⟨rfl, ⟨nd, rfl⟩⟩) | (go_at_call 162; (with_reducible refine (impl_goreWidth_c _ (by omega) (by omega) (by omega)).mono ?_); rintro e w' ⟨rfl, ⟨nd, rfl⟩⟩) | (go_at_call 105; (with_reducible refine (impl_ceilDiv_c _ (by omega) (by omega) (by omega)).mono ?_); rintro e w' ⟨rfl, ⟨nd, rfl⟩⟩))
        go_ret2
        exact ⟨pair_eq f.out, by repeat (first | exact Drawn0.refl _ | apply Drawn0.step)⟩
    · have e : wid g n = 1 := if_neg z
      have f := Aside0.mk (show RSheetsForGores g n p = (-(-g / p), 0) by unfold RSheetsForGores sheets; rw [if_pos h, if_pos ⟨hn, hp⟩, e, if_neg (by omega), Int.ediv_one])
      clear e
      go_enter Try.func67, Try.ntmps67
      go_wp2_with (first | (go_at_call 100; (with_reducible refine (impl_ValidGores_c _ b.out).mono ?_); rintro e w' ⟨rfl, ⟨nd, rfl⟩⟩) | (go_at_call 140; (with_reducible refine (impl_isAround_c _ bn.out).mono ?_); rintro e w' ⟨rfl, ⟨nd, rfl⟩⟩) | (go_at_call 161; (with_reducible refine (impl_isPaper_c _ bp.out).mono ?_); rintro e w' ⟨rfl, ⟨nd, rfl⟩⟩) | (go_at_call 126; (with_reducible refine (impl_check_tt _).mono ?_); rintro e w' ⟨rfl, ⟨nd, rfl⟩⟩) | (go_at_call 126; (with_reducible refine (impl_check_tf _).mono ?_); rintro e w' ⟨rfl, ⟨nd, rfl⟩⟩) | (go_at_call 126; (with_reducible refine (impl_check_f _).mono ?_); rintro e w' ⟨rfl, ⟨nd, rfl⟩⟩) | (go_at_call 162; (with_reducible refine (impl_goreWidth_c _ (by omega) (by omega) (by omega)).mono ?_); rintro e w' ⟨rfl, ⟨nd, rfl⟩⟩) | (go_at_call 105; (with_reducible refine (impl_ceilDiv_c _ (by omega) (by omega) (by omega)).mono ?_); rintro e w' ⟨rfl, ⟨nd, rfl⟩⟩))
      go_ret2
      exact ⟨pair_eq f.out, by repeat (first | exact Drawn0.refl _ | apply Drawn0.step)⟩
  iterate 3
    · have f := Aside0.mk (show RSheetsForGores g n p = (0, 2) by unfold RSheetsForGores; rw [if_pos h, if_neg (fun e => by first | exact hn e.1 | exact hp e.2)])
      clear h hn hp
      go_enter Try.func67, Try.ntmps67
      go_wp2_with (first | (go_at_call 100; (with_reducible refine (impl_ValidGores_c _ b.out).mono ?_); rintro e w' ⟨rfl, ⟨nd, rfl⟩⟩) | (go_at_call 140; (with_reducible refine (impl_isAround_c _ bn.out).mono ?_); rintro e w' ⟨rfl, ⟨nd, rfl⟩⟩) | (go_at_call 161; (with_reducible refine (impl_isPaper_c _ bp.out).mono ?_); rintro e w' ⟨rfl, ⟨nd, rfl⟩⟩) | (go_at_call 126; (with_reducible refine (impl_check_tt _).mono ?_); rintro e w' ⟨rfl, ⟨nd, rfl⟩⟩) | (go_at_call 126; (with_reducible refine (impl_check_tf _).mono ?_); rintro e w' ⟨rfl, ⟨nd, rfl⟩⟩) | (go_at_call 126; (with_reducible refine (impl_check_f _).mono ?_); rintro e w' ⟨rfl, ⟨nd, rfl⟩⟩))
      go_ret2
      exact ⟨pair_eq f.out, by repeat (first | exact Drawn0.refl _ | apply Drawn0.step)⟩
  all_goals
    · have f := Aside0.mk (show RSheetsForGores g n p = (0, 1) by unfold RSheetsForGores; rw [if_neg h])
      clear h hn hp
      go_enter Try.func67, Try.ntmps67
      go_wp2_with (first | (go_at_call 100; (with_reducible refine (impl_ValidGores_c _ b.out).mono ?_); rintro e w' ⟨rfl, ⟨nd, rfl⟩⟩) | (go_at_call 140; (with_reducible refine (impl_isAround_c _ bn.out).mono ?_); rintro e w' ⟨rfl, ⟨nd, rfl⟩⟩) | (go_at_call 161; (with_reducible refine (impl_isPaper_c _ bp.out).mono ?_); rintro e w' ⟨rfl, ⟨nd, rfl⟩⟩) | (go_at_call 126; (with_reducible refine (impl_check_tt _).mono ?_); rintro e w' ⟨rfl, ⟨nd, rfl⟩⟩) | (go_at_call 126; (with_reducible refine (impl_check_tf _).mono ?_); rintro e w' ⟨rfl, ⟨nd, rfl⟩⟩) | (go_at_call 126; (with_reducible refine (impl_check_f _).mono ?_); rintro e w' ⟨rfl, ⟨nd, rfl⟩⟩))
      go_ret2
      exact ⟨pair_eq f.out, by repeat (first | exact Drawn0.refl _ | apply Drawn0.step)⟩
theorem spec_SheetsForGores_c {g n p : Int} (w : World) : Calls Try.prog 68 #[.int .i64 g, .int .i64 n, .int .i64 p] w fun e w' => e = .returned (.tuple #[.int .i64 (RSheetsForGores g n p).1, .int .i64 (RSheetsForGores g n p).2]) ∧ Drawn0 w w' := by
  rcases dec (gOk g) with ⟨h, b⟩ | ⟨h, b⟩
  · by_cases k : arOk n ∧ papOk p
    · have hc := Aside0.mk (show cod2 (arOk n ∧ papOk p) = 0 from if_pos k)
      obtain ⟨hn, hp⟩ := k
      obtain ⟨g0, g1⟩ := gw_bd h.1 hn 0
      by_cases z : 1 < gw g n 0
      · have e : wid g n = gw g n 0 := if_pos z
        have hx := Aside0.mk (show (if gw g n 0 < 1 then 1 else gw g n 0) = gw g n 0 from if_neg (by omega))
        by_cases y : p < gw g n 0
        · have f := Aside0.mk (show RSheetsForGores g n p = (0, 5) by unfold RSheetsForGores sheets; rw [if_pos h, if_pos ⟨hn, hp⟩, e, if_pos y])
          clear e
          have u4 : p / gw g n 0 = 0 := Int.ediv_eq_zero_of_lt (by omega) y
          have u3 : (gw g n 0 == 0) = false := by simp; omega
          go_enter Try.func68, Try.ntmps68
          go_wp2_with (first | (go_at_call 123; (with_reducible refine (spec_l04Ok_c _ b.out).mono ?_); rintro e w' ⟨rfl, ⟨nd, rfl⟩⟩) | (go_at_call 163; (with_reducible refine (spec_l04Paper_c _ hc.out).mono ?_); rintro e w' ⟨rfl, ⟨nd, rfl⟩⟩) | (go_at_call 164; (with_reducible refine (spec_l04Width_c _ (by omega) (by omega) (by omega)).mono ?_); rintro e w' ⟨rfl, ⟨nd, rfl⟩⟩) | (go_at_call 145; (with_reducible refine (spec_l00Max_c _ hx.out).mono ?_); rintro e w' ⟨rfl, ⟨nd, rfl⟩⟩))
          go_ret2
          exact ⟨pair_eq f.out, by repeat (first | exact Drawn0.refl _ | apply Drawn0.step)⟩
        · have f := Aside0.mk (show RSheetsForGores g n p = ((g + p / gw g n 0 - 1) / (p / gw g n 0), 0) by unfold RSheetsForGores sheets; rw [if_pos h, if_pos ⟨hn, hp⟩, e, if_neg y]; rw [ceil_eq (a := g) (b := p / gw g n 0) (Int.lt_of_lt_of_le (show (0 : Int) < 1 by decide) ((Int.le_ediv_iff_mul_le (show 0 < gw g n 0 by omega)).2 (by omega)))])
          clear e
          have u0 : 1 ≤ p / gw g n 0 := by rw [Int.le_ediv_iff_mul_le (by omega)]; omega
          have u1 : p / gw g n 0 ≤ 100000 := Int.le_trans (Int.ediv_le_self _ (by omega)) (by omega)
          have u2 : (p / gw g n 0 == 0) = false := by simp; omega
          have u3 : (gw g n 0 == 0) = false := by simp; omega
          have u5 : 0 ≤ (g + p / gw g n 0 - 1) / (p / gw g n 0) := Int.ediv_nonneg (by omega) (by omega)
          have u6 : (g + p / gw g n 0 - 1) / (p / gw g n 0) ≤ 1000000 := Int.le_trans (Int.ediv_le_self _ (by omega)) (by omega)
          go_enter Try.func68, Try.ntmps68
          go_wp2_with (first | (go_at_call 123; (with_reducible refine (spec_l04Ok_c _ b.out).mono ?_); rintro e w' ⟨rfl, ⟨nd, rfl⟩⟩) | (go_at_call 163; (with_reducible refine (spec_l04Paper_c _ hc.out).mono ?_); rintro e w' ⟨rfl, ⟨nd, rfl⟩⟩) | (go_at_call 164; (with_reducible refine (spec_l04Width_c _ (by omega) (by omega) (by omega)).mono ?_); rintro e w' ⟨rfl, ⟨nd, rfl⟩⟩) | (go_at_call 145; (with_reducible refine (spec_l00Max_c _ hx.out).mono ?_); rintro e w' ⟨rfl, ⟨nd, rfl⟩⟩))
          go_ret2
          exact ⟨pair_eq f.out, by repeat (first | exact Drawn0.refl _ | apply Drawn0.step)⟩
      · have e : wid g n = 1 := if_neg z
        have hx := Aside0.mk (show (if gw g n 0 < 1 then 1 else gw g n 0) = 1 by split <;> omega)
        have f := Aside0.mk (show RSheetsForGores g n p = ((g + p - 1) / p, 0) by unfold RSheetsForGores sheets; rw [if_pos h, if_pos ⟨hn, hp⟩, e, if_neg (by omega), Int.ediv_one]; rw [ceil_eq (a := g) (b := p) (by omega)])
        clear e
        have u2 : (p == 0) = false := by simp; omega
        have u4 : p / 1 = p := Int.ediv_one p
        have u5 : 0 ≤ (g + p - 1) / p := Int.ediv_nonneg (by omega) (by omega)
        have u6 : (g + p - 1) / p ≤ 1000000 := Int.le_trans (Int.ediv_le_self _ (by omega)) (by omega)
        go_enter Try.func68, Try.ntmps68
        go_wp2_with (first | (go_at_call 123; (with_reducible refine (spec_l04Ok_c _ b.out).mono ?_); rintro e w' ⟨rfl, ⟨nd, rfl⟩⟩) | (go_at_call 163; (with_reducible refine (spec_l04Paper_c _ hc.out).mono ?_); rintro e w' ⟨rfl, ⟨nd, rfl⟩⟩) | (go_at_call 164; (with_reducible refine (spec_l04Width_c _ (by omega) (by omega) (by omega)).mono ?_); rintro e w' ⟨rfl, ⟨nd, rfl⟩⟩) | (go_at_call 145; (with_reducible refine (spec_l00Max_c _ hx.out).mono ?_); rintro e w' ⟨rfl, ⟨nd, rfl⟩⟩))
        go_ret2
        exact ⟨pair_eq f.out, by repeat (first | exact Drawn0.refl _ | apply Drawn0.step)⟩
    · have f := Aside0.mk (show RSheetsForGores g n p = (0, 2) by unfold RSheetsForGores; rw [if_pos h, if_neg k])
      have hc := Aside0.mk (show cod2 (arOk n ∧ papOk p) = 2 from if_neg k)
      clear h k
      go_enter Try.func68, Try.ntmps68
      go_wp2_with (first | (go_at_call 123; (with_reducible refine (spec_l04Ok_c _ b.out).mono ?_); rintro e w' ⟨rfl, ⟨nd, rfl⟩⟩) | (go_at_call 163; (with_reducible refine (spec_l04Paper_c _ hc.out).mono ?_); rintro e w' ⟨rfl, ⟨nd, rfl⟩⟩))
      go_ret2
      exact ⟨pair_eq f.out, by repeat (first | exact Drawn0.refl _ | apply Drawn0.step)⟩
  · have f := Aside0.mk (show RSheetsForGores g n p = (0, 1) by unfold RSheetsForGores; rw [if_neg h])
    clear h
    go_enter Try.func68, Try.ntmps68
    go_wp2_with (first | (go_at_call 123; (with_reducible refine (spec_l04Ok_c _ b.out).mono ?_); rintro e w' ⟨rfl, ⟨nd, rfl⟩⟩))
    go_ret2
    exact ⟨pair_eq f.out, by repeat (first | exact Drawn0.refl _ | apply Drawn0.step)⟩
end Go.Proofs.Ytkfbbaaniglaeaa.Con
