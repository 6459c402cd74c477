/- Contracts of the program's functions on gores, discs and rims, third part. Conditions: as stated. -/
import Derived.Test.YtledlfncpjoepaaConD
import Derived.Test.YtledlfncpjoepaaMgo
import Derived.LoopTactic
namespace Go.Proofs.Ytledlfncpjoepaa.Con
open Go.RowKit Go.Proofs.YtledlfncpjoepaaW.PrintWords Go.Proofs.YtledlfncpjoepaaW.PrintLast Go.Proofs.YtledlfncpjoepaaW.PrintMore Go.Proofs.Ytledlfncpjoepaa.Mth
attribute [local go_sem] max2_int min2_int max_two min_two max_three min_three
set_option linter.unusedVariables false
set_option linter.unusedSimpArgs false
theorem impl_arcLength_c {n a : Int} (w : World) (hn : arOk n) (ha : 0 ≤ a ∧ a ≤ 1296000) : Calls Try.prog 108 #[.int .i64 n, .int .i64 a] w fun e w' => e = .returned (.int .i64 (arcLen n a)) ∧ Drawn0 w w' := by
  obtain ⟨m0, m1⟩ := mul_nn_bd (x := n) (y := a) (X := 1000000) (Y := 1296000) (by omega) (by omega)
  go_enter Try.func108, Try.ntmps108
  go_wp2_with (first | (go_at_call 56; (with_reducible refine (impl_nearest_c _ (by omega) (by omega) (by omega) (by omega)).mono ?_); rintro e w' ⟨rfl, ⟨nd, rfl⟩⟩))
  go_ret
  exact ⟨rfl, by repeat (first | exact Drawn0.refl _ | apply Drawn0.step)⟩
theorem spec_l06Arc_c {n a : Int} (w : World) (hn : arOk n) (ha : 0 ≤ a ∧ a ≤ 1296000) : Calls Try.prog 107 #[.int .i64 n, .int .i64 a] w fun e w' => e = .returned (.int .i64 (arcLen n a)) ∧ Drawn0 w w' := by
  obtain ⟨m0, m1⟩ := mul_nn_bd (x := n) (y := a) (X := 1000000) (Y := 1296000) (by omega) (by omega)
  go_enter Try.func107, Try.ntmps107
  go_wp2_with (first | (go_at_call 98; (with_reducible refine (spec_l00Round_c _ (by omega) (by omega) (by omega) (by omega)).mono ?_); rintro e w' ⟨rfl, ⟨nd, rfl⟩⟩))
  go_ret
  exact ⟨rfl, by repeat (first | exact Drawn0.refl _ | apply Drawn0.step)⟩
theorem spec_l06Code_c {n l : Int} {c : Int} (w : World) (hc : cod2 (arOk n ∧ northOk l) = c) : Calls Try.prog 94 #[.int .i64 n, .int .i64 l] w fun e w' => e = .returned (.int .i64 (c)) ∧ Drawn0 w w' := by
  rcases dec (arOk n) with ⟨hn, bn⟩ | ⟨hn, bn⟩ <;> rcases dec (northOk l) with ⟨hl, bl⟩ | ⟨hl, bl⟩
  · have f := Aside0.mk (show c = 0 by rw [← hc]; exact if_pos ⟨hn, hl⟩)
    clear hc hn hl
    go_enter Try.func94, Try.ntmps94
    go_wp2_with (first | (go_at_call 61; (with_reducible refine (spec_l00In_d _ (by first | exact bn.out | exact bl.out)).mono ?_); rintro e w' ⟨rfl, ⟨nd, rfl⟩⟩))
    go_ret
    exact ⟨by rw [f.out]; rfl, by repeat (first | exact Drawn0.refl _ | apply Drawn0.step)⟩
  all_goals
    have f := Aside0.mk (show c = 2 by rw [← hc]; exact if_neg (fun e => by first | exact hn e.1 | exact hl e.2))
    clear hc hn hl
    go_enter Try.func94, Try.ntmps94
    go_wp2_with (first | (go_at_call 61; (with_reducible refine (spec_l00In_d _ (by first | exact bn.out | exact bl.out)).mono ?_); rintro e w' ⟨rfl, ⟨nd, rfl⟩⟩))
    go_ret
    exact ⟨by rw [f.out]; rfl, by repeat (first | exact Drawn0.refl _ | apply Drawn0.step)⟩
theorem impl_rimExcess_c {n l : Int} (w : World) (hn : arOk n) (hl : northOk l) : Calls Try.prog 97 #[.int .i64 n, .int .i64 l] w fun e w' => e = .returned (.int .i64 (rimX n l)) ∧ Drawn0 w w' := by
  obtain ⟨m0, m1⟩ := arcLen_bd hn (a := 324000 - l) (by omega)
  obtain ⟨a0, a1⟩ := rim_bd hn hl
  obtain ⟨b0, b1⟩ := par_bd hn l
  go_enter Try.func97, Try.ntmps97
  go_wp2_with (first | (go_at_call 108; (with_reducible refine (impl_arcLength_c _ (by omega) (by omega)).mono ?_); rintro e w' ⟨rfl, ⟨nd, rfl⟩⟩) | (go_at_call 56; (with_reducible refine (impl_nearest_c _ (by omega) (by omega) (by omega) (by omega)).mono ?_); rintro e w' ⟨rfl, ⟨nd, rfl⟩⟩) | (go_at_call 106; (with_reducible refine (impl_parallel_c _ (by omega) (by omega)).mono ?_); rintro e w' ⟨rfl, ⟨nd, rfl⟩⟩))
  repeat (go_quiet (first | (go_at_call 108; exact quiet0 (impl_arcLength_c _ (by omega) (by omega))) | (go_at_call 56; exact quiet0 (impl_nearest_c _ (by omega) (by omega) (by omega) (by omega))) | (go_at_call 106; exact quiet0 (impl_parallel_c _ (by omega) (by omega)))); try go_wp2)
  go_ret
  exact ⟨rfl, by repeat (first | exact Drawn0.refl _ | apply Drawn0.step)⟩
theorem spec_l06Excess_c {n l : Int} (w : World) (hn : arOk n) (hl : northOk l) : Calls Try.prog 95 #[.int .i64 n, .int .i64 l] w fun e w' => e = .returned (.int .i64 (rimX n l)) ∧ Drawn0 w w' := by
  obtain ⟨m0, m1⟩ := arcLen_bd hn (a := 324000 - l) (by omega)
  obtain ⟨a0, a1⟩ := rim_bd hn hl
  obtain ⟨b0, b1⟩ := par_bd hn l
  obtain ⟨c0, c1⟩ := nCo_bd hn l
  have hp : near (n * Co l) 1000000 = par n l := rfl
  go_enter Try.func95, Try.ntmps95
  go_wp2_with (first | (go_at_call 107; (with_reducible refine (spec_l06Arc_c _ (by omega) (by omega)).mono ?_); rintro e w' ⟨rfl, ⟨nd, rfl⟩⟩) | (go_at_call 50; (with_reducible refine (spec_l03Cosine_c _ (by omega) (by omega)).mono ?_); rintro e w' ⟨rfl, ⟨nd, rfl⟩⟩) | (go_at_call 98; (with_reducible refine (spec_l00Round_c _ (by omega) (by omega) (by omega) (by omega)).mono ?_); rintro e w' ⟨rfl, ⟨nd, rfl⟩⟩))
  repeat (go_quiet (first | (go_at_call 107; exact quiet0 (spec_l06Arc_c _ (by omega) (by omega))) | (go_at_call 50; exact quiet0 (spec_l03Cosine_c _ (by omega) (by omega))) | (go_at_call 98; exact quiet0 (spec_l00Round_c _ (by omega) (by omega) (by omega) (by omega)))); try go_wp2)
  go_ret
  exact ⟨rfl, by repeat (first | exact Drawn0.refl _ | apply Drawn0.step)⟩
theorem impl_ceilDiv_c {a b : Int} (w : World) (hb : 0 < b) (h0 : 0 ≤ a) (h1 : a ≤ 1000000000000) : Calls Try.prog 60 #[.int .i64 a, .int .i64 b] w fun e w' => e = .returned (.int .i64 (-(-a / b))) ∧ Drawn0 w w' := by
  obtain ⟨c0, c1⟩ := ceil_bd hb h0 h1
  go_enter Try.func60, Try.ntmps60
  go_wp2_with (first | (go_at_call 100; (with_reducible refine (impl_floorDiv_c _ (by omega) (by omega) (by omega)).mono ?_); rintro e w' ⟨rfl, ⟨nd, rfl⟩⟩))
  go_ret
  exact ⟨rfl, by repeat (first | exact Drawn0.refl _ | apply Drawn0.step)⟩
theorem spec_l00Max_c {a b c : Int} (w : World) (hc : (if b < a then a else b) = c) : Calls Try.prog 89 #[.int .i64 a, .int .i64 b] w fun e w' => e = .returned (.int .i64 (c)) ∧ Drawn0 w w' := by
  by_cases h : b < a
  · have f := Aside0.mk (show c = a by rw [← hc]; exact if_pos h)
    clear hc
    go_enter Try.func89, Try.ntmps89
    go_wp2_with (first | (fail))
    go_ret
    exact ⟨by rw [f.out]; rfl, by repeat (first | exact Drawn0.refl _ | apply Drawn0.step)⟩
  · have f := Aside0.mk (show c = b by rw [← hc]; exact if_neg h)
    clear hc
    go_enter Try.func89, Try.ntmps89
    go_wp2_with (first | (fail))
    go_ret
    exact ⟨by rw [f.out]; rfl, by repeat (first | exact Drawn0.refl _ | apply Drawn0.step)⟩
theorem spec_l00Min_c {a b c : Int} (w : World) (hc : (if a < b then a else b) = c) : Calls Try.prog 104 #[.int .i64 a, .int .i64 b] w fun e w' => e = .returned (.int .i64 (c)) ∧ Drawn0 w w' := by
  by_cases h : a < b
  · have f := Aside0.mk (show c = a by rw [← hc]; exact if_pos h)
    clear hc
    go_enter Try.func104, Try.ntmps104
    go_wp2_with (first | (fail))
    go_ret
    exact ⟨by rw [f.out]; rfl, by repeat (first | exact Drawn0.refl _ | apply Drawn0.step)⟩
  · have f := Aside0.mk (show c = b by rw [← hc]; exact if_neg h)
    clear hc
    go_enter Try.func104, Try.ntmps104
    go_wp2_with (first | (fail))
    go_ret
    exact ⟨by rw [f.out]; rfl, by repeat (first | exact Drawn0.refl _ | apply Drawn0.step)⟩
theorem impl_SlitsFor_c {n l m : Int} (w : World) : Calls Try.prog 48 #[.int .i64 n, .int .i64 l, .int .i64 m] w fun e w' => e = .returned (.tuple #[.int .i64 (RSlitsFor n l m).1, .int .i64 (RSlitsFor n l m).2]) ∧ Drawn0 w w' := by
  rcases dec (arOk n) with ⟨hn, bn⟩ | ⟨hn, bn⟩
  · rcases dec (northOk l) with ⟨hl, bl⟩ | ⟨hl, bl⟩
    · rcases dec (brOk m) with ⟨hm, bm⟩ | ⟨hm, bm⟩
      · obtain ⟨x0, x1⟩ := rimX_bd hn hl
        by_cases z : 0 < rimX n l
        · have e : pos (rimX n l) = rimX n l := if_pos z
          obtain ⟨q0, q1⟩ := ceil_bd (a := rimX n l) (b := m) (by omega) (by omega) x1
          by_cases g : 72 < -(-(rimX n l) / m)
          · have f := Aside0.mk (show RSlitsFor n l m = (0, 5) by unfold RSlitsFor slits; rw [if_pos ⟨hn, hl, hm⟩, e, if_pos g])
            clear e
            go_enter Try.func48, Try.ntmps48
            go_wp2_with (first | (go_at_call 68; (with_reducible refine (impl_isAround_c _ bn.out).mono ?_); rintro e w' ⟨rfl, ⟨nd, rfl⟩⟩) | (go_at_call 96; (with_reducible refine (impl_isNorth_c _ bl.out).mono ?_); rintro e w' ⟨rfl, ⟨nd, rfl⟩⟩) | (go_at_call 59; (with_reducible refine (impl_isBreadth_c _ bm.out).mono ?_); rintro e w' ⟨rfl, ⟨nd, rfl⟩⟩) | (go_at_call 97; (with_reducible refine (impl_rimExcess_c _ (by omega) (by omega)).mono ?_); rintro e w' ⟨rfl, ⟨nd, rfl⟩⟩) | (go_at_call 60; (with_reducible refine (impl_ceilDiv_c _ (by omega) (by omega) (by omega)).mono ?_); rintro e w' ⟨rfl, ⟨nd, rfl⟩⟩))
            go_ret2
            exact ⟨pair_eq f.out, by repeat (first | exact Drawn0.refl _ | apply Drawn0.step)⟩
          · have f := Aside0.mk (show RSlitsFor n l m = (-(-(rimX n l) / m), 0) by unfold RSlitsFor slits; rw [if_pos ⟨hn, hl, hm⟩, e, if_neg g])
            clear e
            go_enter Try.func48, Try.ntmps48
            go_wp2_with (first | (go_at_call 68; (with_reducible refine (impl_isAround_c _ bn.out).mono ?_); rintro e w' ⟨rfl, ⟨nd, rfl⟩⟩) | (go_at_call 96; (with_reducible refine (impl_isNorth_c _ bl.out).mono ?_); rintro e w' ⟨rfl, ⟨nd, rfl⟩⟩) | (go_at_call 59; (with_reducible refine (impl_isBreadth_c _ bm.out).mono ?_); rintro e w' ⟨rfl, ⟨nd, rfl⟩⟩) | (go_at_call 97; (with_reducible refine (impl_rimExcess_c _ (by omega) (by omega)).mono ?_); rintro e w' ⟨rfl, ⟨nd, rfl⟩⟩) | (go_at_call 60; (with_reducible refine (impl_ceilDiv_c _ (by omega) (by omega) (by omega)).mono ?_); rintro e w' ⟨rfl, ⟨nd, rfl⟩⟩))
            go_ret2
            exact ⟨pair_eq f.out, by repeat (first | exact Drawn0.refl _ | apply Drawn0.step)⟩
        · have f := Aside0.mk (show RSlitsFor n l m = (0, 0) by unfold RSlitsFor slits; rw [if_pos ⟨hn, hl, hm⟩, show pos (rimX n l) = 0 from if_neg z]; simp)
          go_enter Try.func48, Try.ntmps48
          go_wp2_with (first | (go_at_call 68; (with_reducible refine (impl_isAround_c _ bn.out).mono ?_); rintro e w' ⟨rfl, ⟨nd, rfl⟩⟩) | (go_at_call 96; (with_reducible refine (impl_isNorth_c _ bl.out).mono ?_); rintro e w' ⟨rfl, ⟨nd, rfl⟩⟩) | (go_at_call 59; (with_reducible refine (impl_isBreadth_c _ bm.out).mono ?_); rintro e w' ⟨rfl, ⟨nd, rfl⟩⟩) | (go_at_call 97; (with_reducible refine (impl_rimExcess_c _ (by omega) (by omega)).mono ?_); rintro e w' ⟨rfl, ⟨nd, rfl⟩⟩) | (go_at_call 60; (with_reducible refine (impl_ceilDiv_c _ (by omega) (by omega) (by omega)).mono ?_); rintro e w' ⟨rfl, ⟨nd, rfl⟩⟩))
          go_ret2
          exact ⟨pair_eq f.out, by repeat (first | exact Drawn0.refl _ | apply Drawn0.step)⟩
      · have f := Aside0.mk (show RSlitsFor n l m = (0, 2) from if_neg (fun e => hm e.2.2))
        clear hn hl hm
        go_enter Try.func48, Try.ntmps48
        go_wp2_with (first | (go_at_call 68; (with_reducible refine (impl_isAround_c _ bn.out).mono ?_); rintro e w' ⟨rfl, ⟨nd, rfl⟩⟩) | (go_at_call 96; (with_reducible refine (impl_isNorth_c _ bl.out).mono ?_); rintro e w' ⟨rfl, ⟨nd, rfl⟩⟩) | (go_at_call 59; (with_reducible refine (impl_isBreadth_c _ bm.out).mono ?_); rintro e w' ⟨rfl, ⟨nd, rfl⟩⟩))
        go_ret2
        exact ⟨pair_eq f.out, by repeat (first | exact Drawn0.refl _ | apply Drawn0.step)⟩
    · have f := Aside0.mk (show RSlitsFor n l m = (0, 2) from if_neg (fun e => hl e.2.1))
      clear hn hl
      go_enter Try.func48, Try.ntmps48
      go_wp2_with (first | (go_at_call 68; (with_reducible refine (impl_isAround_c _ bn.out).mono ?_); rintro e w' ⟨rfl, ⟨nd, rfl⟩⟩) | (go_at_call 96; (with_reducible refine (impl_isNorth_c _ bl.out).mono ?_); rintro e w' ⟨rfl, ⟨nd, rfl⟩⟩))
      go_ret2
      exact ⟨pair_eq f.out, by repeat (first | exact Drawn0.refl _ | apply Drawn0.step)⟩
  · have f := Aside0.mk (show RSlitsFor n l m = (0, 2) from if_neg (fun e => hn e.1))
    clear hn
    go_enter Try.func48, Try.ntmps48
    go_wp2_with (first | (go_at_call 68; (with_reducible refine (impl_isAround_c _ bn.out).mono ?_); rintro e w' ⟨rfl, ⟨nd, rfl⟩⟩))
    go_ret2
    exact ⟨pair_eq f.out, by repeat (first | exact Drawn0.refl _ | apply Drawn0.step)⟩
theorem spec_SlitsFor_c {n l m : Int} (w : World) : Calls Try.prog 47 #[.int .i64 n, .int .i64 l, .int .i64 m] w fun e w' => e = .returned (.tuple #[.int .i64 (RSlitsFor n l m).1, .int .i64 (RSlitsFor n l m).2]) ∧ Drawn0 w w' := by
  by_cases k : arOk n ∧ northOk l
  · have hc := Aside0.mk (show cod2 (arOk n ∧ northOk l) = 0 from if_pos k)
    rcases dec (brOk m) with ⟨hm, bm⟩ | ⟨hm, bm⟩
    · obtain ⟨hn, hl⟩ := k
      obtain ⟨x0, x1⟩ := rimX_bd hn hl
      by_cases z : 0 < rimX n l
      · have e : pos (rimX n l) = rimX n l := if_pos z
        have hx := Aside0.mk (show (if rimX n l < 0 then 0 else rimX n l) = rimX n l from if_neg (by omega))
        obtain ⟨q0, q1⟩ := ceil_bd (a := rimX n l) (b := m) (by omega) (by omega) x1
        rw [ceil_eq (by omega)] at q0 q1
        by_cases g : 72 < (rimX n l + m - 1) / m
        · have f := Aside0.mk (show RSlitsFor n l m = (0, 5) by unfold RSlitsFor slits; rw [if_pos ⟨hn, hl, hm⟩, e, ceil_eq (by omega), if_pos g])
          clear e
          go_enter Try.func47, Try.ntmps47
          go_wp2_with (first | (go_at_call 94; (with_reducible refine (spec_l06Code_c _ hc.out).mono ?_); rintro e w' ⟨rfl, ⟨nd, rfl⟩⟩) | (go_at_call 61; (with_reducible refine (spec_l00In_d _ bm.out).mono ?_); rintro e w' ⟨rfl, ⟨nd, rfl⟩⟩) | (go_at_call 95; (with_reducible refine (spec_l06Excess_c _ (by omega) (by omega)).mono ?_); rintro e w' ⟨rfl, ⟨nd, rfl⟩⟩) | (go_at_call 89; (with_reducible refine (spec_l00Max_c _ hx.out).mono ?_); rintro e w' ⟨rfl, ⟨nd, rfl⟩⟩))
          go_ret2
          exact ⟨pair_eq f.out, by repeat (first | exact Drawn0.refl _ | apply Drawn0.step)⟩
        · have f := Aside0.mk (show RSlitsFor n l m = ((rimX n l + m - 1) / m, 0) by unfold RSlitsFor slits; rw [if_pos ⟨hn, hl, hm⟩, e, ceil_eq (by omega), if_neg g])
          clear e
          go_enter Try.func47, Try.ntmps47
          go_wp2_with (first | (go_at_call 94; (with_reducible refine (spec_l06Code_c _ hc.out).mono ?_); rintro e w' ⟨rfl, ⟨nd, rfl⟩⟩) | (go_at_call 61; (with_reducible refine (spec_l00In_d _ bm.out).mono ?_); rintro e w' ⟨rfl, ⟨nd, rfl⟩⟩) | (go_at_call 95; (with_reducible refine (spec_l06Excess_c _ (by omega) (by omega)).mono ?_); rintro e w' ⟨rfl, ⟨nd, rfl⟩⟩) | (go_at_call 89; (with_reducible refine (spec_l00Max_c _ hx.out).mono ?_); rintro e w' ⟨rfl, ⟨nd, rfl⟩⟩))
          go_ret2
          exact ⟨pair_eq f.out, by repeat (first | exact Drawn0.refl _ | apply Drawn0.step)⟩
      · have hq : (m - 1) / m = 0 := Int.ediv_eq_zero_of_lt (by omega) (by omega)
        have f := Aside0.mk (show RSlitsFor n l m = ((m - 1) / m, 0) by unfold RSlitsFor slits; rw [if_pos ⟨hn, hl, hm⟩, show pos (rimX n l) = 0 from if_neg z, hq]; simp)
        have hx := Aside0.mk (show (if rimX n l < 0 then 0 else rimX n l) = 0 by split <;> omega)
        have u0 : 0 ≤ (m - 1) / m := by omega
        have u1 : (m - 1) / m ≤ 0 := by omega
        clear hq
        go_enter Try.func47, Try.ntmps47
        go_wp2_with (first | (go_at_call 94; (with_reducible refine (spec_l06Code_c _ hc.out).mono ?_); rintro e w' ⟨rfl, ⟨nd, rfl⟩⟩) | (go_at_call 61; (with_reducible refine (spec_l00In_d _ bm.out).mono ?_); rintro e w' ⟨rfl, ⟨nd, rfl⟩⟩) | (go_at_call 95; (with_reducible refine (spec_l06Excess_c _ (by omega) (by omega)).mono ?_); rintro e w' ⟨rfl, ⟨nd, rfl⟩⟩) | (go_at_call 89; (with_reducible refine (spec_l00Max_c _ hx.out).mono ?_); rintro e w' ⟨rfl, ⟨nd, rfl⟩⟩))
        go_ret2
        exact ⟨pair_eq f.out, by repeat (first | exact Drawn0.refl _ | apply Drawn0.step)⟩
    · have f := Aside0.mk (show RSlitsFor n l m = (0, 2) from if_neg (fun e => hm e.2.2))
      clear k hm
      go_enter Try.func47, Try.ntmps47
      go_wp2_with (first | (go_at_call 94; (with_reducible refine (spec_l06Code_c _ hc.out).mono ?_); rintro e w' ⟨rfl, ⟨nd, rfl⟩⟩) | (go_at_call 61; (with_reducible refine (spec_l00In_d _ bm.out).mono ?_); rintro e w' ⟨rfl, ⟨nd, rfl⟩⟩))
      go_ret2
      exact ⟨pair_eq f.out, by repeat (first | exact Drawn0.refl _ | apply Drawn0.step)⟩
  · have f := Aside0.mk (show RSlitsFor n l m = (0, 2) from if_neg (fun e => k ⟨e.1, e.2.1⟩))
    have hc := Aside0.mk (show cod2 (arOk n ∧ northOk l) = 2 from if_neg k)
    clear k
    go_enter Try.func47, Try.ntmps47
    go_wp2_with (first | (go_at_call 94; (with_reducible refine (spec_l06Code_c _ hc.out).mono ?_); rintro e w' ⟨rfl, ⟨nd, rfl⟩⟩))
    go_ret2
    exact ⟨pair_eq f.out, by repeat (first | exact Drawn0.refl _ | apply Drawn0.step)⟩
theorem FnExactSlitsFor_c (a b c : Int) (w : World) (_ : (Lit.int .i64 a).wf = true) (_ : (Lit.int .i64 b).wf = true) (_ : (Lit.int .i64 c).wf = true) : Calls Try.prog 14 #[.int .i64 a, .int .i64 b, .int .i64 c] w fun e w' => e = .returned (.bool (true)) ∧ Drawn0 w w' := by
  go_enter Try.func14, Try.ntmps14
  go_wp2_with (first | (go_at_call 47; (with_reducible refine (spec_SlitsFor_c _).mono ?_); rintro e w' ⟨rfl, ⟨nd, rfl⟩⟩) | (go_at_call 48; (with_reducible refine (impl_SlitsFor_c _).mono ?_); rintro e w' ⟨rfl, ⟨nd, rfl⟩⟩))
  go_ret
  exact ⟨rfl, by repeat (first | exact Drawn0.refl _ | apply Drawn0.step)⟩
theorem spec_l04Paper_c {n p : Int} {c : Int} (w : World) (hc : cod2 (arOk n ∧ papOk p) = c) : Calls Try.prog 65 #[.int .i64 n, .int .i64 p] w fun e w' => e = .returned (.int .i64 (c)) ∧ Drawn0 w w' := by
  rcases dec (arOk n) with ⟨hn, bn⟩ | ⟨hn, bn⟩ <;> rcases dec (papOk p) with ⟨hl, bl⟩ | ⟨hl, bl⟩
  · have f := Aside0.mk (show c = 0 by rw [← hc]; exact if_pos ⟨hn, hl⟩)
    clear hc hn hl
    go_enter Try.func65, Try.ntmps65
    go_wp2_with (first | (go_at_call 61; (with_reducible refine (spec_l00In_d _ (by first | exact bn.out | exact bl.out)).mono ?_); rintro e w' ⟨rfl, ⟨nd, rfl⟩⟩))
    go_ret
    exact ⟨by rw [f.out]; rfl, by repeat (first | exact Drawn0.refl _ | apply Drawn0.step)⟩
  all_goals
    have f := Aside0.mk (show c = 2 by rw [← hc]; exact if_neg (fun e => by first | exact hn e.1 | exact hl e.2))
    clear hc hn hl
    go_enter Try.func65, Try.ntmps65
    go_wp2_with (first | (go_at_call 61; (with_reducible refine (spec_l00In_d _ (by first | exact bn.out | exact bl.out)).mono ?_); rintro e w' ⟨rfl, ⟨nd, rfl⟩⟩))
    go_ret
    exact ⟨by rw [f.out]; rfl, by repeat (first | exact Drawn0.refl _ | apply Drawn0.step)⟩
theorem impl_FewestGores_c {n p : Int} (w : World) : Calls Try.prog 25 #[.int .i64 n, .int .i64 p] w fun e w' => e = .returned (.tuple #[.int .i64 (RFewestGores n p).1, .int .i64 (RFewestGores n p).2]) ∧ Drawn0 w w' := by
  rcases dec (arOk n) with ⟨hn, bn⟩ | ⟨hn, bn⟩ <;> rcases dec (papOk p) with ⟨hp, bp⟩ | ⟨hp, bp⟩
  · have f := Aside0.mk (show RFewestGores n p = fewF n p 43 6 from if_pos ⟨hn, hp⟩)

    go_enter Try.func25, Try.ntmps25
    go_wp2_with (first | (go_at_call 68; (with_reducible refine (impl_isAround_c _ bn.out).mono ?_); rintro e w' ⟨rfl, ⟨nd, rfl⟩⟩) | (go_at_call 69; (with_reducible refine (impl_isPaper_c _ bp.out).mono ?_); rintro e w' ⟨rfl, ⟨nd, rfl⟩⟩))
    go_loopw [6] (fun v wr => ∃ (g : Int) (d : Nat), 6 ≤ g ∧ g + d = 49 ∧ fewF n p 43 6 = fewF n p d g ∧ v = .int .i64 g ∧ Drawn0 w wr) (fun v _ => (49 - intOf v).toNat)
    case atStart => exact ⟨6, 43, by omega, by omega, rfl, rfl, by repeat (first | exact Drawn0.refl _ | apply Drawn0.step)⟩
    case round =>
      obtain ⟨g, d, g0, gd, ff, rfl, hd⟩ := hrel
      have hd := Aside0.mk hd
      have gd := Aside0.mk gd
      by_cases hlt : g ≤ 48
      · obtain ⟨d, rfl⟩ : ∃ m, d = m + 1 := ⟨d - 1, by have := gd.out; omega⟩
        rcases dec (gOk g) with ⟨h, b⟩ | ⟨h, b⟩
        · by_cases z : gw g n 0 ≤ p
          · have f2 := Aside0.mk (f.out.trans (ff.trans (fewF_yes d ⟨h, z⟩)))
            clear ff h
            go_wp2_with (first | (go_at_call 70; (with_reducible refine (impl_ValidGores_c _ b.out).mono ?_); rintro e w' ⟨rfl, ⟨nd, rfl⟩⟩) | (go_at_call 71; (with_reducible refine (impl_goreWidth_c _ (by omega) (by omega) (by omega)).mono ?_); rintro e w' ⟨rfl, ⟨nd, rfl⟩⟩))
            go_ret2
            exact ⟨pair_eq f2.out, by repeat (first | exact hd.out | apply Drawn0.step)⟩
          · have f2 := Aside0.mk (ff.trans (fewF_no d (fun e => z e.2)))
            clear ff h
            go_wp2_with (first | (go_at_call 70; (with_reducible refine (impl_ValidGores_c _ b.out).mono ?_); rintro e w' ⟨rfl, ⟨nd, rfl⟩⟩) | (go_at_call 71; (with_reducible refine (impl_goreWidth_c _ (by omega) (by omega) (by omega)).mono ?_); rintro e w' ⟨rfl, ⟨nd, rfl⟩⟩))
            go_roundw
            case rel => exact ⟨g + 1, d, by omega, by have := gd.out; omega, f2.out, rfl, by repeat (first | exact hd.out | apply Drawn0.step)⟩
            case measure => simp [intOf]; omega
        · have f2 := Aside0.mk (ff.trans (fewF_no d (fun e => h e.1)))
          clear ff h
          go_wp2_with (first | (go_at_call 70; (with_reducible refine (impl_ValidGores_c _ b.out).mono ?_); rintro e w' ⟨rfl, ⟨nd, rfl⟩⟩))
          go_roundw
          case rel => exact ⟨g + 1, d, by omega, by have := gd.out; omega, f2.out, rfl, by repeat (first | exact hd.out | apply Drawn0.step)⟩
          case measure => simp [intOf]; omega
      · obtain rfl : d = 0 := by have := gd.out; omega
        have f2 := Aside0.mk (f.out.trans ff)
        clear ff
        go_wp2
        go_ret2
        exact ⟨pair_eq f2.out, by repeat (first | exact hd.out | apply Drawn0.step)⟩
  all_goals
    have f := Aside0.mk (show RFewestGores n p = (0, 2) from if_neg (fun e => by first | exact hn e.1 | exact hp e.2))

    clear hn hp
    go_enter Try.func25, Try.ntmps25
    go_wp2_with (first | (go_at_call 68; (with_reducible refine (impl_isAround_c _ bn.out).mono ?_); rintro e w' ⟨rfl, ⟨nd, rfl⟩⟩) | (go_at_call 69; (with_reducible refine (impl_isPaper_c _ bp.out).mono ?_); rintro e w' ⟨rfl, ⟨nd, rfl⟩⟩))
    go_ret2
    exact ⟨pair_eq f.out, by repeat (first | exact Drawn0.refl _ | apply Drawn0.step)⟩
theorem spec_FewestGores_c {n p : Int} (w : World) : Calls Try.prog 24 #[.int .i64 n, .int .i64 p] w fun e w' => e = .returned (.tuple #[.int .i64 (RFewestGores n p).1, .int .i64 (RFewestGores n p).2]) ∧ Drawn0 w w' := by
  rcases dec (arOk n) with ⟨hn, bn⟩ | ⟨hn, bn⟩ <;> rcases dec (papOk p) with ⟨hp, bp⟩ | ⟨hp, bp⟩
  · have f := Aside0.mk (show RFewestGores n p = fewF n p 43 6 from if_pos ⟨hn, hp⟩)
    have hc := Aside0.mk (show cod2 (arOk n ∧ papOk p) = 0 from if_pos ⟨hn, hp⟩)
    go_enter Try.func24, Try.ntmps24
    go_wp2_with (first | (go_at_call 65; (with_reducible refine (spec_l04Paper_c _ hc.out).mono ?_); rintro e w' ⟨rfl, ⟨nd, rfl⟩⟩))
    go_loopw [7] (fun v wr => ∃ (g : Int) (d : Nat), 6 ≤ g ∧ g + d = 49 ∧ fewF n p 43 6 = fewF n p d g ∧ v = .int .i64 g ∧ Drawn0 w wr) (fun v _ => (49 - intOf v).toNat)
    case atStart => exact ⟨6, 43, by omega, by omega, rfl, rfl, by repeat (first | exact Drawn0.refl _ | apply Drawn0.step)⟩
    case round =>
      obtain ⟨g, d, g0, gd, ff, rfl, hd⟩ := hrel
      have hd := Aside0.mk hd
      have gd := Aside0.mk gd
      by_cases hlt : g ≤ 48
      · obtain ⟨d, rfl⟩ : ∃ m, d = m + 1 := ⟨d - 1, by have := gd.out; omega⟩
        rcases dec (gOk g) with ⟨h, b⟩ | ⟨h, b⟩
        · by_cases z : gw g n 0 ≤ p
          · have f2 := Aside0.mk (f.out.trans (ff.trans (fewF_yes d ⟨h, z⟩)))
            clear ff h
            go_wp2_with (first | (go_at_call 66; (with_reducible refine (spec_l04Ok_c _ b.out).mono ?_); rintro e w' ⟨rfl, ⟨nd, rfl⟩⟩) | (go_at_call 67; (with_reducible refine (spec_l04Width_c _ (by omega) (by omega) (by omega)).mono ?_); rintro e w' ⟨rfl, ⟨nd, rfl⟩⟩))
            go_ret2
            exact ⟨pair_eq f2.out, by repeat (first | exact hd.out | apply Drawn0.step)⟩
          · have f2 := Aside0.mk (ff.trans (fewF_no d (fun e => z e.2)))
            clear ff h
            go_wp2_with (first | (go_at_call 66; (with_reducible refine (spec_l04Ok_c _ b.out).mono ?_); rintro e w' ⟨rfl, ⟨nd, rfl⟩⟩) | (go_at_call 67; (with_reducible refine (spec_l04Width_c _ (by omega) (by omega) (by omega)).mono ?_); rintro e w' ⟨rfl, ⟨nd, rfl⟩⟩))
            go_roundw
            case rel => exact ⟨g + 1, d, by omega, by have := gd.out; omega, f2.out, rfl, by repeat (first | exact hd.out | apply Drawn0.step)⟩
            case measure => simp [intOf]; omega
        · have f2 := Aside0.mk (ff.trans (fewF_no d (fun e => h e.1)))
          clear ff h
          go_wp2_with (first | (go_at_call 66; (with_reducible refine (spec_l04Ok_c _ b.out).mono ?_); rintro e w' ⟨rfl, ⟨nd, rfl⟩⟩))
          go_roundw
          case rel => exact ⟨g + 1, d, by omega, by have := gd.out; omega, f2.out, rfl, by repeat (first | exact hd.out | apply Drawn0.step)⟩
          case measure => simp [intOf]; omega
      · obtain rfl : d = 0 := by have := gd.out; omega
        have f2 := Aside0.mk (f.out.trans ff)
        clear ff
        go_wp2
        go_ret2
        exact ⟨pair_eq f2.out, by repeat (first | exact hd.out | apply Drawn0.step)⟩
  all_goals
    have f := Aside0.mk (show RFewestGores n p = (0, 2) from if_neg (fun e => by first | exact hn e.1 | exact hp e.2))
    have hc := Aside0.mk (show cod2 (arOk n ∧ papOk p) = 2 from if_neg (fun e => by first | exact hn e.1 | exact hp e.2))
    clear hn hp
    go_enter Try.func24, Try.ntmps24
    go_wp2_with (first | (go_at_call 65; (with_reducible refine (spec_l04Paper_c _ hc.out).mono ?_); rintro e w' ⟨rfl, ⟨nd, rfl⟩⟩))
    go_ret2
    exact ⟨pair_eq f.out, by repeat (first | exact Drawn0.refl _ | apply Drawn0.step)⟩
theorem FnExactFewestGores_c (a b : Int) (w : World) (_ : (Lit.int .i64 a).wf = true) (_ : (Lit.int .i64 b).wf = true) : Calls Try.prog 6 #[.int .i64 a, .int .i64 b] w fun e w' => e = .returned (.bool (true)) ∧ Drawn0 w w' := by
  go_enter Try.func6, Try.ntmps6
  go_wp2_with (first | (go_at_call 24; (with_reducible refine (spec_FewestGores_c _).mono ?_); rintro e w' ⟨rfl, ⟨nd, rfl⟩⟩) | (go_at_call 25; (with_reducible refine (impl_FewestGores_c _).mono ?_); rintro e w' ⟨rfl, ⟨nd, rfl⟩⟩))
  go_ret
  exact ⟨rfl, by repeat (first | exact Drawn0.refl _ | apply Drawn0.step)⟩
theorem impl_discCode_c {n r : Int} {ok : Bool} {c : Int} (w : World) (hc : discB n r ok = c) : Calls Try.prog 83 #[.int .i64 n, .int .i64 r, .bool ok] w fun e w' => e = .returned (.int .i64 c) ∧ Drawn0 w w' := by
  rcases dec (arOk n) with ⟨hn, bn⟩ | ⟨hn, bn⟩
  · rcases dec (radOk r) with ⟨hr, br⟩ | ⟨hr, br⟩
    · skip
      cases ok with
      | true =>
        by_cases z : n < 4 * r
        · have f := Aside0.mk (show c = 5 by rw [← hc]; unfold discB; rw [if_pos ⟨hn, hr, rfl⟩, if_pos z])
          clear hc
          go_enter Try.func83, Try.ntmps83
          go_wp2_with (first | (go_at_call 68; (with_reducible refine (impl_isAround_c _ bn.out).mono ?_); rintro e w' ⟨rfl, ⟨nd, rfl⟩⟩) | (go_at_call 58; (with_reducible refine (impl_isRadius_c _ br.out).mono ?_); rintro e w' ⟨rfl, ⟨nd, rfl⟩⟩))
          go_ret
          exact ⟨by rw [f.out]; rfl, by repeat (first | exact Drawn0.refl _ | apply Drawn0.step)⟩
        · have f := Aside0.mk (show c = 0 by rw [← hc]; unfold discB; rw [if_pos ⟨hn, hr, rfl⟩, if_neg z])
          clear hc
          go_enter Try.func83, Try.ntmps83
          go_wp2_with (first | (go_at_call 68; (with_reducible refine (impl_isAround_c _ bn.out).mono ?_); rintro e w' ⟨rfl, ⟨nd, rfl⟩⟩) | (go_at_call 58; (with_reducible refine (impl_isRadius_c _ br.out).mono ?_); rintro e w' ⟨rfl, ⟨nd, rfl⟩⟩))
          go_ret
          exact ⟨by rw [f.out]; rfl, by repeat (first | exact Drawn0.refl _ | apply Drawn0.step)⟩
      | false =>
        have f := Aside0.mk (show c = 2 by rw [← hc]; unfold discB; rw [if_neg (fun e => by simp at e)])
        clear hc hn hr
        go_enter Try.func83, Try.ntmps83
        go_wp2_with (first | (go_at_call 68; (with_reducible refine (impl_isAround_c _ bn.out).mono ?_); rintro e w' ⟨rfl, ⟨nd, rfl⟩⟩) | (go_at_call 58; (with_reducible refine (impl_isRadius_c _ br.out).mono ?_); rintro e w' ⟨rfl, ⟨nd, rfl⟩⟩))
        go_ret
        exact ⟨by rw [f.out]; rfl, by repeat (first | exact Drawn0.refl _ | apply Drawn0.step)⟩
    · have f := Aside0.mk (show c = 2 by rw [← hc]; unfold discB; rw [if_neg (fun e => hr e.2.1)])
      clear hc hn hr
      go_enter Try.func83, Try.ntmps83
      go_wp2_with (first | (go_at_call 68; (with_reducible refine (impl_isAround_c _ bn.out).mono ?_); rintro e w' ⟨rfl, ⟨nd, rfl⟩⟩) | (go_at_call 58; (with_reducible refine (impl_isRadius_c _ br.out).mono ?_); rintro e w' ⟨rfl, ⟨nd, rfl⟩⟩))
      go_ret
      exact ⟨by rw [f.out]; rfl, by repeat (first | exact Drawn0.refl _ | apply Drawn0.step)⟩
  · have f := Aside0.mk (show c = 2 by rw [← hc]; unfold discB; rw [if_neg (fun e => hn e.1)])
    clear hc hn
    go_enter Try.func83, Try.ntmps83
    go_wp2_with (first | (go_at_call 68; (with_reducible refine (impl_isAround_c _ bn.out).mono ?_); rintro e w' ⟨rfl, ⟨nd, rfl⟩⟩))
    go_ret
    exact ⟨by rw [f.out]; rfl, by repeat (first | exact Drawn0.refl _ | apply Drawn0.step)⟩
theorem spec_l06Radius_c {n r : Int} {c : Int} (w : World) (hc : discB n r true = c) : Calls Try.prog 81 #[.int .i64 n, .int .i64 r] w fun e w' => e = .returned (.int .i64 c) ∧ Drawn0 w w' := by
  rcases dec (arOk n) with ⟨hn, bn⟩ | ⟨hn, bn⟩
  · rcases dec (radOk r) with ⟨hr, br⟩ | ⟨hr, br⟩
    · skip
      by_cases z : n < 4 * r
      · have f := Aside0.mk (show c = 5 by rw [← hc]; unfold discB; rw [if_pos ⟨hn, hr, rfl⟩, if_pos z])
        clear hc
        go_enter Try.func81, Try.ntmps81
        go_wp2_with (first | (go_at_call 61; (with_reducible refine (spec_l00In_d _ (by first | exact bn.out | exact br.out)).mono ?_); rintro e w' ⟨rfl, ⟨nd, rfl⟩⟩))
        go_ret
        exact ⟨by rw [f.out]; rfl, by repeat (first | exact Drawn0.refl _ | apply Drawn0.step)⟩
      · have f := Aside0.mk (show c = 0 by rw [← hc]; unfold discB; rw [if_pos ⟨hn, hr, rfl⟩, if_neg z])
        clear hc
        go_enter Try.func81, Try.ntmps81
        go_wp2_with (first | (go_at_call 61; (with_reducible refine (spec_l00In_d _ (by first | exact bn.out | exact br.out)).mono ?_); rintro e w' ⟨rfl, ⟨nd, rfl⟩⟩))
        go_ret
        exact ⟨by rw [f.out]; rfl, by repeat (first | exact Drawn0.refl _ | apply Drawn0.step)⟩
    · have f := Aside0.mk (show c = 2 by rw [← hc]; unfold discB; rw [if_neg (fun e => hr e.2.1)])
      clear hc hn hr
      go_enter Try.func81, Try.ntmps81
      go_wp2_with (first | (go_at_call 61; (with_reducible refine (spec_l00In_d _ (by first | exact bn.out | exact br.out)).mono ?_); rintro e w' ⟨rfl, ⟨nd, rfl⟩⟩))
      go_ret
      exact ⟨by rw [f.out]; rfl, by repeat (first | exact Drawn0.refl _ | apply Drawn0.step)⟩
  · have f := Aside0.mk (show c = 2 by rw [← hc]; unfold discB; rw [if_neg (fun e => hn e.1)])
    clear hc hn
    go_enter Try.func81, Try.ntmps81
    go_wp2_with (first | (go_at_call 61; (with_reducible refine (spec_l00In_d _ bn.out).mono ?_); rintro e w' ⟨rfl, ⟨nd, rfl⟩⟩))
    go_ret
    exact ⟨by rw [f.out]; rfl, by repeat (first | exact Drawn0.refl _ | apply Drawn0.step)⟩
theorem impl_capEdge_c {n r : Int} (w : World) (hn : arOk n) (hr : radOk r) (h : 4 * r ≤ n) : Calls Try.prog 84 #[.int .i64 n, .int .i64 r] w fun e w' => e = .returned (.int .i64 (edge n r)) ∧ Drawn0 w w' := by
  have q0 : 0 ≤ r * 1296000 / n := Int.ediv_nonneg (by omega) (by omega)
  have q1 : r * 1296000 / n ≤ 1000000000000 := Int.le_trans (Int.ediv_le_self n (show 0 ≤ r * 1296000 by omega)) (by omega)
  have hz : (n == 0) = false := by simp; omega
  go_enter Try.func84, Try.ntmps84
  go_wp2_with (first | (fail))
  go_ret
  exact ⟨rfl, by repeat (first | exact Drawn0.refl _ | apply Drawn0.step)⟩
theorem spec_l06Edge_c {n r : Int} (w : World) (hn : arOk n) (hr : radOk r) (h : 4 * r ≤ n) : Calls Try.prog 82 #[.int .i64 n, .int .i64 r] w fun e w' => e = .returned (.int .i64 (edge n r)) ∧ Drawn0 w w' := by
  have q0 : 0 ≤ r * 1296000 / n := Int.ediv_nonneg (by omega) (by omega)
  have q1 : r * 1296000 / n ≤ 1000000000000 := Int.le_trans (Int.ediv_le_self n (show 0 ≤ r * 1296000 by omega)) (by omega)
  have hz : (n == 0) = false := by simp; omega
  go_enter Try.func82, Try.ntmps82
  go_wp2_with (first | (fail))
  go_ret
  exact ⟨rfl, by repeat (first | exact Drawn0.refl _ | apply Drawn0.step)⟩
end Go.Proofs.Ytledlfncpjoepaa.Con
