/- Contracts of the program's functions on gores, discs and rims, third part. Conditions: as stated. -/
import Derived.Test.YtgfclbfkkekkmaaConD
import Derived.Test.YtgfclbfkkekkmaaMgo
import Derived.LoopTactic
namespace Go.Proofs.Ytgfclbfkkekkmaa.Con
open Go.RowKit Go.Proofs.YtgfclbfkkekkmaaW.PrintWords Go.Proofs.YtgfclbfkkekkmaaW.PrintLast Go.Proofs.YtgfclbfkkekkmaaW.PrintMore Go.Proofs.Ytgfclbfkkekkmaa.Mth
attribute [local go_sem] max2_int min2_int max_two min_two max_three min_three
set_option linter.unusedVariables false
set_option linter.unusedSimpArgs false
theorem impl_arcLength_c {n a : Int} (w : World) (hn : arOk n) (ha : 0 ≤ a ∧ a ≤ 1296000) : Calls Try.prog 58 #[.int .i64 n, .int .i64 a] w fun e w' => e = .returned (.int .i64 (arcLen n a)) ∧ Drawn0 w w' := by
  obtain ⟨m0, m1⟩ := mul_nn_bd (x := n) (y := a) (X := 1000000) (Y := 1296000) (by omega) (by omega)
  go_enter Try.func58, Try.ntmps58
  go_wp2_with (first | (go_at_call 74; (with_reducible refine (impl_nearest_c _ (by omega) (by omega) (by omega) (by omega)).mono ?_); rintro e w' ⟨rfl, ⟨nd, rfl⟩⟩))
  go_ret
  exact ⟨rfl, by repeat (first | exact Drawn0.refl _ | apply Drawn0.step)⟩
theorem spec_l06Arc_c {n a : Int} (w : World) (hn : arOk n) (ha : 0 ≤ a ∧ a ≤ 1296000) : Calls Try.prog 56 #[.int .i64 n, .int .i64 a] w fun e w' => e = .returned (.int .i64 (arcLen n a)) ∧ Drawn0 w w' := by
  obtain ⟨m0, m1⟩ := mul_nn_bd (x := n) (y := a) (X := 1000000) (Y := 1296000) (by omega) (by omega)
  go_enter Try.func56, Try.ntmps56
  go_wp2_with (first | (go_at_call 73; (with_reducible refine (spec_l00Round_c _ (by omega) (by omega) (by omega) (by omega)).mono ?_); rintro e w' ⟨rfl, ⟨nd, rfl⟩⟩))
  go_ret
  exact ⟨rfl, by repeat (first | exact Drawn0.refl _ | apply Drawn0.step)⟩
theorem spec_l06Code_c {n l : Int} {c : Int} (w : World) (hc : cod2 (arOk n ∧ northOk l) = c) : Calls Try.prog 63 #[.int .i64 n, .int .i64 l] w fun e w' => e = .returned (.int .i64 (c)) ∧ Drawn0 w w' := by
  rcases dec (arOk n) with ⟨hn, bn⟩ | ⟨hn, bn⟩ <;> rcases dec (northOk l) with ⟨hl, bl⟩ | ⟨hl, bl⟩
  · have f := Aside0.mk (show c = 0 by rw [← hc]; exact if_pos ⟨hn, hl⟩)
    clear hc hn hl
    go_enter Try.func63, Try.ntmps63
    go_wp2_with (first | (go_at_call 45; (with_reducible refine (spec_l00In_d _ (by first | exact bn.out | exact bl.out)).mono ?_); rintro e w' ⟨rfl, ⟨nd, rfl⟩⟩))
    go_ret
    exact ⟨by rw [f.out]; rfl, by repeat (first | exact Drawn0.refl _ | apply Drawn0.step)⟩
  all_goals
    have f := Aside0.mk (show c = 2 by rw [← hc]; exact if_neg (fun e => by first | exact hn e.1 | exact hl e.2))
    clear hc hn hl
    go_enter Try.func63, Try.ntmps63
    go_wp2_with (first | (go_at_call 45; (with_reducible refine (spec_l00In_d _ (by first | exact bn.out | exact bl.out)).mono ?_); rintro e w' ⟨rfl, ⟨nd, rfl⟩⟩))
    go_ret
    exact ⟨by rw [f.out]; rfl, by repeat (first | exact Drawn0.refl _ | apply Drawn0.step)⟩
theorem impl_CapRadius_c {n l : Int} (w : World) : Calls Try.prog 41 #[.int .i64 n, .int .i64 l] w fun e w' => e = .returned (.tuple #[.int .i64 (RCapRadius n l).1, .int .i64 (RCapRadius n l).2]) ∧ Drawn0 w w' := by
  rcases dec (arOk n) with ⟨hn, bn⟩ | ⟨hn, bn⟩ <;> rcases dec (northOk l) with ⟨hl, bl⟩ | ⟨hl, bl⟩
  · have f := Aside0.mk (show RCapRadius n l = (arcLen n (324000 - l), 0) from if_pos ⟨hn, hl⟩)
    go_enter Try.func41, Try.ntmps41
    go_wp2_with (first | (go_at_call 57; (with_reducible refine (impl_isAround_c _ bn.out).mono ?_); rintro e w' ⟨rfl, ⟨nd, rfl⟩⟩) | (go_at_call 64; (with_reducible refine (impl_isNorth_c _ bl.out).mono ?_); rintro e w' ⟨rfl, ⟨nd, rfl⟩⟩) | (go_at_call 58; (with_reducible refine (impl_arcLength_c _ (by omega) (by omega)).mono ?_); rintro e w' ⟨rfl, ⟨nd, rfl⟩⟩))
    go_ret2
    exact ⟨pair_eq f.out, by repeat (first | exact Drawn0.refl _ | apply Drawn0.step)⟩
  all_goals
    have f := Aside0.mk (show RCapRadius n l = (0, 2) from if_neg (fun e => by first | exact hn e.1 | exact hl e.2))
    clear hn hl
    go_enter Try.func41, Try.ntmps41
    go_wp2_with (first | (go_at_call 57; (with_reducible refine (impl_isAround_c _ bn.out).mono ?_); rintro e w' ⟨rfl, ⟨nd, rfl⟩⟩) | (go_at_call 64; (with_reducible refine (impl_isNorth_c _ bl.out).mono ?_); rintro e w' ⟨rfl, ⟨nd, rfl⟩⟩))
    go_ret2
    exact ⟨pair_eq f.out, by repeat (first | exact Drawn0.refl _ | apply Drawn0.step)⟩
theorem spec_CapRadius_c {n l : Int} (w : World) : Calls Try.prog 40 #[.int .i64 n, .int .i64 l] w fun e w' => e = .returned (.tuple #[.int .i64 (RCapRadius n l).1, .int .i64 (RCapRadius n l).2]) ∧ Drawn0 w w' := by
  by_cases k : arOk n ∧ northOk l
  · have f := Aside0.mk (show RCapRadius n l = (arcLen n (324000 - l), 0) from if_pos k)
    have hc := Aside0.mk (show cod2 (arOk n ∧ northOk l) = 0 from if_pos k)
    obtain ⟨hn, hl⟩ := k
    go_enter Try.func40, Try.ntmps40
    go_wp2_with (first | (go_at_call 63; (with_reducible refine (spec_l06Code_c _ hc.out).mono ?_); rintro e w' ⟨rfl, ⟨nd, rfl⟩⟩) | (go_at_call 56; (with_reducible refine (spec_l06Arc_c _ (by omega) (by omega)).mono ?_); rintro e w' ⟨rfl, ⟨nd, rfl⟩⟩))
    go_ret2
    exact ⟨pair_eq f.out, by repeat (first | exact Drawn0.refl _ | apply Drawn0.step)⟩
  · have f := Aside0.mk (show RCapRadius n l = (0, 2) from if_neg k)
    have hc := Aside0.mk (show cod2 (arOk n ∧ northOk l) = 2 from if_neg k)
    clear k
    go_enter Try.func40, Try.ntmps40
    go_wp2_with (first | (go_at_call 63; (with_reducible refine (spec_l06Code_c _ hc.out).mono ?_); rintro e w' ⟨rfl, ⟨nd, rfl⟩⟩))
    go_ret2
    exact ⟨pair_eq f.out, by repeat (first | exact Drawn0.refl _ | apply Drawn0.step)⟩
theorem FnExactCapRadius_c (a b : Int) (w : World) (_ : (Lit.int .i64 a).wf = true) (_ : (Lit.int .i64 b).wf = true) : Calls Try.prog 14 #[.int .i64 a, .int .i64 b] w fun e w' => e = .returned (.bool (true)) ∧ Drawn0 w w' := by
  go_enter Try.func14, Try.ntmps14
  go_wp2_with (first | (go_at_call 40; (with_reducible refine (spec_CapRadius_c _).mono ?_); rintro e w' ⟨rfl, ⟨nd, rfl⟩⟩) | (go_at_call 41; (with_reducible refine (impl_CapRadius_c _).mono ?_); rintro e w' ⟨rfl, ⟨nd, rfl⟩⟩))
  go_ret
  exact ⟨rfl, by repeat (first | exact Drawn0.refl _ | apply Drawn0.step)⟩
theorem impl_discCode_c {n r : Int} {ok : Bool} {c : Int} (w : World) (hc : discB n r ok = c) : Calls Try.prog 61 #[.int .i64 n, .int .i64 r, .bool ok] w fun e w' => e = .returned (.int .i64 c) ∧ Drawn0 w w' := by
  rcases dec (arOk n) with ⟨hn, bn⟩ | ⟨hn, bn⟩
  · rcases dec (radOk r) with ⟨hr, br⟩ | ⟨hr, br⟩
    · skip
      cases ok with
      | true =>
        by_cases z : n < 4 * r
        · have f := Aside0.mk (show c = 5 by rw [← hc]; unfold discB; rw [if_pos ⟨hn, hr, rfl⟩, if_pos z])
          clear hc
          go_enter Try.func61, Try.ntmps61
          go_wp2_with (first | (go_at_call 57; (with_reducible refine (impl_isAround_c _ bn.out).mono ?_); rintro e w' ⟨rfl, ⟨nd, rfl⟩⟩) | (go_at_call 75; (with_reducible refine (impl_isRadius_c _ br.out).mono ?_); rintro e w' ⟨rfl, ⟨nd, rfl⟩⟩))
          go_ret
          exact ⟨by rw [f.out]; rfl, by repeat (first | exact Drawn0.refl _ | apply Drawn0.step)⟩
        · have f := Aside0.mk (show c = 0 by rw [← hc]; unfold discB; rw [if_pos ⟨hn, hr, rfl⟩, if_neg z])
          clear hc
          go_enter Try.func61, Try.ntmps61
          go_wp2_with (first | (go_at_call 57; (with_reducible refine (impl_isAround_c _ bn.out).mono ?_); rintro e w' ⟨rfl, ⟨nd, rfl⟩⟩) | (go_at_call 75; (with_reducible refine (impl_isRadius_c _ br.out).mono ?_); rintro e w' ⟨rfl, ⟨nd, rfl⟩⟩))
          go_ret
          exact ⟨by rw [f.out]; rfl, by repeat (first | exact Drawn0.refl _ | apply Drawn0.step)⟩
      | false =>
        have f := Aside0.mk (show c = 2 by rw [← hc]; unfold discB; rw [if_neg (fun e => by simp at e)])
        clear hc hn hr
        go_enter Try.func61, Try.ntmps61
        go_wp2_with (first | (go_at_call 57; (with_reducible refine (impl_isAround_c _ bn.out).mono ?_); rintro e w' ⟨rfl, ⟨nd, rfl⟩⟩) | (go_at_call 75; (with_reducible refine (impl_isRadius_c _ br.out).mono ?_); rintro e w' ⟨rfl, ⟨nd, rfl⟩⟩))
        go_ret
        exact ⟨by rw [f.out]; rfl, by repeat (first | exact Drawn0.refl _ | apply Drawn0.step)⟩
    · have f := Aside0.mk (show c = 2 by rw [← hc]; unfold discB; rw [if_neg (fun e => hr e.2.1)])
      clear hc hn hr
      go_enter Try.func61, Try.ntmps61
      go_wp2_with (first | (go_at_call 57; (with_reducible refine (impl_isAround_c _ bn.out).mono ?_); rintro e w' ⟨rfl, ⟨nd, rfl⟩⟩) | (go_at_call 75; (with_reducible refine (impl_isRadius_c _ br.out).mono ?_); rintro e w' ⟨rfl, ⟨nd, rfl⟩⟩))
      go_ret
      exact ⟨by rw [f.out]; rfl, by repeat (first | exact Drawn0.refl _ | apply Drawn0.step)⟩
  · have f := Aside0.mk (show c = 2 by rw [← hc]; unfold discB; rw [if_neg (fun e => hn e.1)])
    clear hc hn
    go_enter Try.func61, Try.ntmps61
    go_wp2_with (first | (go_at_call 57; (with_reducible refine (impl_isAround_c _ bn.out).mono ?_); rintro e w' ⟨rfl, ⟨nd, rfl⟩⟩))
    go_ret
    exact ⟨by rw [f.out]; rfl, by repeat (first | exact Drawn0.refl _ | apply Drawn0.step)⟩
theorem spec_l06Radius_c {n r : Int} {c : Int} (w : World) (hc : discB n r true = c) : Calls Try.prog 59 #[.int .i64 n, .int .i64 r] w fun e w' => e = .returned (.int .i64 c) ∧ Drawn0 w w' := by
  rcases dec (arOk n) with ⟨hn, bn⟩ | ⟨hn, bn⟩
  · rcases dec (radOk r) with ⟨hr, br⟩ | ⟨hr, br⟩
    · skip
      by_cases z : n < 4 * r
      · have f := Aside0.mk (show c = 5 by rw [← hc]; unfold discB; rw [if_pos ⟨hn, hr, rfl⟩, if_pos z])
        clear hc
        go_enter Try.func59, Try.ntmps59
        go_wp2_with (first | (go_at_call 45; (with_reducible refine (spec_l00In_d _ (by first | exact bn.out | exact br.out)).mono ?_); rintro e w' ⟨rfl, ⟨nd, rfl⟩⟩))
        go_ret
        exact ⟨by rw [f.out]; rfl, by repeat (first | exact Drawn0.refl _ | apply Drawn0.step)⟩
      · have f := Aside0.mk (show c = 0 by rw [← hc]; unfold discB; rw [if_pos ⟨hn, hr, rfl⟩, if_neg z])
        clear hc
        go_enter Try.func59, Try.ntmps59
        go_wp2_with (first | (go_at_call 45; (with_reducible refine (spec_l00In_d _ (by first | exact bn.out | exact br.out)).mono ?_); rintro e w' ⟨rfl, ⟨nd, rfl⟩⟩))
        go_ret
        exact ⟨by rw [f.out]; rfl, by repeat (first | exact Drawn0.refl _ | apply Drawn0.step)⟩
    · have f := Aside0.mk (show c = 2 by rw [← hc]; unfold discB; rw [if_neg (fun e => hr e.2.1)])
      clear hc hn hr
      go_enter Try.func59, Try.ntmps59
      go_wp2_with (first | (go_at_call 45; (with_reducible refine (spec_l00In_d _ (by first | exact bn.out | exact br.out)).mono ?_); rintro e w' ⟨rfl, ⟨nd, rfl⟩⟩))
      go_ret
      exact ⟨by rw [f.out]; rfl, by repeat (first | exact Drawn0.refl _ | apply Drawn0.step)⟩
  · have f := Aside0.mk (show c = 2 by rw [← hc]; unfold discB; rw [if_neg (fun e => hn e.1)])
    clear hc hn
    go_enter Try.func59, Try.ntmps59
    go_wp2_with (first | (go_at_call 45; (with_reducible refine (spec_l00In_d _ bn.out).mono ?_); rintro e w' ⟨rfl, ⟨nd, rfl⟩⟩))
    go_ret
    exact ⟨by rw [f.out]; rfl, by repeat (first | exact Drawn0.refl _ | apply Drawn0.step)⟩
theorem impl_capEdge_c {n r : Int} (w : World) (hn : arOk n) (hr : radOk r) (h : 4 * r ≤ n) : Calls Try.prog 62 #[.int .i64 n, .int .i64 r] w fun e w' => e = .returned (.int .i64 (edge n r)) ∧ Drawn0 w w' := by
  have q0 : 0 ≤ r * 1296000 / n := Int.ediv_nonneg (by omega) (by omega)
  have q1 : r * 1296000 / n ≤ 1000000000000 := Int.le_trans (Int.ediv_le_self n (show 0 ≤ r * 1296000 by omega)) (by omega)
  have hz : (n == 0) = false := by simp; omega
  go_enter Try.func62, Try.ntmps62
  go_wp2_with (first | (fail))
  go_ret
  exact ⟨rfl, by repeat (first | exact Drawn0.refl _ | apply Drawn0.step)⟩
theorem spec_l06Edge_c {n r : Int} (w : World) (hn : arOk n) (hr : radOk r) (h : 4 * r ≤ n) : Calls Try.prog 60 #[.int .i64 n, .int .i64 r] w fun e w' => e = .returned (.int .i64 (edge n r)) ∧ Drawn0 w w' := by
  have q0 : 0 ≤ r * 1296000 / n := Int.ediv_nonneg (by omega) (by omega)
  have q1 : r * 1296000 / n ≤ 1000000000000 := Int.le_trans (Int.ediv_le_self n (show 0 ≤ r * 1296000 by omega)) (by omega)
  have hz : (n == 0) = false := by simp; omega
  go_enter Try.func60, Try.ntmps60
  go_wp2_with (first | (fail))
  go_ret
  exact ⟨rfl, by repeat (first | exact Drawn0.refl _ | apply Drawn0.step)⟩
theorem impl_CapEdge_c {n r : Int} (w : World) : Calls Try.prog 37 #[.int .i64 n, .int .i64 r] w fun e w' => e = .returned (.tuple #[.int .i64 (RCapEdgeB n r).1, .int .i64 (RCapEdgeB n r).2]) ∧ Drawn0 w w' := by
  obtain ⟨c, hc⟩ : ∃ c, discB n r true = c := ⟨_, rfl⟩
  by_cases z : c = 0
  · subst z
    obtain ⟨hn, hr, h4, _⟩ := discB_0 hc
    have f := Aside0.mk (show RCapEdgeB n r = (edge n r, 0) by unfold RCapEdgeB onC; rw [hc]; rfl)
    have hc := Aside0.mk hc
    go_enter Try.func37, Try.ntmps37
    go_wp2_with (first | (go_at_call 61; (with_reducible refine (impl_discCode_c _ hc.out).mono ?_); rintro e w' ⟨rfl, ⟨nd, rfl⟩⟩) | (go_at_call 62; (with_reducible refine (impl_capEdge_c _ (by omega) (by omega) (by omega)).mono ?_); rintro e w' ⟨rfl, ⟨nd, rfl⟩⟩))
    go_ret2
    exact ⟨pair_eq f.out, by repeat (first | exact Drawn0.refl _ | apply Drawn0.step)⟩
  · have f := Aside0.mk (show RCapEdgeB n r = (0, c) by unfold RCapEdgeB onC; rw [hc, if_neg z])
    have hc := Aside0.mk hc
    have z1 : (c == 0) = false := by simp [z]
    have z2 : (c != 0) = true := by simp [z]
    clear z
    go_enter Try.func37, Try.ntmps37
    go_wp2_with (first | (go_at_call 61; (with_reducible refine (impl_discCode_c _ hc.out).mono ?_); rintro e w' ⟨rfl, ⟨nd, rfl⟩⟩))
    go_ret2
    exact ⟨pair_eq f.out, by repeat (first | exact Drawn0.refl _ | apply Drawn0.step)⟩
theorem spec_CapEdge_c {n r : Int} (w : World) : Calls Try.prog 36 #[.int .i64 n, .int .i64 r] w fun e w' => e = .returned (.tuple #[.int .i64 (RCapEdgeB n r).1, .int .i64 (RCapEdgeB n r).2]) ∧ Drawn0 w w' := by
  obtain ⟨c, hc⟩ : ∃ c, discB n r true = c := ⟨_, rfl⟩
  by_cases z : c = 0
  · subst z
    obtain ⟨hn, hr, h4, _⟩ := discB_0 hc
    have f := Aside0.mk (show RCapEdgeB n r = (edge n r, 0) by unfold RCapEdgeB onC; rw [hc]; rfl)
    have hc := Aside0.mk hc
    go_enter Try.func36, Try.ntmps36
    go_wp2_with (first | (go_at_call 59; (with_reducible refine (spec_l06Radius_c _ hc.out).mono ?_); rintro e w' ⟨rfl, ⟨nd, rfl⟩⟩) | (go_at_call 60; (with_reducible refine (spec_l06Edge_c _ (by omega) (by omega) (by omega)).mono ?_); rintro e w' ⟨rfl, ⟨nd, rfl⟩⟩))
    go_ret2
    exact ⟨pair_eq f.out, by repeat (first | exact Drawn0.refl _ | apply Drawn0.step)⟩
  · have f := Aside0.mk (show RCapEdgeB n r = (0, c) by unfold RCapEdgeB onC; rw [hc, if_neg z])
    have hc := Aside0.mk hc
    have z1 : (c == 0) = false := by simp [z]
    have z2 : (c != 0) = true := by simp [z]
    clear z
    go_enter Try.func36, Try.ntmps36
    go_wp2_with (first | (go_at_call 59; (with_reducible refine (spec_l06Radius_c _ hc.out).mono ?_); rintro e w' ⟨rfl, ⟨nd, rfl⟩⟩))
    go_ret2
    exact ⟨pair_eq f.out, by repeat (first | exact Drawn0.refl _ | apply Drawn0.step)⟩
theorem FnExactCapEdge_c (a b : Int) (w : World) (_ : (Lit.int .i64 a).wf = true) (_ : (Lit.int .i64 b).wf = true) : Calls Try.prog 12 #[.int .i64 a, .int .i64 b] w fun e w' => e = .returned (.bool (true)) ∧ Drawn0 w w' := by
  go_enter Try.func12, Try.ntmps12
  go_wp2_with (first | (go_at_call 36; (with_reducible refine (spec_CapEdge_c _).mono ?_); rintro e w' ⟨rfl, ⟨nd, rfl⟩⟩) | (go_at_call 37; (with_reducible refine (impl_CapEdge_c _).mono ?_); rintro e w' ⟨rfl, ⟨nd, rfl⟩⟩))
  go_ret
  exact ⟨rfl, by repeat (first | exact Drawn0.refl _ | apply Drawn0.step)⟩
end Go.Proofs.Ytgfclbfkkekkmaa.Con
