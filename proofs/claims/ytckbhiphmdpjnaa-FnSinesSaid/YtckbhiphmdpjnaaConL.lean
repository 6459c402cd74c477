/- The statement on sines: what the source draws, the program's sines, arcs and tangents answer as told. Conditions: as stated. -/
import Derived.Test.YtckbhiphmdpjnaaConK
import Derived.Test.YtckbhiphmdpjnaaConB
import Derived.Test.YtckbhiphmdpjnaaMsi
namespace Go.Proofs.Ytckbhiphmdpjnaa.Con
open Go.RowKit Go.Proofs.YtckbhiphmdpjnaaW.PrintWords Go.Proofs.YtckbhiphmdpjnaaW.PrintLast Go.Proofs.YtckbhiphmdpjnaaW.PrintMore Go.Proofs.Ytckbhiphmdpjnaa.Mth
attribute [local go_sem] max2_int min2_int max_two min_two max_three min_three
set_option linter.unusedVariables false
set_option linter.unusedSimpArgs false
theorem ret_boolT {b : Bool} (h : b = true) : Ending.returned (.bool b) = .returned (.bool true) := by rw [h]
set_option maxHeartbeats 4000000 in
set_option maxRecDepth 100000 in
theorem FnSines_c {A B : Option Addr} {n m c d : Nat} {xs ys : List Int} (w : World) (hr : ReadsInt w .u8 A n xs) (hx : ∀ x ∈ xs, 0 ≤ x ∧ x ≤ 255) (hr2 : ReadsInt w .u8 B m ys) (hx2 : ∀ x ∈ ys, 0 ≤ x ∧ x ≤ 255) : Calls Try.prog 6 #[.slice A n c, .slice B m d] w fun e w' => e = .returned (.bool true) ∧ Below w.heap.size w w' := by
  rcases dec (3000 < n ∨ 3000 < m) with ⟨h, b⟩ | ⟨h, b⟩
  · clear h
    have hr := Aside0.mk hr
    have hr2 := Aside0.mk hr2
    go_enter Try.func6, Try.ntmps6
    go_wp2_with (fail)
    refine (a2Long_c _ b.out).mono ?_
    rintro e w' ⟨rfl, ⟨nd, rfl⟩⟩
    go_wp2
    go_ret
    exact ⟨rfl, by repeat (first | (with_reducible first | exact Below.refl _ _ | apply below_alloc | apply pw_below_drewN | apply below_drew1 | (refine below_step ?_ (by assumption))) | exact Below.refl _ _)⟩
  · have hn : n ≤ 5000 := by omega
    have hm : m ≤ 5000 := by omega
    clear h
    have hr := Aside0.mk hr
    have hr2 := Aside0.mk hr2
    have hx := Aside0.mk hx
    have hx2 := Aside0.mk hx2
    go_enter Try.func6, Try.ntmps6
    go_wp2_with (fail)
    refine (a2Long_c _ b.out).mono ?_
    rintro e w' ⟨rfl, ⟨nd, rfl⟩⟩
    go_wp2_with (fail)
    refine (A2Angle_c _ (by first | exact hr.out | exact hr.out.below (pw_below_drewN (Below.refl _ _) _)) hx.out hn).mono ?_
    rintro e W ⟨a, a0, a1, rfl, hb⟩
    have HB := Aside0.mk (show Below w.heap.size w W from below_step ( by repeat (first | (with_reducible first | exact Below.refl _ _ | apply below_alloc | apply pw_below_drewN | apply below_drew1 | (refine below_step ?_ (by assumption))) | exact Below.refl _ _) ) hb)
    have hr2 := Aside0.mk (hr2.out.below HB.out)
    clear hb hr
    obtain ⟨s0, s1⟩ := S_bd a
    obtain ⟨t0, t1⟩ := Co_bd a
    go_wp2_with (fail)
    refine (impl_SineOf_c _).mono ?_
    rintro e w' ⟨rfl, ⟨nd, rfl⟩⟩
    rw [RSineOf_in (a := a) (by omega)]
    go_wp2_with (fail)
    refine (impl_SineOf_c _).mono ?_
    rintro e w' ⟨rfl, ⟨nd, rfl⟩⟩
    rw [RSineOf_in (a := 648000 - a) (by omega), S_sup]
    go_wp2_with (fail)
    refine (impl_SineOf_c _).mono ?_
    rintro e w' ⟨rfl, ⟨nd, rfl⟩⟩
    rw [RSineOf_in (a := -a) (by omega), S_neg]
    go_wp2_with (fail)
    refine (impl_CosineOf_c _).mono ?_
    rintro e w' ⟨rfl, ⟨nd, rfl⟩⟩
    rw [RCosineOf_in (a := a) (by omega)]
    go_wp2_with (fail)
    refine (impl_CosineOf_c _).mono ?_
    rintro e w' ⟨rfl, ⟨nd, rfl⟩⟩
    rw [RCosineOf_in (a := -a) (by omega), Co_neg]
    go_wp2_with (fail)
    refine (impl_SineOf_c _).mono ?_
    rintro e w' ⟨rfl, ⟨nd, rfl⟩⟩
    rw [RSineOf_in (a := a + 324000) (by omega), show S (a + 324000) = Co a from rfl]
    go_wp2_with (fail)
    refine (a2At_c _ (by first | exact hr2.out | exact hr2.out.below (pw_below_drewN (Below.refl _ _) _)) hx2.out (by omega) (by omega) (by omega) (by omega)).mono ?_
    rintro e w' ⟨p, p0, p1, rfl, ⟨nd, rfl⟩⟩
    go_wp2_with (fail)
    refine (a2At_c _ (by first | exact hr2.out | exact hr2.out.below (pw_below_drewN (Below.refl _ _) _)) hx2.out (by omega) (by omega) (by omega) (by omega)).mono ?_
    rintro e w' ⟨q, q0, q1, rfl, ⟨nd, rfl⟩⟩
    obtain ⟨v0, v1⟩ := S_bd (p * 1296)
    have v0 := S_nn (x := p * 1296) (by omega) (by omega)
    have vw := S_mono (x := p * 1296) (y := p * 1296 + q) (by omega) (by omega) (by omega)
    have A0 := (Ar_bd v0 v1).1
    have A1 := Ar_le (x := p * 1296) (by omega) (by omega)
    have A2 := Ar_at v0 v1
    obtain ⟨k0, k1⟩ := Co_bd (p * 1296)
    have k0 := Co_nn (x := p * 1296) (by omega) (by omega)
    go_wp2_with (fail)
    refine (impl_SineOf_c _).mono ?_
    rintro e w' ⟨rfl, ⟨nd, rfl⟩⟩
    rw [RSineOf_in (a := p * 1296) (by omega)]
    go_wp2_with (fail)
    refine (impl_SineOf_c _).mono ?_
    rintro e w' ⟨rfl, ⟨nd, rfl⟩⟩
    rw [RSineOf_in (a := p * 1296 + q) (by omega)]
    go_wp2_with (fail)
    refine (impl_ArcOf_c _).mono ?_
    rintro e w' ⟨rfl, ⟨nd, rfl⟩⟩
    rw [RArcOf_in v0 v1]
    go_wp2_with (fail)
    refine (spec_SineOf_c _).mono ?_
    rintro e w' ⟨rfl, ⟨nd, rfl⟩⟩
    rw [RSineOf_in (a := Ar (S (p * 1296))) (by omega)]
    by_cases y : 0 < Ar (S (p * 1296))
    · have A3 := Ar_less v0 v1 y
      go_wp2_with (fail)
      refine (spec_SineOf_c _).mono ?_
      rintro e w' ⟨rfl, ⟨nd, rfl⟩⟩
      rw [RSineOf_in (a := Ar (S (p * 1296)) - 1) (by omega)]
      by_cases z : Co (p * 1296) = 0
      · have f := show RTangentOf (p * 1296) = (0, 6) by unfold RTangentOf; rw [if_pos (by omega), if_pos z]
        have z' : (Co (p * 1296) == 0) = true := by simp [z]
        clear z
        go_wp2_with (fail)
        refine (impl_TangentOf_c _).mono ?_
        rintro e w' ⟨rfl, ⟨nd, rfl⟩⟩
        rw [f]
        clear f
        go_wp2_with (fail)
        refine (spec_CosineOf_c _).mono ?_
        rintro e w' ⟨rfl, ⟨nd, rfl⟩⟩
        rw [RCosineOf_in (a := p * 1296) (by omega)]
        go_wp2
        repeat (go_quiet (fail); try go_wp2)
        go_ret
        exact ⟨rfl, by repeat (first | (with_reducible first | exact HB.out | apply below_alloc | apply pw_below_drewN | apply below_drew1) | exact HB.out)⟩
      · have f := show RTangentOf (p * 1296) = (near (1000000 * S (p * 1296)) (Co (p * 1296)), 0) by unfold RTangentOf nearS; rw [if_pos (by omega), if_neg z, if_neg (by omega)]
        have z' : (Co (p * 1296) == 0) = false := by simp [z]
        obtain ⟨g0, g1, g2, g3⟩ := tan_bd v0 v1 (k := Co (p * 1296)) (by omega) k1
        clear z
        go_wp2_with (fail)
        refine (impl_TangentOf_c _).mono ?_
        rintro e w' ⟨rfl, ⟨nd, rfl⟩⟩
        rw [f]
        clear f
        go_wp2_with (fail)
        refine (spec_CosineOf_c _).mono ?_
        rintro e w' ⟨rfl, ⟨nd, rfl⟩⟩
        rw [RCosineOf_in (a := p * 1296) (by omega)]
        go_wp2
        repeat (go_quiet (fail); try go_wp2)
        go_ret
        exact ⟨by first | rfl | exact ret_boolT (decide_eq_true (by omega)), by repeat (first | (with_reducible first | exact HB.out | apply below_alloc | apply pw_below_drewN | apply below_drew1) | exact HB.out)⟩
    · skip
      by_cases z : Co (p * 1296) = 0
      · have f := show RTangentOf (p * 1296) = (0, 6) by unfold RTangentOf; rw [if_pos (by omega), if_pos z]
        have z' : (Co (p * 1296) == 0) = true := by simp [z]
        clear z
        go_wp2_with (fail)
        refine (impl_TangentOf_c _).mono ?_
        rintro e w' ⟨rfl, ⟨nd, rfl⟩⟩
        rw [f]
        clear f
        go_wp2_with (fail)
        refine (spec_CosineOf_c _).mono ?_
        rintro e w' ⟨rfl, ⟨nd, rfl⟩⟩
        rw [RCosineOf_in (a := p * 1296) (by omega)]
        go_wp2
        repeat (go_quiet (fail); try go_wp2)
        go_ret
        exact ⟨rfl, by repeat (first | (with_reducible first | exact HB.out | apply below_alloc | apply pw_below_drewN | apply below_drew1) | exact HB.out)⟩
      · have f := show RTangentOf (p * 1296) = (near (1000000 * S (p * 1296)) (Co (p * 1296)), 0) by unfold RTangentOf nearS; rw [if_pos (by omega), if_neg z, if_neg (by omega)]
        have z' : (Co (p * 1296) == 0) = false := by simp [z]
        obtain ⟨g0, g1, g2, g3⟩ := tan_bd v0 v1 (k := Co (p * 1296)) (by omega) k1
        clear z
        go_wp2_with (fail)
        refine (impl_TangentOf_c _).mono ?_
        rintro e w' ⟨rfl, ⟨nd, rfl⟩⟩
        rw [f]
        clear f
        go_wp2_with (fail)
        refine (spec_CosineOf_c _).mono ?_
        rintro e w' ⟨rfl, ⟨nd, rfl⟩⟩
        rw [RCosineOf_in (a := p * 1296) (by omega)]
        go_wp2
        repeat (go_quiet (fail); try go_wp2)
        go_ret
        exact ⟨by first | rfl | exact ret_boolT (decide_eq_true (by omega)), by repeat (first | (with_reducible first | exact HB.out | apply below_alloc | apply pw_below_drewN | apply below_drew1) | exact HB.out)⟩
end Go.Proofs.Ytckbhiphmdpjnaa.Con
