/- Contracts of the program's functions that read lists of numbers. Conditions: as stated. -/
import Derived.Test.YtjmciajeimhigaaConG
namespace Go.Proofs.Ytjmciajeimhigaa.Con
open Go.RowKit Go.Proofs.YtjmciajeimhigaaW.PrintWords Go.Proofs.YtjmciajeimhigaaW.PrintLast Go.Proofs.YtjmciajeimhigaaW.PrintMore Go.Proofs.Ytjmciajeimhigaa.Mth
attribute [local go_sem] max2_int min2_int max_two min_two max_three min_three
set_option linter.unusedVariables false
set_option linter.unusedSimpArgs false
theorem impl_absolute_c {n : Int} (w : World) (h0 : -1000000000000 ≤ n) (h1 : n ≤ 1000000000000) : Calls Try.prog 60 #[.int .i64 n] w fun e w' => e = .returned (.int .i64 (ab n)) ∧ Drawn0 w w' := by
  have f := Aside0.mk (ab_mx n)
  unfold mx at f
  by_cases z : n < -n
  · have f := Aside0.mk (show -n = ab n by have := f.out; rw [if_pos z] at this; exact this)
    go_enter Try.func60, Try.ntmps60
    go_wp2
    go_ret
    exact ⟨ret_int f.out, by repeat (first | exact Drawn0.refl _ | apply Drawn0.step)⟩
  · have f := Aside0.mk (show n = ab n by have := f.out; rw [if_neg z] at this; exact this)
    go_enter Try.func60, Try.ntmps60
    go_wp2
    go_ret
    exact ⟨ret_int f.out, by repeat (first | exact Drawn0.refl _ | apply Drawn0.step)⟩
theorem spec_l00Size_c {n : Int} (w : World) (h0 : -1000000000000 ≤ n) (h1 : n ≤ 1000000000000) : Calls Try.prog 74 #[.int .i64 n] w fun e w' => e = .returned (.int .i64 (ab n)) ∧ Drawn0 w w' := by
  by_cases z : n < 0
  · have f := Aside0.mk (show ab n = -n from if_pos z)
    go_enter Try.func74, Try.ntmps74
    go_wp2
    go_ret
    exact ⟨ret_int f.out.symm, by repeat (first | exact Drawn0.refl _ | apply Drawn0.step)⟩
  · have f := Aside0.mk (show ab n = n from if_neg z)
    go_enter Try.func74, Try.ntmps74
    go_wp2
    go_ret
    exact ⟨ret_int f.out.symm, by repeat (first | exact Drawn0.refl _ | apply Drawn0.step)⟩
theorem spec_l00Max_m {a b : Int} (w : World) : Calls Try.prog 79 #[.int .i64 a, .int .i64 b] w fun e w' => e = .returned (.int .i64 (mx a b)) ∧ Drawn0 w w' := spec_l00Max_c w (by unfold mx; split <;> split <;> omega)
theorem impl_WorstStep_c {p m : Int} (w : World) : Calls Try.prog 23 #[.int .i64 p, .int .i64 m] w fun e w' => e = .returned (.tuple #[.int .i64 (RWorstStep p m).1, .int .i64 (RWorstStep p m).2]) ∧ Below w.heap.size w w' := by
  by_cases h : stepOk p ∧ (1 ≤ m ∧ m ≤ 100)
  · have f := Aside0.mk (show RWorstStep p m = (wstI p m, 0) from if_pos h)
    have q := Aside0.mk (show RSineTable p m = (sinT p m.toNat, 0) from if_pos h)
    obtain ⟨n, hn⟩ : ∃ n : Nat, m.toNat = n := ⟨m.toNat, rfl⟩
    have hl := sinT_len p n
    have hn9 : n ≤ 100 := by omega
    have hn1 : 1 ≤ n := by omega
    have hm := Aside0.mk (show m = (n : Int) by omega)
    go_enter Try.func23, Try.ntmps23
    go_wp2_with (fail)
    refine (impl_SineTable_l p m _).mono ?_
    rintro e w1 ⟨v0, rfl, ho, hb⟩
    rw [q.out, hn] at ho
    rw [q.out]
    clear hn q
    have HO := Aside0.mk ho
    have HB := Aside0.mk hb
    clear ho hb
    obtain ⟨A, c, e1⟩ := Kd.R_slice HO.out
    rw [hl] at e1
    subst e1
    have hl := Aside0.mk hl
    go_wp2_with (fail)
    go_loopw [8, 9] (fun a b wr => ∃ i : Int, 1 ≤ i ∧ i ≤ n ∧ b = .int .i64 i ∧ a = .int .i64 (wstI p i) ∧ Aside0 (Kd.R (Kd.int .i64) 2 wr w.heap.size (fun _ => True) (.slice A n c) (sinT p n)) ∧ Aside0 (Below w.heap.size w wr)) (fun _ b _ => (n - intOf b).toNat)
    case atStart => exact ⟨1, by omega, by omega, rfl, rfl, ⟨by (with_reducible repeat (first | apply Kd.R_alloc | apply Kd.R_drewN | apply Kd.R_drew)); exact HO.out⟩, ⟨by repeat (first | (with_reducible first | exact HB.out | apply below_alloc | apply pw_below_drewN | apply below_drew1) | exact HB.out)⟩⟩
    case round =>
      clear HO HB
      obtain ⟨i, i0, i1, rfl, rfl, HO, HB⟩ := hrel
      obtain ⟨b0, b1⟩ := wstI_bd p i
      by_cases hlt : i < n
      · have hl := hl.out
        obtain ⟨ad, e1, x1⟩ := Kd.at_int (Kd.R_reads' HO.out).2.2 i (by omega) (by omega)
        obtain ⟨ad', e2, x2⟩ := Kd.at_int (Kd.R_reads' HO.out).2.2 (i - 1) (by omega) (by omega)
        rw [sinT_rd p _ (by omega) (by omega)] at x1 x2
        subst e1
        obtain rfl : ad = ad' := by injection e2
        clear e2
        rw [show (i - 1).toNat = i.toNat - 1 by omega] at x2
        obtain ⟨s0, s1⟩ := S_bd (i * p)
        obtain ⟨t0, t1⟩ := S_bd ((i - 1) * p)
        have g := Aside0.mk (wstI_step (p := p) i0)
        have hl := Aside0.mk hl
        have k1 : IntKind.i64.wrap (S (i * p) - S ((i - 1) * p)) = S (i * p) - S ((i - 1) * p) := IntWalk.i64_in _ (by omega)
        have k2 : IntKind.i64.wrap (i - 1) = i - 1 := IntWalk.i64_in _ (by omega)
        have i2 : 0 ≤ i - 1 := by omega
        have i3 : 0 ≤ i := by omega
        have i4 : i - 1 < n := by omega
        go_wp2
        repeat (go_quiet ((go_at_call 60; exact quiet0 (impl_absolute_c _ (by omega) (by omega)))); try go_wp2)
        all_goals
          go_roundw
          case rel => exact ⟨i + 1, by omega, by omega, by go_num, by rw [g.out]; unfold mx; (split <;> first | rfl | (exfalso; omega)), ⟨by (with_reducible repeat (first | apply Kd.R_alloc | apply Kd.R_drewN | apply Kd.R_drew)); exact HO.out⟩, ⟨by repeat (first | (with_reducible first | exact HB.out | apply below_alloc | apply pw_below_drewN | apply below_drew1) | exact HB.out)⟩⟩
          case measure => simp [intOf]; omega
      · have e : m = i := by have := hm.out; omega
        have f2 := Aside0.mk (show RWorstStep p m = (wstI p i, 0) by rw [f.out, e])
        clear e
        go_wp2
        go_ret2
        exact ⟨pair_eq f2.out, HB.out⟩
  · have f := Aside0.mk (show RWorstStep p m = (0, 2) from if_neg h)
    have q := Aside0.mk (show RSineTable p m = ([], 2) from if_neg h)
    clear h
    go_enter Try.func23, Try.ntmps23
    go_wp2_with (fail)
    refine (impl_SineTable_l p m _).mono ?_
    rintro e w1 ⟨v0, rfl, ho, hb⟩
    rw [q.out] at ho
    rw [q.out]
    clear q
    obtain ⟨A, c, e1⟩ := Kd.R_slice ho
    subst e1
    clear ho
    go_wp2_with (fail)
    go_loopw [8, 9] (fun a b wr => b = .int .i64 1 ∧ a = .int .i64 0 ∧ Aside0 (Below w.heap.size w wr)) (fun _ _ _ => 0)
    case atStart => exact ⟨rfl, rfl, ⟨by repeat (first | (with_reducible first | exact hb | apply below_alloc | apply pw_below_drewN | apply below_drew1) | exact hb)⟩⟩
    case round =>
      obtain ⟨rfl, rfl, HB⟩ := hrel
      go_wp2
      go_ret2
      exact ⟨pair_eq f.out, HB.out⟩
end Go.Proofs.Ytjmciajeimhigaa.Con
