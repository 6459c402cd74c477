/- The statement on tables of sines. Conditions: as stated. -/
import Derived.Test.YtjmciajeimhigaaConH
import Derived.Test.YtjmciajeimhigaaConE
import Derived.Test.YtjmciajeimhigaaMst
namespace Go.Proofs.Ytjmciajeimhigaa.Con
open Go.RowKit Go.Proofs.YtjmciajeimhigaaW.PrintWords Go.Proofs.YtjmciajeimhigaaW.PrintLast Go.Proofs.YtjmciajeimhigaaW.PrintMore Go.Proofs.Ytjmciajeimhigaa.Mth
attribute [local go_sem] max2_int min2_int max_two min_two max_three min_three
set_option linter.unusedVariables false
set_option linter.unusedSimpArgs false
def SomeD (w : World) (lo hi : Int) (e : Ending) (w' : World) : Prop := ∃ r : Int, lo ≤ r ∧ r ≤ hi ∧ e = .returned (.int .i64 r) ∧ Drawn0 w w'
theorem a2Long_c {A B : Option Addr} {n m c d : Nat} {r : Bool} (w : World) (hr : decide (3000 < n ∨ 3000 < m) = r) : Calls Try.prog 20 #[.slice A n c, .slice B m d] w fun e w' => e = .returned (.bool r) ∧ Drawn0 w w' := by
  subst hr
  by_cases h : 3000 < n <;> by_cases h2 : 3000 < m
  all_goals
    go_enter Try.func20, Try.ntmps20
    go_wp2
    repeat (go_quiet (fail); try go_wp2)
    go_ret
    exact ⟨by first | rfl | (simp [h, h2]; done) | (simp [h, h2]; omega), by repeat (first | exact Drawn0.refl _ | apply Drawn0.step)⟩
theorem a2At_c {A : Option Addr} {n c : Nat} {xs : List Int} {k m : Int} (w : World) (hr : ReadsInt w .u8 A n xs) (hx : ∀ x ∈ xs, 0 ≤ x ∧ x ≤ 255) (k0 : 0 ≤ k) (k1 : k ≤ 1000) (m0 : 1 ≤ m) (m1 : m ≤ 1000000) : Calls Try.prog 21 #[.slice A n c, .int .i64 k, .int .i64 m] w (SomeD w 0 (m - 1)) := by
  have hl := hr.1
  have hz : (m == 0) = false := by simp; omega
  by_cases h : k < (n : Int)
  · obtain ⟨ad, rfl, hc⟩ := hr.at_ k k0 h
    have hxa : 0 ≤ rd xs k ∧ rd xs k ≤ 255 := by
      have hi : k.toNat < xs.length := by omega
      have : rd xs k = xs[k.toNat] := by unfold rd; rw [List.getD_eq_getElem?_getD, List.getElem?_eq_getElem hi]; rfl
      rw [this]; exact hx _ (List.getElem_mem hi)
    obtain ⟨x0, x1⟩ := hxa
    have q0 := Int.emod_nonneg (rd xs k) (show m ≠ 0 by omega)
    have q1 := Int.emod_lt_of_pos (rd xs k) (show 0 < m by omega)
    have hl := Aside0.mk hl
    have hx := Aside0.mk hx
    have hr := Aside0.mk hr
    go_enter Try.func21, Try.ntmps21
    go_wp2
    repeat (go_quiet (fail); try go_wp2)
    go_ret
    exact ⟨_, q0, by omega, rfl, by repeat (first | exact Drawn0.refl _ | apply Drawn0.step)⟩
  · have hl := Aside0.mk hl
    have hx := Aside0.mk hx
    have hr := Aside0.mk hr
    go_enter Try.func21, Try.ntmps21
    go_wp2
    repeat (go_quiet (fail); try go_wp2)
    go_ret
    exact ⟨0, by omega, by omega, rfl, by repeat (first | exact Drawn0.refl _ | apply Drawn0.step)⟩
set_option maxHeartbeats 4000000 in
set_option maxRecDepth 100000 in
theorem FnSineTables_c {A B : Option Addr} {n m c d : Nat} {xs ys : List Int} (w : World) (hr : ReadsInt w .u8 A n xs) (hx : ∀ x ∈ xs, 0 ≤ x ∧ x ≤ 255) (hr2 : ReadsInt w .u8 B m ys) (hx2 : ∀ x ∈ ys, 0 ≤ x ∧ x ≤ 255) : Calls Try.prog 4 #[.slice A n c, .slice B m d] w fun e w' => e = .returned (.bool true) ∧ Below w.heap.size w w' := by
  rcases dec (3000 < n ∨ 3000 < m) with ⟨h, b⟩ | ⟨h, b⟩
  · clear h
    have hr := Aside0.mk hr
    have hr2 := Aside0.mk hr2
    go_enter Try.func4, Try.ntmps4
    go_wp2_with (fail)
    refine (a2Long_c _ b.out).mono ?_
    rintro e w' ⟨rfl, ⟨nd, rfl⟩⟩
    go_wp2
    go_ret
    exact ⟨rfl, by repeat (first | (with_reducible first | exact Below.refl _ _ | apply below_alloc | apply pw_below_drewN | apply below_drew1 | (refine below_step ?_ (by assumption))) | exact Below.refl _ _)⟩
  · have hn : n ≤ 5000 := by omega
    have hm : m ≤ 5000 := by omega
    clear h
    have hr := Aside0.mk hr
    have hr2 := Aside0.mk hr2
    have hx := Aside0.mk hx
    have hx2 := Aside0.mk hx2
    go_enter Try.func4, Try.ntmps4
    go_wp2_with (fail)
    refine (a2Long_c _ b.out).mono ?_
    rintro e w' ⟨rfl, ⟨nd, rfl⟩⟩
    go_wp2_with (fail)
    refine (a2At_c _ (by first | exact hr.out | exact hr.out.below (pw_below_drewN (Below.refl _ _) _)) hx.out (by omega) (by omega) (by omega) (by omega)).mono ?_
    rintro e w' ⟨x, x0, x1, rfl, ⟨nd, rfl⟩⟩
    go_wp2_with (fail)
    refine (a2At_c _ (by first | exact hr.out | exact hr.out.below (pw_below_drewN (Below.refl _ _) _)) hx.out (by omega) (by omega) (by omega) (by omega)).mono ?_
    rintro e w' ⟨y, y0, y1, rfl, ⟨nd, rfl⟩⟩
    go_wp2_with (fail)
    generalize hp : 900 * (1 + x) = p
    generalize hM : 1 + y = M
    have p0 : 900 ≤ p := by omega
    have p1 : p ≤ 54000 := by omega
    have M0 : 1 ≤ M := by omega
    have M1 : M ≤ 20 := by omega
    have hs := Aside0.mk (show stepOk p by unfold stepOk; omega)
    clear hp hM x0 x1 y0 y1
    obtain ⟨N, hN⟩ : ∃ N : Nat, M = (N : Int) := ⟨M.toNat, by omega⟩
    subst hN
    have hT := Aside0.mk (show RSineTable p N = (sinT p N, 0) from if_pos ⟨hs.out, by omega⟩)
    have hW := Aside0.mk (show RWorstStep p N = (wstI p N, 0) from if_pos ⟨hs.out, by omega⟩)
    refine (impl_SineTable_l _ _ _).mono ?_
    rintro e W1 ⟨v0, rfl, ho, hb⟩
    rw [hT.out] at ho
    rw [hT.out]
    have hl := sinT_len p N
    have HB := Aside0.mk (show Below w.heap.size w W1 from below_step ( by repeat (first | (with_reducible first | exact Below.refl _ _ | apply below_alloc | apply pw_below_drewN | apply below_drew1 | (refine below_step ?_ (by assumption))) | exact Below.refl _ _) ) hb)
    have HO := Aside0.mk (Kd.R_lower ho (by simp : w.heap.size ≤ _))
    clear ho hb
    obtain ⟨LA, LC, e1⟩ := Kd.R_slice HO.out
    rw [hl] at e1
    subst e1
    have hl := Aside0.mk hl
    obtain ⟨wb, _⟩ := wstI_bd p N
    go_wp2_with (fail)
    refine (impl_WorstStep_c _).mono ?_
    rintro e W2 ⟨rfl, hb⟩
    rw [hW.out]
    have HO := Aside0.mk (Kd.R_below HO.out hb)
    have HB := Aside0.mk (below_step HB.out hb)
    clear hb
    go_wp2_with (fail)
    go_loopw [11, 12] (fun a b wr => ∃ k : Int, 0 ≤ k ∧ k ≤ N ∧ b = .int .i64 k ∧ a = .int .i64 (wstI p k) ∧ Aside0 (Kd.R (Kd.int .i64) 2 wr w.heap.size (fun _ => True) (.slice LA N LC) (sinT p N)) ∧ Aside0 (Below w.heap.size w wr)) (fun _ b _ => (N - intOf b).toNat)
    case atStart => exact ⟨0, by omega, by omega, rfl, rfl, ⟨by (with_reducible repeat (first | apply Kd.R_alloc | apply Kd.R_drewN | apply Kd.R_drew)); exact HO.out⟩, ⟨by repeat (first | (with_reducible first | exact HB.out | apply below_alloc | apply pw_below_drewN | apply below_drew1) | exact HB.out)⟩⟩
    case round =>
      clear HO HB
      obtain ⟨k, k0, kN, rfl, rfl, HO, HB⟩ := hrel
      obtain ⟨w0, w1⟩ := wstI_bd p k
      by_cases hlt : k < N
      · have hl := hl.out
        obtain ⟨kp0, kp1⟩ := mul_nn_bd (x := k) (y := p) (X := 20) (Y := 54000) (by omega) (by omega)
        have T1 := Aside0.mk (show RSineOf (k * p) = (S (k * p), 0) from if_pos (by unfold angOk; omega))
        have T2 := Aside0.mk (show RBetweenSine p (k * p) = (S (k * p), 0) by unfold RBetweenSine; rw [if_pos ⟨hs.out, by unfold angOk; omega⟩, betw_at (by omega)])
        obtain ⟨ad, e1, x1⟩ := Kd.at_int (Kd.R_reads' HO.out).2.2 k (by omega) (by omega)
        subst e1
        rw [sinT_rd p _ (by omega) (by omega)] at x1
        obtain ⟨s0, s1⟩ := S_bd (k * p)
        have i3 : 0 ≤ k := by omega
        by_cases hk : 1 ≤ k
        · obtain ⟨ad', e2, x2⟩ := Kd.at_int (Kd.R_reads' HO.out).2.2 (k - 1) (by omega) (by omega)
          rw [sinT_rd p _ (by omega) (by omega)] at x2
          obtain rfl : ad = ad' := by injection e2
          clear e2
          rw [show (k - 1).toNat = k.toNat - 1 by omega] at x2
          obtain ⟨t0, t1⟩ := S_bd ((k - 1) * p)
          obtain ⟨kq0, kq1⟩ := mul_nn_bd (x := k - 1) (y := p) (X := 20) (Y := 54000) (by omega) (by omega)
          have g := Aside0.mk (wstI_step (p := p) hk)
          have hl := Aside0.mk hl
          have q1 : IntKind.i64.wrap (S (k * p) - S ((k - 1) * p)) = S (k * p) - S ((k - 1) * p) := IntWalk.i64_in _ (by omega)
          have q3 : IntKind.i64.wrap (S ((k - 1) * p) - S (k * p)) = S ((k - 1) * p) - S (k * p) := IntWalk.i64_in _ (by omega)
          have q2 : IntKind.i64.wrap (k - 1) = k - 1 := IntWalk.i64_in _ (by omega)
          have q4 : IntKind.i64.wrap ((k - 1) * p) = (k - 1) * p := IntWalk.i64_in _ (by omega)
          have q5 : IntKind.i64.wrap (k * p) = k * p := IntWalk.i64_in _ (by omega)
          have i2 : 0 ≤ k - 1 := by omega
          have i4 : k - 1 < N := by omega
          go_wp2_with (fail)
          refine (impl_SineOf_c _).mono ?_
          rintro e w' ⟨rfl, ⟨nd, rfl⟩⟩
          rw [T1.out]
          go_wp2_with (fail)
          refine (impl_BetweenSine_c _).mono ?_
          rintro e w' ⟨rfl, ⟨nd, rfl⟩⟩
          rw [T2.out]
          go_wp2_with (fail)
          obtain ⟨lo, hlo⟩ : ∃ lo, (if S (k * p) < S ((k - 1) * p) then S (k * p) else S ((k - 1) * p)) = lo := ⟨_, rfl⟩
          obtain ⟨hi, hhi⟩ : ∃ hi, (if S ((k - 1) * p) < S (k * p) then S (k * p) else S ((k - 1) * p)) = hi := ⟨_, rfl⟩
          have hV : (if (if wstI p k < S (k * p) - S ((k - 1) * p) then S (k * p) - S ((k - 1) * p) else wstI p k) < S ((k - 1) * p) - S (k * p) then S ((k - 1) * p) - S (k * p) else (if wstI p k < S (k * p) - S ((k - 1) * p) then S (k * p) - S ((k - 1) * p) else wstI p k)) = wstI p (k + 1) := by
            rw [g.out]; unfold mx ab; (repeat' split) <;> omega
          go_quiet (fail)
          go_wp2_with (fail)
          refine (a2At_c _ (by first | exact hr2.out.below HB.out | exact hr2.out.below (pw_below_drewN HB.out _)) hx2.out (by omega) (by omega) (by omega) (by omega)).mono ?_
          rintro e w' ⟨r, r0, r1, rfl, ⟨nd, rfl⟩⟩
          have u := betw_in (p := p) (n := k - 1) (r := r) (by omega) r0 (by omega)
          rw [show k - 1 + 1 = k by omega] at u
          have T3 := Aside0.mk (show RBetweenSine p ((k - 1) * p + r) = (betw p ((k - 1) * p + r), 0) from if_pos ⟨hs.out, by unfold angOk; omega⟩)
          have b0 : lo ≤ betw p ((k - 1) * p + r) := by rw [← hlo]; split <;> omega
          have b1 : betw p ((k - 1) * p + r) ≤ hi := by rw [← hhi]; split <;> omega
          clear u
          have q6 : IntKind.i64.wrap ((k - 1) * p + r) = (k - 1) * p + r := IntWalk.i64_in _ (by omega)
          go_wp2_with (fail)
          refine (impl_BetweenSine_c _).mono ?_
          rintro e w' ⟨rfl, ⟨nd, rfl⟩⟩
          rw [T3.out]
          go_wp2
          go_quiet (fail)
          go_wp2
          go_roundw
          case rel => exact ⟨k + 1, by omega, by omega, by go_num, rfl, ⟨by (with_reducible repeat (first | apply Kd.R_alloc | apply Kd.R_drewN | apply Kd.R_drew)); exact HO.out⟩, ⟨by repeat (first | (with_reducible first | exact HB.out | apply below_alloc | apply pw_below_drewN | apply below_drew1) | exact HB.out)⟩⟩
          case measure => simp [intOf]; omega
        · have g := Aside0.mk (show wstI p k = wstI p (k + 1) by rw [show k = 0 by omega]; rfl)
          have hl := Aside0.mk hl
          have q5 : IntKind.i64.wrap (k * p) = k * p := IntWalk.i64_in _ (by omega)
          go_wp2_with (fail)
          refine (impl_SineOf_c _).mono ?_
          rintro e w' ⟨rfl, ⟨nd, rfl⟩⟩
          rw [T1.out]
          go_wp2_with (fail)
          refine (impl_BetweenSine_c _).mono ?_
          rintro e w' ⟨rfl, ⟨nd, rfl⟩⟩
          rw [T2.out]
          go_wp2
          go_roundw
          case rel => exact ⟨k + 1, by omega, by omega, by go_num, by rw [g.out], ⟨by (with_reducible repeat (first | apply Kd.R_alloc | apply Kd.R_drewN | apply Kd.R_drew)); exact HO.out⟩, ⟨by repeat (first | (with_reducible first | exact HB.out | apply below_alloc | apply pw_below_drewN | apply below_drew1) | exact HB.out)⟩⟩
          case measure => simp [intOf]; omega
      · have ek : k = N := by omega
        subst ek
        clear hlt
        clear w0 w1
        go_wp2_with (fail)
        refine (a2At_c _ (by first | exact hr2.out.below HB.out | exact hr2.out.below (pw_below_drewN HB.out _)) hx2.out (by omega) (by omega) (by omega) (by omega)).mono ?_
        rintro e w' ⟨u, u0, u1, rfl, ⟨nd, rfl⟩⟩
        go_wp2_with (fail)
        refine (a2At_c _ (by first | exact hr2.out.below HB.out | exact hr2.out.below (pw_below_drewN HB.out _)) hx2.out (by omega) (by omega) (by omega) (by omega)).mono ?_
        rintro e w' ⟨v, v0, v1, rfl, ⟨nd, rfl⟩⟩
        have R1 := Aside0.mk (show RWidthAt (100 * u) (3600 * v) = (near (100 * u * Co (3600 * v)) 1000000, 0) from if_pos ⟨by omega, by unfold latOk; omega⟩)
        have R2 := Aside0.mk (show RWidthAt (100 * u) (-(3600 * v)) = (near (100 * u * Co (3600 * v)) 1000000, 0) by unfold RWidthAt; rw [if_pos ⟨by omega, by unfold latOk; omega⟩, Co_neg])
        have R3 := Aside0.mk (show RWidthAt (100 * u) (3600 * v + 3600) = (near (100 * u * Co (3600 * v + 3600)) 1000000, 0) from if_pos ⟨by omega, by unfold latOk; omega⟩)
        have R4 := Aside0.mk (show RWidthAt (100 * u) 0 = (100 * u, 0) by unfold RWidthAt; rw [if_pos ⟨by omega, by unfold latOk; omega⟩, wid_0])
        have R5 := Aside0.mk (show RChordOf (3600 * v) = (2 * S (1800 * v), 0) by unfold RChordOf; rw [if_pos (by unfold angOk; omega), show 3600 * v / 2 = 1800 * v by omega])
        have R6 := Aside0.mk (show RSineOf (1800 * v) = (S (1800 * v), 0) from if_pos (by unfold angOk; omega))
        obtain ⟨g0, g1⟩ := wid_mono (n := 100 * u) (l := 3600 * v) (by omega) (by omega) (by omega)
        obtain ⟨s0, s1⟩ := S_bd (1800 * v)
        have td : Int.tdiv (3600 * v) 2 = 1800 * v := by rw [tdiv_nn (by omega)]; omega
        go_wp2_with (fail)
        refine (impl_WidthAt_c _).mono ?_
        rintro e w' ⟨rfl, ⟨nd, rfl⟩⟩
        rw [R1.out]
        go_wp2_with (fail)
        refine (impl_WidthAt_c _).mono ?_
        rintro e w' ⟨rfl, ⟨nd, rfl⟩⟩
        rw [R2.out]
        go_wp2_with (fail)
        refine (impl_WidthAt_c _).mono ?_
        rintro e w' ⟨rfl, ⟨nd, rfl⟩⟩
        rw [R3.out]
        go_wp2_with (fail)
        refine (impl_WidthAt_c _).mono ?_
        rintro e w' ⟨rfl, ⟨nd, rfl⟩⟩
        rw [R4.out]
        generalize near (100 * u * Co (3600 * v)) 1000000 = X at *
        generalize near (100 * u * Co (3600 * v + 3600)) 1000000 = Y at *
        go_wp2_with (fail)
        refine (impl_ChordOf_c _).mono ?_
        rintro e w' ⟨rfl, ⟨nd, rfl⟩⟩
        rw [R5.out]
        go_wp2_with (fail)
        trace_state
        refine (spec_SineOf_c _).mono ?_
        rintro e w' ⟨rfl, ⟨nd, rfl⟩⟩
        rw [R6.out]
        go_wp2
        repeat (go_quiet (fail); try go_wp2)
        go_ret
        exact ⟨by first | rfl | (simp; done) | (simp; omega), by repeat (first | (with_reducible first | exact HB.out | apply below_alloc | apply pw_below_drewN | apply below_drew1) | exact HB.out)⟩
end Go.Proofs.Ytjmciajeimhigaa.Con
