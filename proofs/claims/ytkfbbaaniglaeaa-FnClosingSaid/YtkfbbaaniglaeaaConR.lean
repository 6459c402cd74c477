/- The statement on closing errors. Conditions: as stated. -/
import Derived.Test.YtkfbbaaniglaeaaConQ
import Derived.Test.YtkfbbaaniglaeaaConI
import Derived.Test.YtkfbbaaniglaeaaMst
namespace Go.Proofs.Ytkfbbaaniglaeaa.Con
open Go.RowKit Go.Proofs.YtkfbbaaniglaeaaW.PrintWords Go.Proofs.YtkfbbaaniglaeaaW.PrintLast Go.Proofs.YtkfbbaaniglaeaaW.PrintMore Go.Proofs.Ytkfbbaaniglaeaa.Mth
attribute [local go_sem] max2_int min2_int max_two min_two max_three min_three
set_option linter.unusedVariables false
set_option linter.unusedSimpArgs false
theorem Co_lat {l : Int} (h : latOk l) : 0 ≤ Co l := by
  by_cases z : 0 ≤ l
  · exact Co_nn' z (by omega)
  · rw [show l = -(-l) by omega, Co_neg]; exact Co_nn' (by omega) (by omega)
theorem wcB_lat {g n s : Int} (h : lstepOk s) (k : Nat) (hk : k ≤ lats s) : 0 ≤ wcB g n s k ∧ wcB g n s k ≤ 324000 := by
  induction k with
  | zero => simp [wcB]
  | succ k ih =>
    have i := ih (by omega)
    unfold wcB
    split
    · have h0 : (k : Int) ≤ 324000 / s := by
        have h0 : 0 ≤ 324000 / s := Int.ediv_nonneg (by omega) (by omega)
        unfold lats at hk; omega
      have h1 := (Int.le_ediv_iff_mul_le (show 0 < s by omega)).1 h0
      exact ⟨Int.mul_nonneg (by omega) (by omega), h1⟩
    · exact i
theorem wcB_ge (g n s : Int) (k : Nat) : ab (clo g n 0) ≤ ab (clo g n (wcB g n s k)) := by
  induction k with
  | zero => exact Int.le_refl _
  | succ k ih =>
    unfold wcB
    split <;> omega
theorem worst_in {g n s a m : Int} (h : RWorstClosing g n s = (a, m, 0)) : RClosingAt g n a = (m, 0) ∧ RClosingAt g n 0 = (clo g n 0, 0) ∧ (-49000000 ≤ clo g n 0 ∧ clo g n 0 ≤ 49000000) ∧ (-49000000 ≤ m ∧ m ≤ 49000000) ∧ ab (clo g n 0) ≤ ab m := by
  unfold RWorstClosing at h
  by_cases g1 : gOk g
  · rw [if_pos g1] at h
    by_cases g2 : arOk n ∧ lstepOk s
    · rw [if_pos g2] at h
      injection h with h1 h; injection h with h2 _
      subst h1
      subst h2
      have l := wcB_lat (g := g) (n := n) g2.2 (lats s) (Nat.le_refl _)
      refine ⟨?_, ?_, clo_bd (by omega) g2.1 _, clo_bd (by omega) g2.1 _, wcB_ge g n s _⟩
      · unfold RClosingAt; rw [if_pos g1, if_pos ⟨g2.1, by unfold latOk; omega⟩]
      · unfold RClosingAt; rw [if_pos g1, if_pos ⟨g2.1, by unfold latOk; omega⟩]
    · rw [if_neg g2] at h; injection h with _ h; injection h with _ h; omega
  · rw [if_neg g1] at h; injection h with _ h; injection h with _ h; omega
theorem fewF_in {n p k : Int} (d : Nat) : ∀ g, fewF n p d g = (k, 0) → fewP n p k := by
  induction d with
  | zero => intro g h; unfold fewF at h; injection h with _ h; omega
  | succ d ih =>
    intro g h
    by_cases q : fewP n p g
    · rw [fewF_yes d q] at h; injection h with h _; subst h; exact q
    · rw [fewF_no d q] at h; exact ih _ h
theorem few_in {n p k : Int} (h : RFewestGores n p = (k, 0)) : RGoreWidth k n 0 = (gw k n 0, 0) ∧ gw k n 0 ≤ p := by
  unfold RFewestGores at h
  by_cases g : arOk n ∧ papOk p
  · rw [if_pos g] at h
    have q := fewF_in _ _ h
    unfold RGoreWidth
    rw [if_pos q.1, if_pos ⟨g.1, by unfold latOk; omega⟩]
    exact ⟨rfl, q.2⟩
  · rw [if_neg g] at h; injection h with _ h; omega
theorem sheets_in {g n p k : Int} (h : RSheetsForGores g n p = (k, 0)) : 1 ≤ k ∧ k ≤ g := by
  unfold RSheetsForGores at h
  by_cases g1 : gOk g
  · rw [if_pos g1] at h
    by_cases g2 : arOk n ∧ papOk p
    · rw [if_pos g2] at h
      unfold sheets at h
      by_cases g3 : p < wid g n
      · rw [if_pos g3] at h; injection h with _ h; omega
      · rw [if_neg g3] at h
        injection h with h _
        subst h
        have w1 : 1 ≤ wid g n := by unfold wid; split <;> omega
        have q1 : 1 ≤ p / wid g n := (Int.le_ediv_iff_mul_le (by omega)).2 (by omega)
        generalize p / wid g n = d at *
        have e1 := Int.mul_ediv_add_emod (-g) d
        have e2 := Int.emod_nonneg (-g) (show d ≠ 0 by omega)
        have e3 := Int.emod_lt_of_pos (-g) (show 0 < d by omega)
        have hg : 6 ≤ g := g1.1.1
        generalize (-g) % d = t at *
        generalize (-g) / d = q at *
        have n1 : q < 0 := by
          by_cases z : 0 ≤ q
          · have := Int.mul_nonneg (show 0 ≤ d by omega) z; omega
          · omega
        refine ⟨by omega, ?_⟩
        have m1 : d * q ≤ 1 * q := Int.mul_le_mul_of_nonpos_right q1 (by omega)
        by_cases z : d = 1
        · subst z; omega
        · by_cases z2 : -q ≤ g
          · exact z2
          · have m2 : d * q ≤ 2 * q := Int.mul_le_mul_of_nonpos_right (by omega) (by omega)
            have m3 : d * (q + 1) = d * q + d := by rw [Int.mul_add, Int.mul_one]
            have m4 : d * (q + 1) ≤ 2 * (q + 1) := Int.mul_le_mul_of_nonpos_right (by omega) (by omega)
            omega
    · rw [if_neg g2] at h; injection h with _ h; omega
  · rw [if_neg g1] at h; injection h with _ h; omega
theorem closing_in {g n l e : Int} (h : RClosingAt g n l = (e, 0)) : RGoreWidth g n l = (gw g n l, 0) ∧ 0 ≤ gw g n l ∧ (-49000000 ≤ e ∧ e ≤ 49000000) ∧ 2 * ab e ≤ g + 2 ∧ g ≤ 48 ∧ 6 ≤ g := by
  unfold RClosingAt at h
  by_cases g1 : gOk g
  · rw [if_pos g1] at h
    by_cases g2 : arOk n ∧ latOk l
    · rw [if_pos g2] at h
      injection h with h _
      have c := clo_bd (g := g) (by omega) g2.1 l
      rw [h] at c
      have X0 : 0 ≤ n * Co l := Int.mul_nonneg (by omega) (Co_lat g2.2)
      refine ⟨by unfold RGoreWidth; rw [if_pos g1, if_pos g2], near_nn (by omega) X0, c, ?_, by omega, by omega⟩
      unfold clo gw par near at h
      generalize n * Co l = X at *
      have hg : 6 ≤ g := g1.1.1
      have a1 := Int.mul_ediv_add_emod (2 * X + 1000000 * g) (2 * (1000000 * g))
      have a2 := Int.emod_nonneg (2 * X + 1000000 * g) (show 2 * (1000000 * g) ≠ 0 by omega)
      have a3 := Int.emod_lt_of_pos (2 * X + 1000000 * g) (show 0 < 2 * (1000000 * g) by omega)
      generalize (2 * X + 1000000 * g) % (2 * (1000000 * g)) = t at *
      generalize (2 * X + 1000000 * g) / (2 * (1000000 * g)) = q at *
      have e1 : 2 * (1000000 * g) * q = 2000000 * (g * q) := by rw [← Int.mul_assoc, ← Int.mul_assoc]; rfl
      rw [e1] at a1
      unfold ab
      split <;> omega
    · rw [if_neg g2] at h; injection h with _ h; omega
  · rw [if_neg g1] at h; injection h with _ h; omega
theorem ab_bd2 {e : Int} (h : -49000000 ≤ e ∧ e ≤ 49000000) : 0 ≤ ab e ∧ ab e ≤ 49000000 := by unfold ab; split <;> omega
theorem f6ab_c {a : Int} (w : World) (h : -1000000000000 ≤ a ∧ a ≤ 1000000000000) : Calls Try.prog 71 #[.int .i64 a] w fun e w' => e = .returned (.int .i64 (ab a)) ∧ Drawn0 w w' := f6abs_c w h
set_option maxHeartbeats 16000000 in
set_option maxRecDepth 100000 in
theorem FnClosing_c {A : Option Addr} {n c : Nat} {xs : List Int} (w : World) (hr : ReadsInt w .u8 A n xs) (hx : ∀ x ∈ xs, 0 ≤ x ∧ x ≤ 255) : Calls Try.prog 10 #[.slice A n c] w fun e w' => e = .returned (.bool true) ∧ Below w.heap.size w w' := by
  have hr := Aside0.mk hr
  have hx := Aside0.mk hx
  have HB := Aside0.mk (Below.refl w.heap.size w)
  rcases dec (4096 < n) with ⟨h, b⟩ | ⟨h, b⟩
  · clear h
    go_enter Try.func10, Try.ntmps10
    go_wp2_with (fail)
    refine (f6big_c _ b.out).mono ?_
    rintro e w' ⟨rfl, ⟨nd, rfl⟩⟩
    go_wp2
    go_ret
    exact ⟨rfl, by repeat (first | (with_reducible first | exact Below.refl _ _ | apply below_alloc | apply pw_below_drewN | apply below_drew1 | (refine below_step ?_ (by assumption))) | exact Below.refl _ _)⟩
  · have hn : n ≤ 5000 := by omega
    clear h
    go_enter Try.func10, Try.ntmps10
    go_wp2_with (fail)
    refine (f6big_c _ b.out).mono ?_
    rintro e w' ⟨rfl, ⟨nd, rfl⟩⟩
    go_wp2_with (fail)
    refine (DrawClosingAt_c _ (hr.out.below (by repeat (first | (with_reducible first | exact HB.out | apply below_alloc | apply pw_below_drewN | apply below_drew1) | exact HB.out))) hx.out hn).mono ?_
    rintro e W ⟨g, n1, l, rfl, hb⟩
    have HB := Aside0.mk (show Below w.heap.size w W from below_step (by repeat (first | (with_reducible first | exact HB.out | apply below_alloc | apply pw_below_drewN | apply below_drew1) | exact HB.out)) hb)
    clear hb
    obtain ⟨⟨e1, c1⟩, E1⟩ : ∃ v, RClosingAt g n1 l = v := ⟨_, rfl⟩
    have E1 := Aside0.mk E1
    go_wp2_with (fail)
    refine (impl_ClosingAt_c _).mono ?_
    rintro e w' ⟨rfl, ⟨nd, rfl⟩⟩
    rw [E1.out]
    go_wp2_with (fail)
    refine (spec_ClosingAt_c _).mono ?_
    rintro e w' ⟨rfl, ⟨nd, rfl⟩⟩
    rw [E1.out]
    go_wp2_with (fail)
    refine (DrawWorstClosing_c _ (hr.out.below (by repeat (first | (with_reducible first | exact HB.out | apply below_alloc | apply pw_below_drewN | apply below_drew1) | exact HB.out))) hx.out hn).mono ?_
    rintro e W ⟨a, b1, st, rfl, hb⟩
    have HB := Aside0.mk (show Below w.heap.size w W from below_step (by repeat (first | (with_reducible first | exact HB.out | apply below_alloc | apply pw_below_drewN | apply below_drew1) | exact HB.out)) hb)
    clear hb
    obtain ⟨⟨at_, wo, c2⟩, E2⟩ : ∃ v, RWorstClosing a b1 st = v := ⟨_, rfl⟩
    have E2 := Aside0.mk E2
    go_wp2_with (fail)
    refine (impl_WorstClosing_c _).mono ?_
    rintro e w' ⟨rfl, ⟨nd, rfl⟩⟩
    rw [E2.out]
    go_wp2_with (fail)
    refine (spec_WorstClosing_c _).mono ?_
    rintro e w' ⟨rfl, ⟨nd, rfl⟩⟩
    rw [E2.out]
    go_wp2_with (fail)
    refine (DrawFewestGores_c _ (hr.out.below (by repeat (first | (with_reducible first | exact HB.out | apply below_alloc | apply pw_below_drewN | apply below_drew1) | exact HB.out))) hx.out hn).mono ?_
    rintro e W ⟨c0, pa, rfl, hb⟩
    have HB := Aside0.mk (show Below w.heap.size w W from below_step (by repeat (first | (with_reducible first | exact HB.out | apply below_alloc | apply pw_below_drewN | apply below_drew1) | exact HB.out)) hb)
    clear hb
    obtain ⟨⟨k, c3⟩, E3⟩ : ∃ v, RFewestGores c0 pa = v := ⟨_, rfl⟩
    have E3 := Aside0.mk E3
    go_wp2_with (fail)
    refine (impl_FewestGores_c _).mono ?_
    rintro e w' ⟨rfl, ⟨nd, rfl⟩⟩
    rw [E3.out]
    go_wp2_with (fail)
    refine (spec_FewestGores_c _).mono ?_
    rintro e w' ⟨rfl, ⟨nd, rfl⟩⟩
    rw [E3.out]
    go_wp2_with (fail)
    refine (DrawSheetsForGores_c _ (hr.out.below (by repeat (first | (with_reducible first | exact HB.out | apply below_alloc | apply pw_below_drewN | apply below_drew1) | exact HB.out))) hx.out hn).mono ?_
    rintro e W ⟨d, ee, sh, rfl, hb⟩
    have HB := Aside0.mk (show Below w.heap.size w W from below_step (by repeat (first | (with_reducible first | exact HB.out | apply below_alloc | apply pw_below_drewN | apply below_drew1) | exact HB.out)) hb)
    clear hb
    obtain ⟨⟨m, c4⟩, E4⟩ : ∃ v, RSheetsForGores d ee sh = v := ⟨_, rfl⟩
    have E4 := Aside0.mk E4
    go_wp2_with (fail)
    refine (impl_SheetsForGores_c _).mono ?_
    rintro e w' ⟨rfl, ⟨nd, rfl⟩⟩
    rw [E4.out]
    go_wp2_with (fail)
    refine (spec_SheetsForGores_c _).mono ?_
    rintro e w' ⟨rfl, ⟨nd, rfl⟩⟩
    rw [E4.out]
    obtain ⟨⟨wd, c5⟩, E5⟩ : ∃ v, RGoreWidth g n1 l = v := ⟨_, rfl⟩
    have E5 := Aside0.mk E5
    go_wp2_with (fail)
    refine (impl_GoreWidth_c _).mono ?_
    rintro e w' ⟨rfl, ⟨nd, rfl⟩⟩
    rw [E5.out]
    go_wp2_with (fail)
    refine (spec_GoreWidth_c _).mono ?_
    rintro e w' ⟨rfl, ⟨nd, rfl⟩⟩
    rw [E5.out]
    by_cases z2 : c2 = 0
    · subst z2
      obtain ⟨W1, W2, w3, w4, w5⟩ := worst_in E2.out
      have W1 := Aside0.mk W1
      have W2 := Aside0.mk W2
      go_wp2_with (fail)
      refine (impl_ClosingAt_c _).mono ?_
      rintro e w' ⟨rfl, ⟨nd, rfl⟩⟩
      rw [W1.out]
      go_wp2_with (fail)
      refine (impl_ClosingAt_c _).mono ?_
      rintro e w' ⟨rfl, ⟨nd, rfl⟩⟩
      rw [W2.out]
      go_wp2_with (fail)
      refine (f6ab_c (a := clo a b1 0) _ (by omega)).mono ?_
      rintro e w' ⟨rfl, ⟨nd, rfl⟩⟩
      go_wp2_with (fail)
      refine (f6ab_c (a := wo) _ (by omega)).mono ?_
      rintro e w' ⟨rfl, ⟨nd, rfl⟩⟩
      by_cases z3 : c3 = 0
      · subst z3
        obtain ⟨G1, g2⟩ := few_in E3.out
        have G1 := Aside0.mk G1
        go_wp2_with (fail)
        refine (impl_GoreWidth_c _).mono ?_
        rintro e w' ⟨rfl, ⟨nd, rfl⟩⟩
        rw [G1.out]
        by_cases z4 : c4 = 0
        · subst z4
          obtain ⟨s0, s1⟩ := sheets_in E4.out
          by_cases y1 : c1 = 0
          · subst y1
            obtain ⟨q0, q1, q2, q3, q4, q5⟩ := closing_in E1.out
            have q0 := (Prod.mk.inj (q0.symm.trans E5.out)).1
            rw [q0] at q1
            clear q0
            obtain ⟨q6, q7⟩ := ab_bd2 q2
            go_wp2_with (fail)
            refine (f6ab_c (a := e1) _ (by omega)).mono ?_
            rintro e w' ⟨rfl, ⟨nd, rfl⟩⟩
            go_wp2
            go_ret
            exact ⟨by first | rfl | (simp; done), by repeat (first | (with_reducible first | exact HB.out | apply below_alloc | apply pw_below_drewN | apply below_drew1) | exact HB.out)⟩
          · have y2 : (c1 == 0) = false := by simp [y1]
            go_wp2
            go_ret
            exact ⟨by first | rfl | (simp; done), by repeat (first | (with_reducible first | exact HB.out | apply below_alloc | apply pw_below_drewN | apply below_drew1) | exact HB.out)⟩
        · have z4' : (c4 == 0) = false := by simp [z4]
          by_cases y1 : c1 = 0
          · subst y1
            obtain ⟨q0, q1, q2, q3, q4, q5⟩ := closing_in E1.out
            have q0 := (Prod.mk.inj (q0.symm.trans E5.out)).1
            rw [q0] at q1
            clear q0
            obtain ⟨q6, q7⟩ := ab_bd2 q2
            go_wp2_with (fail)
            refine (f6ab_c (a := e1) _ (by omega)).mono ?_
            rintro e w' ⟨rfl, ⟨nd, rfl⟩⟩
            go_wp2
            go_ret
            exact ⟨by first | rfl | (simp; done), by repeat (first | (with_reducible first | exact HB.out | apply below_alloc | apply pw_below_drewN | apply below_drew1) | exact HB.out)⟩
          · have y2 : (c1 == 0) = false := by simp [y1]
            go_wp2
            go_ret
            exact ⟨by first | rfl | (simp; done), by repeat (first | (with_reducible first | exact HB.out | apply below_alloc | apply pw_below_drewN | apply below_drew1) | exact HB.out)⟩
      · have z3' : (c3 == 0) = false := by simp [z3]
        by_cases z4 : c4 = 0
        · subst z4
          obtain ⟨s0, s1⟩ := sheets_in E4.out
          by_cases y1 : c1 = 0
          · subst y1
            obtain ⟨q0, q1, q2, q3, q4, q5⟩ := closing_in E1.out
            have q0 := (Prod.mk.inj (q0.symm.trans E5.out)).1
            rw [q0] at q1
            clear q0
            obtain ⟨q6, q7⟩ := ab_bd2 q2
            go_wp2_with (fail)
            refine (f6ab_c (a := e1) _ (by omega)).mono ?_
            rintro e w' ⟨rfl, ⟨nd, rfl⟩⟩
            go_wp2
            go_ret
            exact ⟨by first | rfl | (simp; done), by repeat (first | (with_reducible first | exact HB.out | apply below_alloc | apply pw_below_drewN | apply below_drew1) | exact HB.out)⟩
          · have y2 : (c1 == 0) = false := by simp [y1]
            go_wp2
            go_ret
            exact ⟨by first | rfl | (simp; done), by repeat (first | (with_reducible first | exact HB.out | apply below_alloc | apply pw_below_drewN | apply below_drew1) | exact HB.out)⟩
        · have z4' : (c4 == 0) = false := by simp [z4]
          by_cases y1 : c1 = 0
          · subst y1
            obtain ⟨q0, q1, q2, q3, q4, q5⟩ := closing_in E1.out
            have q0 := (Prod.mk.inj (q0.symm.trans E5.out)).1
            rw [q0] at q1
            clear q0
            obtain ⟨q6, q7⟩ := ab_bd2 q2
            go_wp2_with (fail)
            refine (f6ab_c (a := e1) _ (by omega)).mono ?_
            rintro e w' ⟨rfl, ⟨nd, rfl⟩⟩
            go_wp2
            go_ret
            exact ⟨by first | rfl | (simp; done), by repeat (first | (with_reducible first | exact HB.out | apply below_alloc | apply pw_below_drewN | apply below_drew1) | exact HB.out)⟩
          · have y2 : (c1 == 0) = false := by simp [y1]
            go_wp2
            go_ret
            exact ⟨by first | rfl | (simp; done), by repeat (first | (with_reducible first | exact HB.out | apply below_alloc | apply pw_below_drewN | apply below_drew1) | exact HB.out)⟩
    · have z2' : (c2 == 0) = false := by simp [z2]
      by_cases z3 : c3 = 0
      · subst z3
        obtain ⟨G1, g2⟩ := few_in E3.out
        have G1 := Aside0.mk G1
        go_wp2_with (fail)
        refine (impl_GoreWidth_c _).mono ?_
        rintro e w' ⟨rfl, ⟨nd, rfl⟩⟩
        rw [G1.out]
        by_cases z4 : c4 = 0
        · subst z4
          obtain ⟨s0, s1⟩ := sheets_in E4.out
          by_cases y1 : c1 = 0
          · subst y1
            obtain ⟨q0, q1, q2, q3, q4, q5⟩ := closing_in E1.out
            have q0 := (Prod.mk.inj (q0.symm.trans E5.out)).1
            rw [q0] at q1
            clear q0
            obtain ⟨q6, q7⟩ := ab_bd2 q2
            go_wp2_with (fail)
            refine (f6ab_c (a := e1) _ (by omega)).mono ?_
            rintro e w' ⟨rfl, ⟨nd, rfl⟩⟩
            go_wp2
            go_ret
            exact ⟨by first | rfl | (simp; done), by repeat (first | (with_reducible first | exact HB.out | apply below_alloc | apply pw_below_drewN | apply below_drew1) | exact HB.out)⟩
          · have y2 : (c1 == 0) = false := by simp [y1]
            go_wp2
            go_ret
            exact ⟨by first | rfl | (simp; done), by repeat (first | (with_reducible first | exact HB.out | apply below_alloc | apply pw_below_drewN | apply below_drew1) | exact HB.out)⟩
        · have z4' : (c4 == 0) = false := by simp [z4]
          by_cases y1 : c1 = 0
          · subst y1
            obtain ⟨q0, q1, q2, q3, q4, q5⟩ := closing_in E1.out
            have q0 := (Prod.mk.inj (q0.symm.trans E5.out)).1
            rw [q0] at q1
            clear q0
            obtain ⟨q6, q7⟩ := ab_bd2 q2
            go_wp2_with (fail)
            refine (f6ab_c (a := e1) _ (by omega)).mono ?_
            rintro e w' ⟨rfl, ⟨nd, rfl⟩⟩
            go_wp2
            go_ret
            exact ⟨by first | rfl | (simp; done), by repeat (first | (with_reducible first | exact HB.out | apply below_alloc | apply pw_below_drewN | apply below_drew1) | exact HB.out)⟩
          · have y2 : (c1 == 0) = false := by simp [y1]
            go_wp2
            go_ret
            exact ⟨by first | rfl | (simp; done), by repeat (first | (with_reducible first | exact HB.out | apply below_alloc | apply pw_below_drewN | apply below_drew1) | exact HB.out)⟩
      · have z3' : (c3 == 0) = false := by simp [z3]
        by_cases z4 : c4 = 0
        · subst z4
          obtain ⟨s0, s1⟩ := sheets_in E4.out
          by_cases y1 : c1 = 0
          · subst y1
            obtain ⟨q0, q1, q2, q3, q4, q5⟩ := closing_in E1.out
            have q0 := (Prod.mk.inj (q0.symm.trans E5.out)).1
            rw [q0] at q1
            clear q0
            obtain ⟨q6, q7⟩ := ab_bd2 q2
            go_wp2_with (fail)
            refine (f6ab_c (a := e1) _ (by omega)).mono ?_
            rintro e w' ⟨rfl, ⟨nd, rfl⟩⟩
            go_wp2
            go_ret
            exact ⟨by first | rfl | (simp; done), by repeat (first | (with_reducible first | exact HB.out | apply below_alloc | apply pw_below_drewN | apply below_drew1) | exact HB.out)⟩
          · have y2 : (c1 == 0) = false := by simp [y1]
            go_wp2
            go_ret
            exact ⟨by first | rfl | (simp; done), by repeat (first | (with_reducible first | exact HB.out | apply below_alloc | apply pw_below_drewN | apply below_drew1) | exact HB.out)⟩
        · have z4' : (c4 == 0) = false := by simp [z4]
          by_cases y1 : c1 = 0
          · subst y1
            obtain ⟨q0, q1, q2, q3, q4, q5⟩ := closing_in E1.out
            have q0 := (Prod.mk.inj (q0.symm.trans E5.out)).1
            rw [q0] at q1
            clear q0
            obtain ⟨q6, q7⟩ := ab_bd2 q2
            go_wp2_with (fail)
            refine (f6ab_c (a := e1) _ (by omega)).mono ?_
            rintro e w' ⟨rfl, ⟨nd, rfl⟩⟩
            go_wp2
            go_ret
            exact ⟨by first | rfl | (simp; done), by repeat (first | (with_reducible first | exact HB.out | apply below_alloc | apply pw_below_drewN | apply below_drew1) | exact HB.out)⟩
          · have y2 : (c1 == 0) = false := by simp [y1]
            go_wp2
            go_ret
            exact ⟨by first | rfl | (simp; done), by repeat (first | (with_reducible first | exact HB.out | apply below_alloc | apply pw_below_drewN | apply below_drew1) | exact HB.out)⟩
end Go.Proofs.Ytkfbbaaniglaeaa.Con
