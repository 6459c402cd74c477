/- The statements on rims and on closing errors. Conditions: as stated. -/
import Derived.Test.YtkfbbaaniglaeaaConP
namespace Go.Proofs.Ytkfbbaaniglaeaa.Con
open Go.RowKit Go.Proofs.YtkfbbaaniglaeaaW.PrintWords Go.Proofs.YtkfbbaaniglaeaaW.PrintLast Go.Proofs.YtkfbbaaniglaeaaW.PrintMore Go.Proofs.Ytkfbbaaniglaeaa.Mth
attribute [local go_sem] max2_int min2_int max_two min_two max_three min_three
set_option linter.unusedVariables false
set_option linter.unusedSimpArgs false
theorem rims_cap {n l o r : Int} (h : RSmallestCap n l o = (r, 0)) : RCapOverlap n r l = (o, 0) := by
  unfold RSmallestCap at h
  by_cases g : arOk n ∧ northOk l ∧ radOk o
  · rw [if_pos g] at h
    obtain ⟨g1, g2, g3⟩ := g
    have z := arcLen_bd g1 (a := 324000 - l) (by omega)
    by_cases k : 100000 < capV n l o ∨ n < 4 * capV n l o
    · rw [if_pos k] at h; injection h with _ h; omega
    · rw [if_neg k] at h
      injection h with h _
      unfold capV at h k
      unfold RCapOverlap discB
      rw [if_pos ⟨g1, by unfold radOk; omega, by simpa using g2⟩, if_neg (by omega)]
      unfold onC
      rw [if_pos rfl]
      exact Prod.ext (by show r - arcLen n (324000 - l) = o; omega) rfl
  · rw [if_neg g] at h; injection h with _ h; omega
theorem rims_slits {n l m s : Int} (h : RSlitsFor n l m = (s, 0)) : arOk n ∧ northOk l ∧ brOk m ∧ 0 ≤ s ∧ s ≤ 72 ∧ rimX n l ≤ s * m ∧ (s = 0 ∨ (s - 1) * m < rimX n l) := by
  unfold RSlitsFor at h
  by_cases g : arOk n ∧ northOk l ∧ brOk m
  · rw [if_pos g] at h
    obtain ⟨g1, g2, g3⟩ := g
    by_cases k : 72 < slits n l m
    · rw [if_pos k] at h; injection h with _ h; omega
    · rw [if_neg k] at h
      injection h with h _
      refine ⟨g1, g2, g3, ?_⟩
      unfold slits at h k
      have p0 : 0 ≤ pos (rimX n l) := by unfold pos; split <;> omega
      have hm : 0 < m := by omega
      have e1 := Int.mul_ediv_add_emod (-(pos (rimX n l))) m
      have e2 := Int.emod_nonneg (-(pos (rimX n l))) (show m ≠ 0 by omega)
      have e3 := Int.emod_lt_of_pos (-(pos (rimX n l))) hm
      generalize (-(pos (rimX n l))) % m = t at *
      generalize hq : (-(pos (rimX n l))) / m = q at *
      have es : s = -q := by omega
      subst es
      have e4 : (-q) * m = -(m * q) := by rw [Int.neg_mul, Int.mul_comm]
      have e5 : (-q - 1) * m = -(m * q) - m := by rw [Int.sub_mul, e4]; omega
      have s0 : 0 ≤ -q := by
        by_cases z : 0 ≤ -q
        · exact z
        · have : m * 1 ≤ m * q := Int.mul_le_mul_of_nonneg_left (by omega) (by omega)
          omega
      rw [e4, e5]
      refine ⟨s0, by omega, ?_, ?_⟩
      · unfold pos at *; split at p0 <;> omega
      · by_cases z : 0 < rimX n l
        · right; unfold pos at *; rw [if_pos z] at *; omega
        · left
          have pz : pos (rimX n l) = 0 := if_neg z
          rw [pz] at hq
          rw [← hq]; simp
  · rw [if_neg g] at h; injection h with _ h; omega
theorem f6big_c {A : Option Addr} {n c : Nat} {r : Bool} (w : World) (hr : decide (4096 < n) = r) : Calls Try.prog 44 #[.slice A n c] w fun e w' => e = .returned (.bool r) ∧ Drawn0 w w' := by
  subst hr
  by_cases h : 4096 < n
  all_goals
    go_enter Try.func44, Try.ntmps44
    go_wp2
    repeat (go_quiet (fail); try go_wp2)
    go_ret
    exact ⟨by first | rfl | (simp [h]; done) | (simp [h]; omega), by repeat (first | exact Drawn0.refl _ | apply Drawn0.step)⟩
theorem f6abs_c {a : Int} (w : World) (h : -1000000000000 ≤ a ∧ a ≤ 1000000000000) : Calls Try.prog 71 #[.int .i64 a] w fun e w' => e = .returned (.int .i64 (if a < 0 then -a else a)) ∧ Drawn0 w w' := by
  by_cases z : a < 0
  · have f := Aside0.mk (show (if a < 0 then -a else a) = -a from if_pos z)
    go_enter Try.func71, Try.ntmps71
    go_wp2
    go_ret
    exact ⟨by first | rfl | (rw [f.out]), by repeat (first | exact Drawn0.refl _ | apply Drawn0.step)⟩
  · have f := Aside0.mk (show (if a < 0 then -a else a) = a from if_neg z)
    go_enter Try.func71, Try.ntmps71
    go_wp2
    go_ret
    exact ⟨by first | rfl | (rw [f.out]), by repeat (first | exact Drawn0.refl _ | apply Drawn0.step)⟩
set_option maxHeartbeats 4000000 in
set_option maxRecDepth 100000 in
theorem FnRims_c {A : Option Addr} {n c : Nat} {xs : List Int} (w : World) (hr : ReadsInt w .u8 A n xs) (hx : ∀ x ∈ xs, 0 ≤ x ∧ x ≤ 255) : Calls Try.prog 9 #[.slice A n c] w fun e w' => e = .returned (.bool true) ∧ Below w.heap.size w w' := by
  have hr := Aside0.mk hr
  have hx := Aside0.mk hx
  have HB := Aside0.mk (Below.refl w.heap.size w)
  rcases dec (4096 < n) with ⟨h, b⟩ | ⟨h, b⟩
  · clear h
    go_enter Try.func9, Try.ntmps9
    go_wp2_with (fail)
    refine (f6big_c _ b.out).mono ?_
    rintro e w' ⟨rfl, ⟨nd, rfl⟩⟩
    go_wp2
    go_ret
    exact ⟨rfl, by repeat (first | (with_reducible first | exact Below.refl _ _ | apply below_alloc | apply pw_below_drewN | apply below_drew1 | (refine below_step ?_ (by assumption))) | exact Below.refl _ _)⟩
  · have hn : n ≤ 5000 := by omega
    clear h
    go_enter Try.func9, Try.ntmps9
    go_wp2_with (fail)
    refine (f6big_c _ b.out).mono ?_
    rintro e w' ⟨rfl, ⟨nd, rfl⟩⟩
    go_wp2_with (fail)
    refine (DrawSlitsFor_c _ (hr.out.below (by repeat (first | (with_reducible first | exact HB.out | apply below_alloc | apply pw_below_drewN | apply below_drew1) | exact HB.out))) hx.out hn).mono ?_
    rintro e W ⟨a, b, d, rfl, hb⟩
    have HB := Aside0.mk (show Below w.heap.size w W from below_step (by repeat (first | (with_reducible first | exact HB.out | apply below_alloc | apply pw_below_drewN | apply below_drew1) | exact HB.out)) hb)
    clear hb
    obtain ⟨⟨s, cs⟩, E1⟩ : ∃ v, RSlitsFor a b d = v := ⟨_, rfl⟩
    have E1 := Aside0.mk E1
    go_wp2_with (fail)
    refine (impl_SlitsFor_c _).mono ?_
    rintro e w' ⟨rfl, ⟨nd, rfl⟩⟩
    rw [E1.out]
    go_wp2_with (fail)
    refine (spec_SlitsFor_c _).mono ?_
    rintro e w' ⟨rfl, ⟨nd, rfl⟩⟩
    rw [E1.out]
    go_wp2_with (fail)
    refine (DrawSmallestCap_c _ (hr.out.below (by repeat (first | (with_reducible first | exact HB.out | apply below_alloc | apply pw_below_drewN | apply below_drew1) | exact HB.out))) hx.out hn).mono ?_
    rintro e W ⟨a2, b2, d2, rfl, hb⟩
    have HB := Aside0.mk (show Below w.heap.size w W from below_step (by repeat (first | (with_reducible first | exact HB.out | apply below_alloc | apply pw_below_drewN | apply below_drew1) | exact HB.out)) hb)
    clear hb
    obtain ⟨⟨r, cr⟩, E2⟩ : ∃ v, RSmallestCap a2 b2 d2 = v := ⟨_, rfl⟩
    have E2 := Aside0.mk E2
    go_wp2_with (fail)
    refine (impl_SmallestCap_c _).mono ?_
    rintro e w' ⟨rfl, ⟨nd, rfl⟩⟩
    rw [E2.out]
    go_wp2_with (fail)
    refine (spec_SmallestCap_c _).mono ?_
    rintro e w' ⟨rfl, ⟨nd, rfl⟩⟩
    rw [E2.out]
    go_wp2_with (fail)
    refine (DrawCapOverlap_c _ (hr.out.below (by repeat (first | (with_reducible first | exact HB.out | apply below_alloc | apply pw_below_drewN | apply below_drew1) | exact HB.out))) hx.out hn).mono ?_
    rintro e W ⟨a3, b3, d3, rfl, hb⟩
    have HB := Aside0.mk (show Below w.heap.size w W from below_step (by repeat (first | (with_reducible first | exact HB.out | apply below_alloc | apply pw_below_drewN | apply below_drew1) | exact HB.out)) hb)
    clear hb
    obtain ⟨⟨o, co⟩, E3⟩ : ∃ v, RCapOverlap a3 b3 d3 = v := ⟨_, rfl⟩
    have E3 := Aside0.mk E3
    go_wp2_with (fail)
    refine (impl_CapOverlap_c _).mono ?_
    rintro e w' ⟨rfl, ⟨nd, rfl⟩⟩
    rw [E3.out]
    go_wp2_with (fail)
    refine (spec_CapOverlap_c _).mono ?_
    rintro e w' ⟨rfl, ⟨nd, rfl⟩⟩
    rw [E3.out]
    go_wp2_with (fail)
    refine (DrawRimExcess_c _ (hr.out.below (by repeat (first | (with_reducible first | exact HB.out | apply below_alloc | apply pw_below_drewN | apply below_drew1) | exact HB.out))) hx.out hn).mono ?_
    rintro e W ⟨a4, b4, rfl, hb⟩
    have HB := Aside0.mk (show Below w.heap.size w W from below_step (by repeat (first | (with_reducible first | exact HB.out | apply below_alloc | apply pw_below_drewN | apply below_drew1) | exact HB.out)) hb)
    clear hb
    obtain ⟨⟨x, cx⟩, E4⟩ : ∃ v, RRimExcess a4 b4 = v := ⟨_, rfl⟩
    have E4 := Aside0.mk E4
    go_wp2_with (fail)
    refine (impl_RimExcess_c _).mono ?_
    rintro e w' ⟨rfl, ⟨nd, rfl⟩⟩
    rw [E4.out]
    go_wp2_with (fail)
    refine (spec_RimExcess_c _).mono ?_
    rintro e w' ⟨rfl, ⟨nd, rfl⟩⟩
    rw [E4.out]
    by_cases z1 : cr = 0
    · subst z1
      have E5 := Aside0.mk (rims_cap E2.out)
      go_wp2_with (fail)
      refine (impl_CapOverlap_c _).mono ?_
      rintro e w' ⟨rfl, ⟨nd, rfl⟩⟩
      rw [E5.out]
      by_cases z2 : cs = 0
      · subst z2
        obtain ⟨g1, g2, g3, s0, s1, f1, f2⟩ := rims_slits E1.out
        have E6 := Aside0.mk (show RRimExcess a b = (rimX a b, 0) from if_pos ⟨g1, g2⟩)
        obtain ⟨p0, p1⟩ := mul_nn_bd (x := s) (y := d) (X := 72) (Y := 100000) (by omega) (by omega)
        obtain ⟨y0, y1⟩ := rimX_bd g1 g2
        by_cases z3 : s = 0
        · clear f2
          subst z3
          rw [Int.zero_mul] at f1
          go_wp2_with (fail)
          refine (impl_RimExcess_c _).mono ?_
          rintro e w' ⟨rfl, ⟨nd, rfl⟩⟩
          rw [E6.out]
          go_wp2
          go_ret
          exact ⟨by first | rfl | (simp; done), by repeat (first | (with_reducible first | exact HB.out | apply below_alloc | apply pw_below_drewN | apply below_drew1) | exact HB.out)⟩
        · have f2 := f2.resolve_left z3
          have z4 : (s == 0) = false := by simp [z3]
          have e5 : (s - 1) * d = s * d - d := by rw [Int.sub_mul]; omega
          rw [e5] at f2
          have q2 : IntKind.i64.wrap (s - 1) = s - 1 := IntWalk.i64_in _ (by omega)
          have q3 : IntKind.i64.wrap ((s - 1) * d) = s * d - d := by rw [e5]; exact IntWalk.i64_in _ (by omega)
          go_wp2_with (fail)
          refine (impl_RimExcess_c _).mono ?_
          rintro e w' ⟨rfl, ⟨nd, rfl⟩⟩
          rw [E6.out]
          go_wp2
          go_ret
          exact ⟨by first | rfl | (simp; done), by repeat (first | (with_reducible first | exact HB.out | apply below_alloc | apply pw_below_drewN | apply below_drew1) | exact HB.out)⟩
      · have z3 : (cs == 0) = false := by simp [z2]
        go_wp2
        go_ret
        exact ⟨by first | rfl | (simp; done), by repeat (first | (with_reducible first | exact HB.out | apply below_alloc | apply pw_below_drewN | apply below_drew1) | exact HB.out)⟩
    · have z5 : (cr == 0) = false := by simp [z1]
      by_cases z2 : cs = 0
      · subst z2
        obtain ⟨g1, g2, g3, s0, s1, f1, f2⟩ := rims_slits E1.out
        have E6 := Aside0.mk (show RRimExcess a b = (rimX a b, 0) from if_pos ⟨g1, g2⟩)
        obtain ⟨p0, p1⟩ := mul_nn_bd (x := s) (y := d) (X := 72) (Y := 100000) (by omega) (by omega)
        obtain ⟨y0, y1⟩ := rimX_bd g1 g2
        by_cases z3 : s = 0
        · clear f2
          subst z3
          rw [Int.zero_mul] at f1
          go_wp2_with (fail)
          refine (impl_RimExcess_c _).mono ?_
          rintro e w' ⟨rfl, ⟨nd, rfl⟩⟩
          rw [E6.out]
          go_wp2
          go_ret
          exact ⟨by first | rfl | (simp; done), by repeat (first | (with_reducible first | exact HB.out | apply below_alloc | apply pw_below_drewN | apply below_drew1) | exact HB.out)⟩
        · have f2 := f2.resolve_left z3
          have z4 : (s == 0) = false := by simp [z3]
          have e5 : (s - 1) * d = s * d - d := by rw [Int.sub_mul]; omega
          rw [e5] at f2
          have q2 : IntKind.i64.wrap (s - 1) = s - 1 := IntWalk.i64_in _ (by omega)
          have q3 : IntKind.i64.wrap ((s - 1) * d) = s * d - d := by rw [e5]; exact IntWalk.i64_in _ (by omega)
          go_wp2_with (fail)
          refine (impl_RimExcess_c _).mono ?_
          rintro e w' ⟨rfl, ⟨nd, rfl⟩⟩
          rw [E6.out]
          go_wp2
          go_ret
          exact ⟨by first | rfl | (simp; done), by repeat (first | (with_reducible first | exact HB.out | apply below_alloc | apply pw_below_drewN | apply below_drew1) | exact HB.out)⟩
      · have z3 : (cs == 0) = false := by simp [z2]
        go_wp2
        go_ret
        exact ⟨by first | rfl | (simp; done), by repeat (first | (with_reducible first | exact HB.out | apply below_alloc | apply pw_below_drewN | apply below_drew1) | exact HB.out)⟩
end Go.Proofs.Ytkfbbaaniglaeaa.Con
