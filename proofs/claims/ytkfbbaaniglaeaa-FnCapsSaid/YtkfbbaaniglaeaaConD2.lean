/- The statement on discs. Conditions: as stated. -/
import Derived.Test.YtkfbbaaniglaeaaConZ
namespace Go.Proofs.Ytkfbbaaniglaeaa.Con
open Go.RowKit Go.Proofs.YtkfbbaaniglaeaaW.PrintWords Go.Proofs.YtkfbbaaniglaeaaW.PrintLast Go.Proofs.YtkfbbaaniglaeaaW.PrintMore Go.Proofs.Ytkfbbaaniglaeaa.Mth
attribute [local go_sem] max2_int min2_int max_two min_two max_three min_three
set_option linter.unusedVariables false
set_option linter.unusedSimpArgs false
set_option maxHeartbeats 16000000 in
set_option maxRecDepth 100000 in
theorem FnCaps_c {A : Option Addr} {n c : Nat} {xs : List Int} (w : World) (hr : ReadsInt w .u8 A n xs) (hx : ∀ x ∈ xs, 0 ≤ x ∧ x ≤ 255) (hc : n ≤ c) : Calls Try.prog 11 #[.slice A n c] w fun e w' => e = .returned (.bool true) ∧ Below w.heap.size w w' := by
  have hr := Aside0.mk hr
  have hx := Aside0.mk hx
  have HB := Aside0.mk (Below.refl w.heap.size w)
  rcases dec (4096 < n) with ⟨h, b⟩ | ⟨h, b⟩
  · clear h
    go_enter Try.func11, Try.ntmps11
    go_wp2_with (fail)
    refine (f6big_c _ b.out).mono ?_
    rintro e w' ⟨rfl, ⟨nd, rfl⟩⟩
    go_wp2
    go_ret
    exact ⟨rfl, by repeat (first | (with_reducible first | exact Below.refl _ _ | apply below_alloc | apply pw_below_drewN | apply below_drew1 | (refine below_step ?_ (by assumption))) | exact Below.refl _ _)⟩
  · have hn : n ≤ 5000 := by omega
    clear h
    go_enter Try.func11, Try.ntmps11
    go_wp2_with (fail)
    refine (f6big_c _ b.out).mono ?_
    rintro e w' ⟨rfl, ⟨nd, rfl⟩⟩
    go_wp2_with (fail)
    refine (DrawCapEdge_c _ (hr.out.below (by repeat (first | (with_reducible first | exact HB.out | apply below_alloc | apply pw_below_drewN | apply below_drew1) | exact HB.out))) hx.out hn).mono ?_
    rintro e W ⟨n1, r1, rfl, hb⟩
    have HB := Aside0.mk (show Below w.heap.size w W from below_step (by repeat (first | (with_reducible first | exact HB.out | apply below_alloc | apply pw_below_drewN | apply below_drew1) | exact HB.out)) hb)
    clear hb
    obtain ⟨⟨e1, c1⟩, E1⟩ : ∃ v, RCapEdgeB n1 r1 = v := ⟨_, rfl⟩
    have E1 := Aside0.mk E1
    go_wp2_with (fail)
    refine (impl_CapEdge_c _).mono ?_
    rintro e w' ⟨rfl, ⟨nd, rfl⟩⟩
    rw [E1.out]
    go_wp2_with (fail)
    refine (spec_CapEdge_c _).mono ?_
    rintro e w' ⟨rfl, ⟨nd, rfl⟩⟩
    rw [E1.out]
    go_wp2_with (fail)
    refine (DrawCapRadius_c _ (hr.out.below (by repeat (first | (with_reducible first | exact HB.out | apply below_alloc | apply pw_below_drewN | apply below_drew1) | exact HB.out))) hx.out hn).mono ?_
    rintro e W ⟨n2, r2, rfl, hb⟩
    have HB := Aside0.mk (show Below w.heap.size w W from below_step (by repeat (first | (with_reducible first | exact HB.out | apply below_alloc | apply pw_below_drewN | apply below_drew1) | exact HB.out)) hb)
    clear hb
    obtain ⟨⟨e2, c2⟩, E2⟩ : ∃ v, RCapRadius n2 r2 = v := ⟨_, rfl⟩
    have E2 := Aside0.mk E2
    go_wp2_with (fail)
    refine (impl_CapRadius_c _).mono ?_
    rintro e w' ⟨rfl, ⟨nd, rfl⟩⟩
    rw [E2.out]
    go_wp2_with (fail)
    refine (spec_CapRadius_c _).mono ?_
    rintro e w' ⟨rfl, ⟨nd, rfl⟩⟩
    rw [E2.out]
    go_wp2_with (fail)
    refine (DrawRingsOf_c _ (hr.out.below (by repeat (first | (with_reducible first | exact HB.out | apply below_alloc | apply pw_below_drewN | apply below_drew1) | exact HB.out))) hx.out hn).mono ?_
    rintro e W ⟨b3, s3, rfl, hb⟩
    have HB := Aside0.mk (show Below w.heap.size w W from below_step (by repeat (first | (with_reducible first | exact HB.out | apply below_alloc | apply pw_below_drewN | apply below_drew1) | exact HB.out)) hb)
    clear hb
    obtain ⟨⟨L3, c3⟩, E3⟩ : ∃ v, RRingsOf b3 s3 = v := ⟨_, rfl⟩
    have E3 := Aside0.mk E3
    have len3 : L3.length ≤ 61 := by have := RRingsOf_len b3 s3; rw [E3.out] at this; exact this
    go_wp2_with (fail)
    refine (impl_RingsOf_c b3 s3 _).mono ?_
    rintro e W ⟨u1, rfl, hL, hb⟩
    rw [E3.out] at hL
    rw [E3.out]
    have hL : Kd.R (Kd.int .i64) 2 W _ (fun _ => True) u1 L3 := hL
    obtain ⟨B1, d1, e2⟩ := Kd.R_slice hL
    subst e2
    have q1 : L3.length ≤ d1 := (Kd.R_reads' hL).2.1
    have C1 : Aside0 (Kd.C (Kd.int .i64) W B1 L3.length L3) := Aside0.mk (Kd.R_reads' hL).2.2
    have HB := Aside0.mk (show Below w.heap.size w W from below_step (by repeat (first | (with_reducible first | exact HB.out | apply below_alloc | apply pw_below_drewN | apply below_drew1) | exact HB.out)) hb)
    clear hb
    clear hL
    go_wp2_with (fail)
    refine (spec_RingsOf_c b3 s3 _).mono ?_
    rintro e W ⟨u2, rfl, hL, hb⟩
    rw [E3.out] at hL
    rw [E3.out]
    have hL : Kd.R (Kd.int .i64) 2 W _ (fun _ => True) u2 L3 := hL
    obtain ⟨B2, d2, e2⟩ := Kd.R_slice hL
    subst e2
    have q2 : L3.length ≤ d2 := (Kd.R_reads' hL).2.1
    have C2 : Aside0 (Kd.C (Kd.int .i64) W B2 L3.length L3) := Aside0.mk (Kd.R_reads' hL).2.2
    have HB := Aside0.mk (show Below w.heap.size w W from below_step (by repeat (first | (with_reducible first | exact HB.out | apply below_alloc | apply pw_below_drewN | apply below_drew1) | exact HB.out)) hb)
    have C1 := Aside0.mk (Kd.C_below (Kd.C_below C1.out ( by repeat (first | (with_reducible first | exact Below.refl _ _ | apply below_alloc | apply pw_below_drewN | apply below_drew1 | (refine below_step ?_ (by assumption))) | exact Below.refl _ _) )) hb)
    clear hb
    clear hL
    go_wp2_with (fail)
    refine (DrawUnderCap_c _ (hr.out.below (by repeat (first | (with_reducible first | exact HB.out | apply below_alloc | apply pw_below_drewN | apply below_drew1) | exact HB.out))) hx.out hc).mono ?_
    rintro e W ⟨ca, da, v4, L4, rfl, hl4, ho, hb⟩
    obtain ⟨A4, k4, e3⟩ := Kd.R_slice ho
    subst e3
    have C0 : Aside0 (Kd.C kSp W A4 L4.length L4) := Aside0.mk (Kd.R_reads' ho).2.2
    have HB := Aside0.mk (show Below w.heap.size w W from below_step (by repeat (first | (with_reducible first | exact HB.out | apply below_alloc | apply pw_below_drewN | apply below_drew1) | exact HB.out)) hb)
    have C1 := Aside0.mk (Kd.C_below (Kd.C_below C1.out ( by repeat (first | (with_reducible first | exact Below.refl _ _ | apply below_alloc | apply pw_below_drewN | apply below_drew1 | (refine below_step ?_ (by assumption))) | exact Below.refl _ _) )) hb)
    have C2 := Aside0.mk (Kd.C_below (Kd.C_below C2.out ( by repeat (first | (with_reducible first | exact Below.refl _ _ | apply below_alloc | apply pw_below_drewN | apply below_drew1 | (refine below_step ?_ (by assumption))) | exact Below.refl _ _) )) hb)
    clear hb
    clear ho
    obtain ⟨⟨M4, c5⟩, E4⟩ : ∃ v, RUnderCap ca da L4 = v := ⟨_, rfl⟩
    have E4 := Aside0.mk E4
    have len4 : M4.length ≤ 100 := by have := RUnderCap_len ca da L4; rw [E4.out] at this; exact this
    go_wp2_with (fail)
    refine (impl_UnderCap_l _ (Kd.C_below C0.out ( by repeat (first | (with_reducible first | exact Below.refl _ _ | apply below_alloc | apply pw_below_drewN | apply below_drew1 | (refine below_step ?_ (by assumption))) | exact Below.refl _ _) ))).mono ?_
    rintro e W ⟨u3, rfl, hL, hb⟩
    rw [E4.out] at hL
    rw [E4.out]
    have hL : Kd.R (Kd.int .i64) 2 W _ (fun _ => True) u3 M4 := hL
    obtain ⟨B3, d3, e2⟩ := Kd.R_slice hL
    subst e2
    have q3 : M4.length ≤ d3 := (Kd.R_reads' hL).2.1
    have C3 : Aside0 (Kd.C (Kd.int .i64) W B3 M4.length M4) := Aside0.mk (Kd.R_reads' hL).2.2
    have HB := Aside0.mk (show Below w.heap.size w W from below_step (by repeat (first | (with_reducible first | exact HB.out | apply below_alloc | apply pw_below_drewN | apply below_drew1) | exact HB.out)) hb)
    have C0 := Aside0.mk (Kd.C_below (Kd.C_below C0.out ( by repeat (first | (with_reducible first | exact Below.refl _ _ | apply below_alloc | apply pw_below_drewN | apply below_drew1 | (refine below_step ?_ (by assumption))) | exact Below.refl _ _) )) hb)
    have C1 := Aside0.mk (Kd.C_below (Kd.C_below C1.out ( by repeat (first | (with_reducible first | exact Below.refl _ _ | apply below_alloc | apply pw_below_drewN | apply below_drew1 | (refine below_step ?_ (by assumption))) | exact Below.refl _ _) )) hb)
    have C2 := Aside0.mk (Kd.C_below (Kd.C_below C2.out ( by repeat (first | (with_reducible first | exact Below.refl _ _ | apply below_alloc | apply pw_below_drewN | apply below_drew1 | (refine below_step ?_ (by assumption))) | exact Below.refl _ _) )) hb)
    clear hb
    clear hL
    go_wp2_with (fail)
    refine (spec_UnderCap_l _ (Kd.C_below C0.out ( by repeat (first | (with_reducible first | exact Below.refl _ _ | apply below_alloc | apply pw_below_drewN | apply below_drew1 | (refine below_step ?_ (by assumption))) | exact Below.refl _ _) ))).mono ?_
    rintro e W ⟨u4, rfl, hL, hb⟩
    rw [E4.out] at hL
    rw [E4.out]
    have hL : Kd.R (Kd.int .i64) 2 W _ (fun _ => True) u4 M4 := hL
    obtain ⟨B4, d4, e2⟩ := Kd.R_slice hL
    subst e2
    have q4 : M4.length ≤ d4 := (Kd.R_reads' hL).2.1
    have C4 : Aside0 (Kd.C (Kd.int .i64) W B4 M4.length M4) := Aside0.mk (Kd.R_reads' hL).2.2
    have HB := Aside0.mk (show Below w.heap.size w W from below_step (by repeat (first | (with_reducible first | exact HB.out | apply below_alloc | apply pw_below_drewN | apply below_drew1) | exact HB.out)) hb)
    have C0 := Aside0.mk (Kd.C_below (Kd.C_below C0.out ( by repeat (first | (with_reducible first | exact Below.refl _ _ | apply below_alloc | apply pw_below_drewN | apply below_drew1 | (refine below_step ?_ (by assumption))) | exact Below.refl _ _) )) hb)
    have C1 := Aside0.mk (Kd.C_below (Kd.C_below C1.out ( by repeat (first | (with_reducible first | exact Below.refl _ _ | apply below_alloc | apply pw_below_drewN | apply below_drew1 | (refine below_step ?_ (by assumption))) | exact Below.refl _ _) )) hb)
    have C2 := Aside0.mk (Kd.C_below (Kd.C_below C2.out ( by repeat (first | (with_reducible first | exact Below.refl _ _ | apply below_alloc | apply pw_below_drewN | apply below_drew1 | (refine below_step ?_ (by assumption))) | exact Below.refl _ _) )) hb)
    have C3 := Aside0.mk (Kd.C_below (Kd.C_below C3.out ( by repeat (first | (with_reducible first | exact Below.refl _ _ | apply below_alloc | apply pw_below_drewN | apply below_drew1 | (refine below_step ?_ (by assumption))) | exact Below.refl _ _) )) hb)
    clear hb
    clear hL
    go_wp2_with (fail)
    refine (DrawArcLength_c _ (hr.out.below (by repeat (first | (with_reducible first | exact HB.out | apply below_alloc | apply pw_below_drewN | apply below_drew1) | exact HB.out))) hx.out hc).mono ?_
    rintro e W ⟨n5, r5, rfl, hb⟩
    have HB := Aside0.mk (show Below w.heap.size w W from below_step (by repeat (first | (with_reducible first | exact HB.out | apply below_alloc | apply pw_below_drewN | apply below_drew1) | exact HB.out)) hb)
    have C0 := Aside0.mk (Kd.C_below (Kd.C_below C0.out ( by repeat (first | (with_reducible first | exact Below.refl _ _ | apply below_alloc | apply pw_below_drewN | apply below_drew1 | (refine below_step ?_ (by assumption))) | exact Below.refl _ _) )) hb)
    have C1 := Aside0.mk (Kd.C_below (Kd.C_below C1.out ( by repeat (first | (with_reducible first | exact Below.refl _ _ | apply below_alloc | apply pw_below_drewN | apply below_drew1 | (refine below_step ?_ (by assumption))) | exact Below.refl _ _) )) hb)
    have C2 := Aside0.mk (Kd.C_below (Kd.C_below C2.out ( by repeat (first | (with_reducible first | exact Below.refl _ _ | apply below_alloc | apply pw_below_drewN | apply below_drew1 | (refine below_step ?_ (by assumption))) | exact Below.refl _ _) )) hb)
    have C3 := Aside0.mk (Kd.C_below (Kd.C_below C3.out ( by repeat (first | (with_reducible first | exact Below.refl _ _ | apply below_alloc | apply pw_below_drewN | apply below_drew1 | (refine below_step ?_ (by assumption))) | exact Below.refl _ _) )) hb)
    have C4 := Aside0.mk (Kd.C_below (Kd.C_below C4.out ( by repeat (first | (with_reducible first | exact Below.refl _ _ | apply below_alloc | apply pw_below_drewN | apply below_drew1 | (refine below_step ?_ (by assumption))) | exact Below.refl _ _) )) hb)
    clear hb
    obtain ⟨⟨e5, c6⟩, E5⟩ : ∃ v, RArcLength n5 r5 = v := ⟨_, rfl⟩
    have E5 := Aside0.mk E5
    go_wp2_with (fail)
    refine (impl_ArcLength_d n5 r5 _).mono ?_
    rintro e w' ⟨rfl, ⟨nd, rfl⟩⟩
    rw [E5.out]
    go_wp2_with (fail)
    refine (spec_ArcLength_d n5 r5 _).mono ?_
    rintro e w' ⟨rfl, ⟨nd, rfl⟩⟩
    rw [E5.out]
    go_wp2_with (fail)
    refine (DrawRingOf_c _ (hr.out.below (by repeat (first | (with_reducible first | exact HB.out | apply below_alloc | apply pw_below_drewN | apply below_drew1) | exact HB.out))) hx.out hc).mono ?_
    rintro e W6 ⟨f6, g6, h6, x6, y6, rfl, hb⟩
    have HB := Aside0.mk (show Below w.heap.size w W6 from below_step (by repeat (first | (with_reducible first | exact HB.out | apply below_alloc | apply pw_below_drewN | apply below_drew1) | exact HB.out)) hb)
    have C0 := Aside0.mk (Kd.C_below (Kd.C_below C0.out ( by repeat (first | (with_reducible first | exact Below.refl _ _ | apply below_alloc | apply pw_below_drewN | apply below_drew1 | (refine below_step ?_ (by assumption))) | exact Below.refl _ _) )) hb)
    have C1 := Aside0.mk (Kd.C_below (Kd.C_below C1.out ( by repeat (first | (with_reducible first | exact Below.refl _ _ | apply below_alloc | apply pw_below_drewN | apply below_drew1 | (refine below_step ?_ (by assumption))) | exact Below.refl _ _) )) hb)
    have C2 := Aside0.mk (Kd.C_below (Kd.C_below C2.out ( by repeat (first | (with_reducible first | exact Below.refl _ _ | apply below_alloc | apply pw_below_drewN | apply below_drew1 | (refine below_step ?_ (by assumption))) | exact Below.refl _ _) )) hb)
    have C3 := Aside0.mk (Kd.C_below (Kd.C_below C3.out ( by repeat (first | (with_reducible first | exact Below.refl _ _ | apply below_alloc | apply pw_below_drewN | apply below_drew1 | (refine below_step ?_ (by assumption))) | exact Below.refl _ _) )) hb)
    have C4 := Aside0.mk (Kd.C_below (Kd.C_below C4.out ( by repeat (first | (with_reducible first | exact Below.refl _ _ | apply below_alloc | apply pw_below_drewN | apply below_drew1 | (refine below_step ?_ (by assumption))) | exact Below.refl _ _) )) hb)
    clear hb
    obtain ⟨⟨k6, c7⟩, E6⟩ : ∃ v, RRingOf f6 g6 h6 x6 y6 = v := ⟨_, rfl⟩
    have E6 := Aside0.mk E6
    go_wp2_with (fail)
    refine (impl_RingOf_c f6 g6 h6 x6 y6 _).mono ?_
    rintro e W7 ⟨rfl, hb⟩
    rw [E6.out]
    have BK := Aside0.mk (blk_below (blk_new W6 (.cells #[.int .i64 x6, .int .i64 y6] 52)) (show Below (W6.alloc (.cells #[.int .i64 x6, .int .i64 y6] 52)).heap.size (W6.alloc (.cells #[.int .i64 x6, .int .i64 y6] 52)) W7 from below_step ( by repeat (first | (with_reducible first | exact Below.refl _ _ | apply below_alloc | apply pw_below_drewN | apply below_drew1 | (refine below_step ?_ (by assumption))) | exact Below.refl _ _) ) hb))
    have HB := Aside0.mk (show Below w.heap.size w W7 from below_step (by repeat (first | (with_reducible first | exact HB.out | apply below_alloc | apply pw_below_drewN | apply below_drew1) | exact HB.out)) hb)
    have C0 := Aside0.mk (Kd.C_below (Kd.C_below C0.out ( by repeat (first | (with_reducible first | exact Below.refl _ _ | apply below_alloc | apply pw_below_drewN | apply below_drew1 | (refine below_step ?_ (by assumption))) | exact Below.refl _ _) )) hb)
    have C1 := Aside0.mk (Kd.C_below (Kd.C_below C1.out ( by repeat (first | (with_reducible first | exact Below.refl _ _ | apply below_alloc | apply pw_below_drewN | apply below_drew1 | (refine below_step ?_ (by assumption))) | exact Below.refl _ _) )) hb)
    have C2 := Aside0.mk (Kd.C_below (Kd.C_below C2.out ( by repeat (first | (with_reducible first | exact Below.refl _ _ | apply below_alloc | apply pw_below_drewN | apply below_drew1 | (refine below_step ?_ (by assumption))) | exact Below.refl _ _) )) hb)
    have C3 := Aside0.mk (Kd.C_below (Kd.C_below C3.out ( by repeat (first | (with_reducible first | exact Below.refl _ _ | apply below_alloc | apply pw_below_drewN | apply below_drew1 | (refine below_step ?_ (by assumption))) | exact Below.refl _ _) )) hb)
    have C4 := Aside0.mk (Kd.C_below (Kd.C_below C4.out ( by repeat (first | (with_reducible first | exact Below.refl _ _ | apply below_alloc | apply pw_below_drewN | apply below_drew1 | (refine below_step ?_ (by assumption))) | exact Below.refl _ _) )) hb)
    clear hb
    have BK_0 := (blk_cell BK.out 0).trans (by rfl : _ = some (Value.int .i64 x6))
    have BK_1 := (blk_cell BK.out 1).trans (by rfl : _ = some (Value.int .i64 y6))
    have BK_l := blk_lt BK.out
    have BK_n := Nat.ne_of_lt (blk_lt BK.out)
    have BK_m := Nat.ne_of_gt (blk_lt BK.out)
    go_wp2_with (fail)
    refine (spec_RingOf_c f6 g6 h6 x6 y6 _).mono ?_
    rintro e W8 ⟨rfl, hb⟩
    rw [E6.out]
    have HB := Aside0.mk (show Below w.heap.size w W8 from below_step (by repeat (first | (with_reducible first | exact HB.out | apply below_alloc | apply pw_below_drewN | apply below_drew1) | exact HB.out)) hb)
    have C0 := Aside0.mk (Kd.C_below (Kd.C_below C0.out ( by repeat (first | (with_reducible first | exact Below.refl _ _ | apply below_alloc | apply pw_below_drewN | apply below_drew1 | (refine below_step ?_ (by assumption))) | exact Below.refl _ _) )) hb)
    have C1 := Aside0.mk (Kd.C_below (Kd.C_below C1.out ( by repeat (first | (with_reducible first | exact Below.refl _ _ | apply below_alloc | apply pw_below_drewN | apply below_drew1 | (refine below_step ?_ (by assumption))) | exact Below.refl _ _) )) hb)
    have C2 := Aside0.mk (Kd.C_below (Kd.C_below C2.out ( by repeat (first | (with_reducible first | exact Below.refl _ _ | apply below_alloc | apply pw_below_drewN | apply below_drew1 | (refine below_step ?_ (by assumption))) | exact Below.refl _ _) )) hb)
    have C3 := Aside0.mk (Kd.C_below (Kd.C_below C3.out ( by repeat (first | (with_reducible first | exact Below.refl _ _ | apply below_alloc | apply pw_below_drewN | apply below_drew1 | (refine below_step ?_ (by assumption))) | exact Below.refl _ _) )) hb)
    have C4 := Aside0.mk (Kd.C_below (Kd.C_below C4.out ( by repeat (first | (with_reducible first | exact Below.refl _ _ | apply below_alloc | apply pw_below_drewN | apply below_drew1 | (refine below_step ?_ (by assumption))) | exact Below.refl _ _) )) hb)
    clear hb
    clear BK_0 BK_1 BK_l BK_n BK_m BK
    go_wp2_with (fail)
    refine (f6ints_c _ (Kd.C_below C1.out ( by repeat (first | (with_reducible first | exact Below.refl _ _ | apply below_alloc | apply pw_below_drewN | apply below_drew1 | (refine below_step ?_ (by assumption))) | exact Below.refl _ _) )) q1 (Kd.C_below C2.out ( by repeat (first | (with_reducible first | exact Below.refl _ _ | apply below_alloc | apply pw_below_drewN | apply below_drew1 | (refine below_step ?_ (by assumption))) | exact Below.refl _ _) )) q2 (by omega)).mono ?_
    rintro e w' ⟨rfl, ⟨nd, rfl⟩⟩
    go_wp2_with (fail)
    refine (f6ints_c _ (Kd.C_below C3.out ( by repeat (first | (with_reducible first | exact Below.refl _ _ | apply below_alloc | apply pw_below_drewN | apply below_drew1 | (refine below_step ?_ (by assumption))) | exact Below.refl _ _) )) q3 (Kd.C_below C4.out ( by repeat (first | (with_reducible first | exact Below.refl _ _ | apply below_alloc | apply pw_below_drewN | apply below_drew1 | (refine below_step ?_ (by assumption))) | exact Below.refl _ _) )) q4 (by omega)).mono ?_
    rintro e V ⟨rfl, hb⟩
    have hb := hb.below
    have HB := Aside0.mk (show Below w.heap.size w V from below_step (by repeat (first | (with_reducible first | exact HB.out | apply below_alloc | apply pw_below_drewN | apply below_drew1) | exact HB.out)) hb)
    have C0 := Aside0.mk (Kd.C_below (Kd.C_below C0.out ( by repeat (first | (with_reducible first | exact Below.refl _ _ | apply below_alloc | apply pw_below_drewN | apply below_drew1 | (refine below_step ?_ (by assumption))) | exact Below.refl _ _) )) hb)
    have C2 := Aside0.mk (Kd.C_below (Kd.C_below C2.out ( by repeat (first | (with_reducible first | exact Below.refl _ _ | apply below_alloc | apply pw_below_drewN | apply below_drew1 | (refine below_step ?_ (by assumption))) | exact Below.refl _ _) )) hb)
    have C4 := Aside0.mk (Kd.C_below (Kd.C_below C4.out ( by repeat (first | (with_reducible first | exact Below.refl _ _ | apply below_alloc | apply pw_below_drewN | apply below_drew1 | (refine below_step ?_ (by assumption))) | exact Below.refl _ _) )) hb)
    clear hb
    clear C1 C3 q1 q3
    by_cases z3 : c3 = 0
    · subst z3
      obtain ⟨g1, g2, g3⟩ := rings_in E3.out
      rcases g3 with ⟨g4, g5⟩ | ⟨m, g4, g5, g6, g7⟩
      · obtain rfl : L3 = [] := List.eq_nil_of_length_eq_zero g4
        subst g5
        have HY := Aside0.mk (Below.refl V.heap.size V)
        go_wp2_with (fail)
        go_loopw [42] (fun k wr => k = .int .i64 0 ∧ Aside0 (Below V.heap.size V wr)) (fun k _ => 0)
        case atStart => exact ⟨rfl, ⟨by repeat (first | (with_reducible first | exact HY.out | apply below_alloc | apply pw_below_drewN | apply below_drew1) | exact HY.out)⟩⟩
        case round =>
          clear HY
          obtain ⟨rfl, HY⟩ := hrel
          have C0 := Aside0.mk (Kd.C_below C0.out HY.out)
          have C4 := Aside0.mk (Kd.C_below C4.out HY.out)
          have HB := Aside0.mk (below_step HB.out HY.out)
          by_cases z5 : c5 = 0
          · subst z5
            obtain ⟨G1, G2⟩ := under_in E4.out
            have G1 := Aside0.mk G1
            subst G2
            go_wp2_with (fail)
            refine (impl_CapEdge_c _).mono ?_
            rintro e V2 ⟨rfl, hb⟩
            rw [G1.out]
            have hb := hb.below
            have HB := Aside0.mk (show Below w.heap.size w V2 from below_step (by repeat (first | (with_reducible first | exact HB.out | apply below_alloc | apply pw_below_drewN | apply below_drew1) | exact HB.out)) hb)
            have C0 := Aside0.mk (Kd.C_below (Kd.C_below C0.out ( by repeat (first | (with_reducible first | exact Below.refl _ _ | apply below_alloc | apply pw_below_drewN | apply below_drew1 | (refine below_step ?_ (by assumption))) | exact Below.refl _ _) )) hb)
            have C4 := Aside0.mk (Kd.C_below (Kd.C_below C4.out ( by repeat (first | (with_reducible first | exact Below.refl _ _ | apply below_alloc | apply pw_below_drewN | apply below_drew1 | (refine below_step ?_ (by assumption))) | exact Below.refl _ _) )) hb)
            clear hb
            have HY := Aside0.mk (Below.refl V2.heap.size V2)
            go_wp2_with (fail)
            go_loopw [45] (fun k wr => ∃ i : Nat, i ≤ L4.length ∧ k = .int .i64 i ∧ Aside0 (Below V2.heap.size V2 wr)) (fun k _ => ((L4.length : Int) - intOf k).toNat)
            case atStart => exact ⟨0, by omega, rfl, ⟨by repeat (first | (with_reducible first | exact HY.out | apply below_alloc | apply pw_below_drewN | apply below_drew1) | exact HY.out)⟩⟩
            case round =>
              clear HY
              obtain ⟨i, hi, rfl, HY⟩ := hrel
              by_cases hlt : i < L4.length
              · have hz : (i : Int) < (L4.length : Int) := by omega
                obtain ⟨ad, e1', x0, x1⟩ := PFnExactUnderCap.at_T52 (Kd.C_below C0.out HY.out) (i : Int) (by omega) hz
                subst e1'
                rw [Int.toNat_natCast] at x0 x1
                have BA : Below wr.heap.size wr wr.drew := below_drew1 (Below.refl wr.heap.size wr)
                have i0 : wr.drew.cell? (ad.add (i * 2)) = some (.int .i64 ((rdS L4 i).f0)) := cell_after BA (x0)
                have LB : wr.heap.size ≤ wr.drew.heap.size := by first | (simp; done) | (simp; omega) | exact Nat.le_refl _
                by_cases lt : edge ca da ≤ (rdS L4 i).f0
                · have ltd : decide (edge ca da ≤ (rdS L4 i).f0) = true := decide_eq_true lt
                  have ltx : edge ca da ≤ (rdS L4 i).f0 := by omega
                  go_wp2_with (fail)
                  go_quiet (first | (go_at_call 87; exact quiet0 (f6has_c (p := fun i => edge ca da ≤ (rdS L4 i).f0) (m := L4.length) _ (Kd.C_below (Kd.C_below C4.out HY.out) ( by repeat (first | (with_reducible first | exact Below.refl _ _ | apply below_alloc | apply pw_below_drewN | apply below_drew1 | (refine below_step ?_ (by assumption))) | exact Below.refl _ _) )) q4 (by omega) hlt (b := true) (by show _ ↔ edge ca da ≤ (rdS L4 i).f0; first | exact iff_of_true rfl (by omega) | exact iff_of_false (by simp) (by omega)))))
                  try go_wp2
                  go_roundw
                  case rel => exact ⟨i + 1, by omega, by go_num, ⟨by repeat (first | (with_reducible first | exact HY.out | apply below_alloc | apply pw_below_drewN | apply below_drew1) | exact HY.out)⟩⟩
                  case measure => simp [intOf]; omega
                · have ltd : decide (edge ca da ≤ (rdS L4 i).f0) = false := decide_eq_false lt
                  have ltx : (rdS L4 i).f0 < edge ca da := by omega
                  go_wp2_with (fail)
                  go_quiet (first | (go_at_call 87; exact quiet0 (f6has_c (p := fun i => edge ca da ≤ (rdS L4 i).f0) (m := L4.length) _ (Kd.C_below (Kd.C_below C4.out HY.out) ( by repeat (first | (with_reducible first | exact Below.refl _ _ | apply below_alloc | apply pw_below_drewN | apply below_drew1 | (refine below_step ?_ (by assumption))) | exact Below.refl _ _) )) q4 (by omega) hlt (b := false) (by show _ ↔ edge ca da ≤ (rdS L4 i).f0; first | exact iff_of_true rfl (by omega) | exact iff_of_false (by simp) (by omega)))))
                  try go_wp2
                  go_roundw
                  case rel => exact ⟨i + 1, by omega, by go_num, ⟨by repeat (first | (with_reducible first | exact HY.out | apply below_alloc | apply pw_below_drewN | apply below_drew1) | exact HY.out)⟩⟩
                  case measure => simp [intOf]; omega
              · have ei : i = L4.length := by omega
                subst ei
                have hz : ¬ (L4.length : Int) < (L4.length : Int) := by omega
                have HB := Aside0.mk (below_step HB.out HY.out)
                by_cases z7 : c7 = 0
                · subst z7
                  have k0 := ringOf_in E6.out
                  by_cases z1 : c1 = 0
                  · subst z1
                    obtain ⟨f0, f1⟩ := capEdge_in E1.out
                    go_wp2
                    go_ret
                    exact ⟨by first | rfl | (simp; done), by repeat (first | (with_reducible first | exact HB.out | apply below_alloc | apply pw_below_drewN | apply below_drew1) | exact HB.out)⟩
                  · have z1' : (c1 == 0) = false := by simp [z1]
                    go_wp2
                    go_ret
                    exact ⟨by first | rfl | (simp; done), by repeat (first | (with_reducible first | exact HB.out | apply below_alloc | apply pw_below_drewN | apply below_drew1) | exact HB.out)⟩
                · have z7' : (c7 == 0) = false := by simp [z7]
                  by_cases z1 : c1 = 0
                  · subst z1
                    obtain ⟨f0, f1⟩ := capEdge_in E1.out
                    go_wp2
                    go_ret
                    exact ⟨by first | rfl | (simp; done), by repeat (first | (with_reducible first | exact HB.out | apply below_alloc | apply pw_below_drewN | apply below_drew1) | exact HB.out)⟩
                  · have z1' : (c1 == 0) = false := by simp [z1]
                    go_wp2
                    go_ret
                    exact ⟨by first | rfl | (simp; done), by repeat (first | (with_reducible first | exact HB.out | apply below_alloc | apply pw_below_drewN | apply below_drew1) | exact HB.out)⟩
          · have z5' : (c5 == 0) = false := by simp [z5]
            by_cases z7 : c7 = 0
            · subst z7
              have k0 := ringOf_in E6.out
              by_cases z1 : c1 = 0
              · subst z1
                obtain ⟨f0, f1⟩ := capEdge_in E1.out
                go_wp2
                go_ret
                exact ⟨by first | rfl | (simp; done), by repeat (first | (with_reducible first | exact HB.out | apply below_alloc | apply pw_below_drewN | apply below_drew1) | exact HB.out)⟩
              · have z1' : (c1 == 0) = false := by simp [z1]
                go_wp2
                go_ret
                exact ⟨by first | rfl | (simp; done), by repeat (first | (with_reducible first | exact HB.out | apply below_alloc | apply pw_below_drewN | apply below_drew1) | exact HB.out)⟩
            · have z7' : (c7 == 0) = false := by simp [z7]
              by_cases z1 : c1 = 0
              · subst z1
                obtain ⟨f0, f1⟩ := capEdge_in E1.out
                go_wp2
                go_ret
                exact ⟨by first | rfl | (simp; done), by repeat (first | (with_reducible first | exact HB.out | apply below_alloc | apply pw_below_drewN | apply below_drew1) | exact HB.out)⟩
              · have z1' : (c1 == 0) = false := by simp [z1]
                go_wp2
                go_ret
                exact ⟨by first | rfl | (simp; done), by repeat (first | (with_reducible first | exact HB.out | apply below_alloc | apply pw_below_drewN | apply below_drew1) | exact HB.out)⟩
      · have HY := Aside0.mk (Below.refl V.heap.size V)
        replace g7 := Aside0.mk g7
        replace g4 := Aside0.mk g4
        replace g6 := Aside0.mk g6
        go_wp2_with (fail)
        go_loopw [42] (fun k wr => ∃ i : Nat, i ≤ L3.length ∧ k = .int .i64 i ∧ Aside0 (Below V.heap.size V wr)) (fun k _ => ((L3.length : Int) - intOf k).toNat)
        case atStart => exact ⟨0, by omega, rfl, ⟨by repeat (first | (with_reducible first | exact HY.out | apply below_alloc | apply pw_below_drewN | apply below_drew1) | exact HY.out)⟩⟩
        case round =>
          clear HY
          obtain ⟨i, hi, rfl, HY⟩ := hrel
          have g4x := g4.out
          by_cases hlt : i < L3.length
          · have hz : (i : Int) < (L3.length : Int) := by omega
            obtain ⟨ad, e1', x0⟩ := Kd.at_int (Kd.C_below C2.out HY.out) (i : Int) (by omega) hz
            subst e1'
            rw [Int.toNat_natCast] at x0
            by_cases im : i < m
            · obtain ⟨t1, t2⟩ := g7.out i im
              rw [t1] at x0
              have t3 : s3 * ((i : Int) + 1) = s3 * i + s3 := by rw [Int.mul_add, Int.mul_one]
              obtain ⟨p0, p1⟩ := mul_nn_bd (x := s3) (y := (i : Int)) (X := 100000) (Y := 61) (by omega) (by omega)
              have t4 : (i : Int) + 1 < (L3.length : Int) := by omega
              have t5 : IntKind.i64.wrap (s3 * ((i : Int) + 1)) = s3 * ((i : Int) + 1) := IntWalk.i64_in _ (by omega)
              have t6 : ¬ s3 * ((i : Int) + 1) < 1 := by omega
              have t9 : s3 * (i : Int) < s3 * ((i : Int) + 1) := by omega
              clear t3 t1
              have k3 : IntKind.i64.wrap ((i : Int) + 1) = (i : Int) + 1 := IntWalk.i64_in _ (by omega)
              by_cases i0 : ¬ (0 : Int) < (i : Int)
              · skip
                have D1 : decide (s3 * ((i : Int) + 1) < 1) = false := decide_eq_false (by omega)
                have D2 : decide (0 < i) = false := decide_eq_false (by omega)
                have D3 : decide ((0 : Int) < (i : Int)) = false := decide_eq_false (by omega)
                have D4 : decide ((i : Int) + 1 < (L3.length : Int)) = true := decide_eq_true (by omega)
                have D5 : decide (i + 1 < L3.length) = true := decide_eq_true (by omega)
                clear g4x
                go_wp2
                go_quiet (fail)
                go_wp2
                go_roundw
                case rel => exact ⟨i + 1, by omega, by go_num, ⟨by repeat (first | (with_reducible first | exact HY.out | apply below_alloc | apply pw_below_drewN | apply below_drew1) | exact HY.out)⟩⟩
                case measure => simp [intOf]; omega
              · have i1 : (0 : Int) < i := by omega
                obtain ⟨ad', e2', x1⟩ := Kd.at_int (Kd.C_below C2.out HY.out) ((i : Int) - 1) (by omega) (by omega)
                obtain rfl : ad = ad' := by injection e2'
                clear e2'
                rw [show ((i : Int) - 1).toNat = i - 1 by omega] at x1
                have t7 := (g7.out (i - 1) (by omega)).1
                rw [show ((i - 1 : Nat) : Int) = (i : Int) - 1 by omega, show (i : Int) - 1 + 1 = i by omega] at t7
                rw [t7] at x1
                have t8 : ¬ s3 * (i : Int) ≥ s3 * ((i : Int) + 1) := by omega
                clear t7
                have i2 : 0 ≤ (i : Int) - 1 := by omega
                have i4 : (i : Int) - 1 < (L3.length : Int) := by omega
                have k2 : IntKind.i64.wrap ((i : Int) - 1) = (i : Int) - 1 := IntWalk.i64_in _ (by omega)
                have D1 : decide (s3 * ((i : Int) + 1) < 1) = false := decide_eq_false (by omega)
                have D2 : decide (0 < i) = true := decide_eq_true (by omega)
                have D3 : decide ((0 : Int) < (i : Int)) = true := decide_eq_true (by omega)
                have D4 : decide ((i : Int) + 1 < (L3.length : Int)) = true := decide_eq_true (by omega)
                have D5 : decide (i + 1 < L3.length) = true := decide_eq_true (by omega)
                have D6 : decide (s3 * ((i : Int) + 1) ≤ s3 * (i : Int)) = false := decide_eq_false (by omega)
                clear g4x
                go_wp2
                go_quiet (fail)
                go_wp2
                go_roundw
                case rel => exact ⟨i + 1, by omega, by go_num, ⟨by repeat (first | (with_reducible first | exact HY.out | apply below_alloc | apply pw_below_drewN | apply below_drew1) | exact HY.out)⟩⟩
                case measure => simp [intOf]; omega
            · obtain rfl : i = m := by omega
              rw [g6.out] at x0
              have t4 : ¬ (i : Int) + 1 < (L3.length : Int) := by omega
              have t6 : ¬ b3 < 1 := by omega
              have k3 : IntKind.i64.wrap ((i : Int) + 1) = (i : Int) + 1 := IntWalk.i64_in _ (by omega)
              by_cases i0 : ¬ (0 : Int) < (i : Int)
              · skip
                have D1 : decide (b3 < 1) = false := decide_eq_false (by omega)
                have D2 : decide (0 < i) = false := decide_eq_false (by omega)
                have D3 : decide ((0 : Int) < (i : Int)) = false := decide_eq_false (by omega)
                have D4 : decide ((i : Int) + 1 < (L3.length : Int)) = false := decide_eq_false (by omega)
                have D5 : decide (i + 1 < L3.length) = false := decide_eq_false (by omega)
                clear g4x
                go_wp2
                go_quiet (fail)
                go_wp2
                go_roundw
                case rel => exact ⟨i + 1, by omega, by go_num, ⟨by repeat (first | (with_reducible first | exact HY.out | apply below_alloc | apply pw_below_drewN | apply below_drew1) | exact HY.out)⟩⟩
                case measure => simp [intOf]; omega
              · have i1 : (0 : Int) < i := by omega
                obtain ⟨ad', e2', x1⟩ := Kd.at_int (Kd.C_below C2.out HY.out) ((i : Int) - 1) (by omega) (by omega)
                obtain rfl : ad = ad' := by injection e2'
                clear e2'
                rw [show ((i : Int) - 1).toNat = i - 1 by omega] at x1
                obtain ⟨t7, t8⟩ := g7.out (i - 1) (by omega)
                rw [show ((i - 1 : Nat) : Int) = (i : Int) - 1 by omega, show (i : Int) - 1 + 1 = i by omega] at t7 t8
                rw [t7] at x1
                clear t7
                have i2 : 0 ≤ (i : Int) - 1 := by omega
                have i4 : (i : Int) - 1 < (L3.length : Int) := by omega
                have k2 : IntKind.i64.wrap ((i : Int) - 1) = (i : Int) - 1 := IntWalk.i64_in _ (by omega)
                have D1 : decide (b3 < 1) = false := decide_eq_false (by omega)
                have D2 : decide (0 < i) = true := decide_eq_true (by omega)
                have D3 : decide ((0 : Int) < (i : Int)) = true := decide_eq_true (by omega)
                have D4 : decide ((i : Int) + 1 < (L3.length : Int)) = false := decide_eq_false (by omega)
                have D5 : decide (i + 1 < L3.length) = false := decide_eq_false (by omega)
                have D6 : decide (b3 ≤ s3 * (i : Int)) = false := decide_eq_false (by omega)
                clear g4x
                go_wp2
                go_quiet (fail)
                go_wp2
                go_roundw
                case rel => exact ⟨i + 1, by omega, by go_num, ⟨by repeat (first | (with_reducible first | exact HY.out | apply below_alloc | apply pw_below_drewN | apply below_drew1) | exact HY.out)⟩⟩
                case measure => simp [intOf]; omega
          · have ei : i = L3.length := by omega
            subst ei
            have hz : ¬ (L3.length : Int) < (L3.length : Int) := by omega
            obtain ⟨ad, e1', x0⟩ := Kd.at_int (Kd.C_below C2.out HY.out) ((L3.length : Int) - 1) (by omega) (by omega)
            subst e1'
            rw [show ((L3.length : Int) - 1) = (m : Int) by omega, g6.out, show (m : Int) = (L3.length : Int) - 1 by omega] at x0
            rw [show ((L3.length : Int) - 1).toNat = L3.length - 1 by omega] at x0
            have w1 : ((L3.length : Int) == 0) = false := by rw [beq_eq_false_iff_ne]; omega
            have w2 : (b3 == 0) = false := by rw [beq_eq_false_iff_ne]; omega
            have w7 : ¬ L3 = [] := fun e => by rw [e] at g4x; simp at g4x
            have w8 : decide ((0 : Int) < (L3.length : Int)) = true := decide_eq_true (by omega)
            have w9 : decide (0 < L3.length) = true := decide_eq_true (by omega)
            have w3 : (0 : Int) < (L3.length : Int) := by omega
            have w4 : IntKind.i64.wrap ((L3.length : Int) - 1) = (L3.length : Int) - 1 := IntWalk.i64_in _ (by omega)
            have w5 : 0 ≤ (L3.length : Int) - 1 := by omega
            have w6 : (L3.length : Int) - 1 < (L3.length : Int) := by omega
            clear g4x
            have C0 := Aside0.mk (Kd.C_below C0.out HY.out)
            have C4 := Aside0.mk (Kd.C_below C4.out HY.out)
            have HB := Aside0.mk (below_step HB.out HY.out)
            by_cases z5 : c5 = 0
            · subst z5
              obtain ⟨G1, G2⟩ := under_in E4.out
              have G1 := Aside0.mk G1
              subst G2
              go_wp2_with (fail)
              refine (impl_CapEdge_c _).mono ?_
              rintro e V2 ⟨rfl, hb⟩
              rw [G1.out]
              have hb := hb.below
              have HB := Aside0.mk (show Below w.heap.size w V2 from below_step (by repeat (first | (with_reducible first | exact HB.out | apply below_alloc | apply pw_below_drewN | apply below_drew1) | exact HB.out)) hb)
              have C0 := Aside0.mk (Kd.C_below (Kd.C_below C0.out ( by repeat (first | (with_reducible first | exact Below.refl _ _ | apply below_alloc | apply pw_below_drewN | apply below_drew1 | (refine below_step ?_ (by assumption))) | exact Below.refl _ _) )) hb)
              have C4 := Aside0.mk (Kd.C_below (Kd.C_below C4.out ( by repeat (first | (with_reducible first | exact Below.refl _ _ | apply below_alloc | apply pw_below_drewN | apply below_drew1 | (refine below_step ?_ (by assumption))) | exact Below.refl _ _) )) hb)
              clear hb
              have HY := Aside0.mk (Below.refl V2.heap.size V2)
              go_wp2_with (fail)
              go_loopw [45] (fun k wr => ∃ i : Nat, i ≤ L4.length ∧ k = .int .i64 i ∧ Aside0 (Below V2.heap.size V2 wr)) (fun k _ => ((L4.length : Int) - intOf k).toNat)
              case atStart => exact ⟨0, by omega, rfl, ⟨by repeat (first | (with_reducible first | exact HY.out | apply below_alloc | apply pw_below_drewN | apply below_drew1) | exact HY.out)⟩⟩
              case round =>
                clear HY
                obtain ⟨i, hi, rfl, HY⟩ := hrel
                by_cases hlt : i < L4.length
                · have hz : (i : Int) < (L4.length : Int) := by omega
                  obtain ⟨ad, e1', x0, x1⟩ := PFnExactUnderCap.at_T52 (Kd.C_below C0.out HY.out) (i : Int) (by omega) hz
                  subst e1'
                  rw [Int.toNat_natCast] at x0 x1
                  have BA : Below wr.heap.size wr wr.drew := below_drew1 (Below.refl wr.heap.size wr)
                  have i0 : wr.drew.cell? (ad.add (i * 2)) = some (.int .i64 ((rdS L4 i).f0)) := cell_after BA (x0)
                  have LB : wr.heap.size ≤ wr.drew.heap.size := by first | (simp; done) | (simp; omega) | exact Nat.le_refl _
                  by_cases lt : edge ca da ≤ (rdS L4 i).f0
                  · have ltd : decide (edge ca da ≤ (rdS L4 i).f0) = true := decide_eq_true lt
                    have ltx : edge ca da ≤ (rdS L4 i).f0 := by omega
                    go_wp2_with (fail)
                    go_quiet (first | (go_at_call 87; exact quiet0 (f6has_c (p := fun i => edge ca da ≤ (rdS L4 i).f0) (m := L4.length) _ (Kd.C_below (Kd.C_below C4.out HY.out) ( by repeat (first | (with_reducible first | exact Below.refl _ _ | apply below_alloc | apply pw_below_drewN | apply below_drew1 | (refine below_step ?_ (by assumption))) | exact Below.refl _ _) )) q4 (by omega) hlt (b := true) (by show _ ↔ edge ca da ≤ (rdS L4 i).f0; first | exact iff_of_true rfl (by omega) | exact iff_of_false (by simp) (by omega)))))
                    try go_wp2
                    go_roundw
                    case rel => exact ⟨i + 1, by omega, by go_num, ⟨by repeat (first | (with_reducible first | exact HY.out | apply below_alloc | apply pw_below_drewN | apply below_drew1) | exact HY.out)⟩⟩
                    case measure => simp [intOf]; omega
                  · have ltd : decide (edge ca da ≤ (rdS L4 i).f0) = false := decide_eq_false lt
                    have ltx : (rdS L4 i).f0 < edge ca da := by omega
                    go_wp2_with (fail)
                    go_quiet (first | (go_at_call 87; exact quiet0 (f6has_c (p := fun i => edge ca da ≤ (rdS L4 i).f0) (m := L4.length) _ (Kd.C_below (Kd.C_below C4.out HY.out) ( by repeat (first | (with_reducible first | exact Below.refl _ _ | apply below_alloc | apply pw_below_drewN | apply below_drew1 | (refine below_step ?_ (by assumption))) | exact Below.refl _ _) )) q4 (by omega) hlt (b := false) (by show _ ↔ edge ca da ≤ (rdS L4 i).f0; first | exact iff_of_true rfl (by omega) | exact iff_of_false (by simp) (by omega)))))
                    try go_wp2
                    go_roundw
                    case rel => exact ⟨i + 1, by omega, by go_num, ⟨by repeat (first | (with_reducible first | exact HY.out | apply below_alloc | apply pw_below_drewN | apply below_drew1) | exact HY.out)⟩⟩
                    case measure => simp [intOf]; omega
                · have ei : i = L4.length := by omega
                  subst ei
                  have hz : ¬ (L4.length : Int) < (L4.length : Int) := by omega
                  have HB := Aside0.mk (below_step HB.out HY.out)
                  by_cases z7 : c7 = 0
                  · subst z7
                    have k0 := ringOf_in E6.out
                    by_cases z1 : c1 = 0
                    · subst z1
                      obtain ⟨f0, f1⟩ := capEdge_in E1.out
                      go_wp2
                      go_ret
                      exact ⟨by first | rfl | (simp; done), by repeat (first | (with_reducible first | exact HB.out | apply below_alloc | apply pw_below_drewN | apply below_drew1) | exact HB.out)⟩
                    · have z1' : (c1 == 0) = false := by simp [z1]
                      go_wp2
                      go_ret
                      exact ⟨by first | rfl | (simp; done), by repeat (first | (with_reducible first | exact HB.out | apply below_alloc | apply pw_below_drewN | apply below_drew1) | exact HB.out)⟩
                  · have z7' : (c7 == 0) = false := by simp [z7]
                    by_cases z1 : c1 = 0
                    · subst z1
                      obtain ⟨f0, f1⟩ := capEdge_in E1.out
                      go_wp2
                      go_ret
                      exact ⟨by first | rfl | (simp; done), by repeat (first | (with_reducible first | exact HB.out | apply below_alloc | apply pw_below_drewN | apply below_drew1) | exact HB.out)⟩
                    · have z1' : (c1 == 0) = false := by simp [z1]
                      go_wp2
                      go_ret
                      exact ⟨by first | rfl | (simp; done), by repeat (first | (with_reducible first | exact HB.out | apply below_alloc | apply pw_below_drewN | apply below_drew1) | exact HB.out)⟩
            · have z5' : (c5 == 0) = false := by simp [z5]
              by_cases z7 : c7 = 0
              · subst z7
                have k0 := ringOf_in E6.out
                by_cases z1 : c1 = 0
                · subst z1
                  obtain ⟨f0, f1⟩ := capEdge_in E1.out
                  go_wp2
                  go_ret
                  exact ⟨by first | rfl | (simp; done), by repeat (first | (with_reducible first | exact HB.out | apply below_alloc | apply pw_below_drewN | apply below_drew1) | exact HB.out)⟩
                · have z1' : (c1 == 0) = false := by simp [z1]
                  go_wp2
                  go_ret
                  exact ⟨by first | rfl | (simp; done), by repeat (first | (with_reducible first | exact HB.out | apply below_alloc | apply pw_below_drewN | apply below_drew1) | exact HB.out)⟩
              · have z7' : (c7 == 0) = false := by simp [z7]
                by_cases z1 : c1 = 0
                · subst z1
                  obtain ⟨f0, f1⟩ := capEdge_in E1.out
                  go_wp2
                  go_ret
                  exact ⟨by first | rfl | (simp; done), by repeat (first | (with_reducible first | exact HB.out | apply below_alloc | apply pw_below_drewN | apply below_drew1) | exact HB.out)⟩
                · have z1' : (c1 == 0) = false := by simp [z1]
                  go_wp2
                  go_ret
                  exact ⟨by first | rfl | (simp; done), by repeat (first | (with_reducible first | exact HB.out | apply below_alloc | apply pw_below_drewN | apply below_drew1) | exact HB.out)⟩
    · have z3' : (c3 == 0) = false := by simp [z3]
      by_cases z5 : c5 = 0
      · subst z5
        obtain ⟨G1, G2⟩ := under_in E4.out
        have G1 := Aside0.mk G1
        subst G2
        go_wp2_with (fail)
        refine (impl_CapEdge_c _).mono ?_
        rintro e V2 ⟨rfl, hb⟩
        rw [G1.out]
        have hb := hb.below
        have HB := Aside0.mk (show Below w.heap.size w V2 from below_step (by repeat (first | (with_reducible first | exact HB.out | apply below_alloc | apply pw_below_drewN | apply below_drew1) | exact HB.out)) hb)
        have C0 := Aside0.mk (Kd.C_below (Kd.C_below C0.out ( by repeat (first | (with_reducible first | exact Below.refl _ _ | apply below_alloc | apply pw_below_drewN | apply below_drew1 | (refine below_step ?_ (by assumption))) | exact Below.refl _ _) )) hb)
        have C4 := Aside0.mk (Kd.C_below (Kd.C_below C4.out ( by repeat (first | (with_reducible first | exact Below.refl _ _ | apply below_alloc | apply pw_below_drewN | apply below_drew1 | (refine below_step ?_ (by assumption))) | exact Below.refl _ _) )) hb)
        clear hb
        have HY := Aside0.mk (Below.refl V2.heap.size V2)
        go_wp2_with (fail)
        go_loopw [45] (fun k wr => ∃ i : Nat, i ≤ L4.length ∧ k = .int .i64 i ∧ Aside0 (Below V2.heap.size V2 wr)) (fun k _ => ((L4.length : Int) - intOf k).toNat)
        case atStart => exact ⟨0, by omega, rfl, ⟨by repeat (first | (with_reducible first | exact HY.out | apply below_alloc | apply pw_below_drewN | apply below_drew1) | exact HY.out)⟩⟩
        case round =>
          clear HY
          obtain ⟨i, hi, rfl, HY⟩ := hrel
          by_cases hlt : i < L4.length
          · have hz : (i : Int) < (L4.length : Int) := by omega
            obtain ⟨ad, e1', x0, x1⟩ := PFnExactUnderCap.at_T52 (Kd.C_below C0.out HY.out) (i : Int) (by omega) hz
            subst e1'
            rw [Int.toNat_natCast] at x0 x1
            have BA : Below wr.heap.size wr wr.drew := below_drew1 (Below.refl wr.heap.size wr)
            have i0 : wr.drew.cell? (ad.add (i * 2)) = some (.int .i64 ((rdS L4 i).f0)) := cell_after BA (x0)
            have LB : wr.heap.size ≤ wr.drew.heap.size := by first | (simp; done) | (simp; omega) | exact Nat.le_refl _
            by_cases lt : edge ca da ≤ (rdS L4 i).f0
            · have ltd : decide (edge ca da ≤ (rdS L4 i).f0) = true := decide_eq_true lt
              have ltx : edge ca da ≤ (rdS L4 i).f0 := by omega
              go_wp2_with (fail)
              go_quiet (first | (go_at_call 87; exact quiet0 (f6has_c (p := fun i => edge ca da ≤ (rdS L4 i).f0) (m := L4.length) _ (Kd.C_below (Kd.C_below C4.out HY.out) ( by repeat (first | (with_reducible first | exact Below.refl _ _ | apply below_alloc | apply pw_below_drewN | apply below_drew1 | (refine below_step ?_ (by assumption))) | exact Below.refl _ _) )) q4 (by omega) hlt (b := true) (by show _ ↔ edge ca da ≤ (rdS L4 i).f0; first | exact iff_of_true rfl (by omega) | exact iff_of_false (by simp) (by omega)))))
              try go_wp2
              go_roundw
              case rel => exact ⟨i + 1, by omega, by go_num, ⟨by repeat (first | (with_reducible first | exact HY.out | apply below_alloc | apply pw_below_drewN | apply below_drew1) | exact HY.out)⟩⟩
              case measure => simp [intOf]; omega
            · have ltd : decide (edge ca da ≤ (rdS L4 i).f0) = false := decide_eq_false lt
              have ltx : (rdS L4 i).f0 < edge ca da := by omega
              go_wp2_with (fail)
              go_quiet (first | (go_at_call 87; exact quiet0 (f6has_c (p := fun i => edge ca da ≤ (rdS L4 i).f0) (m := L4.length) _ (Kd.C_below (Kd.C_below C4.out HY.out) ( by repeat (first | (with_reducible first | exact Below.refl _ _ | apply below_alloc | apply pw_below_drewN | apply below_drew1 | (refine below_step ?_ (by assumption))) | exact Below.refl _ _) )) q4 (by omega) hlt (b := false) (by show _ ↔ edge ca da ≤ (rdS L4 i).f0; first | exact iff_of_true rfl (by omega) | exact iff_of_false (by simp) (by omega)))))
              try go_wp2
              go_roundw
              case rel => exact ⟨i + 1, by omega, by go_num, ⟨by repeat (first | (with_reducible first | exact HY.out | apply below_alloc | apply pw_below_drewN | apply below_drew1) | exact HY.out)⟩⟩
              case measure => simp [intOf]; omega
          · have ei : i = L4.length := by omega
            subst ei
            have hz : ¬ (L4.length : Int) < (L4.length : Int) := by omega
            have HB := Aside0.mk (below_step HB.out HY.out)
            by_cases z7 : c7 = 0
            · subst z7
              have k0 := ringOf_in E6.out
              by_cases z1 : c1 = 0
              · subst z1
                obtain ⟨f0, f1⟩ := capEdge_in E1.out
                go_wp2
                go_ret
                exact ⟨by first | rfl | (simp; done), by repeat (first | (with_reducible first | exact HB.out | apply below_alloc | apply pw_below_drewN | apply below_drew1) | exact HB.out)⟩
              · have z1' : (c1 == 0) = false := by simp [z1]
                go_wp2
                go_ret
                exact ⟨by first | rfl | (simp; done), by repeat (first | (with_reducible first | exact HB.out | apply below_alloc | apply pw_below_drewN | apply below_drew1) | exact HB.out)⟩
            · have z7' : (c7 == 0) = false := by simp [z7]
              by_cases z1 : c1 = 0
              · subst z1
                obtain ⟨f0, f1⟩ := capEdge_in E1.out
                go_wp2
                go_ret
                exact ⟨by first | rfl | (simp; done), by repeat (first | (with_reducible first | exact HB.out | apply below_alloc | apply pw_below_drewN | apply below_drew1) | exact HB.out)⟩
              · have z1' : (c1 == 0) = false := by simp [z1]
                go_wp2
                go_ret
                exact ⟨by first | rfl | (simp; done), by repeat (first | (with_reducible first | exact HB.out | apply below_alloc | apply pw_below_drewN | apply below_drew1) | exact HB.out)⟩
      · have z5' : (c5 == 0) = false := by simp [z5]
        by_cases z7 : c7 = 0
        · subst z7
          have k0 := ringOf_in E6.out
          by_cases z1 : c1 = 0
          · subst z1
            obtain ⟨f0, f1⟩ := capEdge_in E1.out
            go_wp2
            go_ret
            exact ⟨by first | rfl | (simp; done), by repeat (first | (with_reducible first | exact HB.out | apply below_alloc | apply pw_below_drewN | apply below_drew1) | exact HB.out)⟩
          · have z1' : (c1 == 0) = false := by simp [z1]
            go_wp2
            go_ret
            exact ⟨by first | rfl | (simp; done), by repeat (first | (with_reducible first | exact HB.out | apply below_alloc | apply pw_below_drewN | apply below_drew1) | exact HB.out)⟩
        · have z7' : (c7 == 0) = false := by simp [z7]
          by_cases z1 : c1 = 0
          · subst z1
            obtain ⟨f0, f1⟩ := capEdge_in E1.out
            go_wp2
            go_ret
            exact ⟨by first | rfl | (simp; done), by repeat (first | (with_reducible first | exact HB.out | apply below_alloc | apply pw_below_drewN | apply below_drew1) | exact HB.out)⟩
          · have z1' : (c1 == 0) = false := by simp [z1]
            go_wp2
            go_ret
            exact ⟨by first | rfl | (simp; done), by repeat (first | (with_reducible first | exact HB.out | apply below_alloc | apply pw_below_drewN | apply below_drew1) | exact HB.out)⟩
end Go.Proofs.Ytkfbbaaniglaeaa.Con
