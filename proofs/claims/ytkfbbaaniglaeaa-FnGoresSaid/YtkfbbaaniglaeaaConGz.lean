/- The statement on gores. Conditions: as stated. -/
import Derived.Test.YtkfbbaaniglaeaaConGw
import Derived.IntWalk
import Derived.Deep.RegionHeld3
namespace Go.Proofs.Ytkfbbaaniglaeaa.Con
open Go.RowKit Go.Proofs.YtkfbbaaniglaeaaW.PrintWords Go.Proofs.YtkfbbaaniglaeaaW.PrintLast Go.Proofs.YtkfbbaaniglaeaaW.PrintMore Go.Proofs.Ytkfbbaaniglaeaa.Mth
attribute [local go_sem] max2_int min2_int max_two min_two max_three min_three
set_option linter.unusedVariables false
set_option linter.unusedSimpArgs false
set_option maxHeartbeats 6000000 in
set_option maxRecDepth 100000 in
theorem FnGores_c {A : Option Addr} {nn c : Nat} {xs : List Int} (w : World) (hr : ReadsInt w .u8 A nn xs) (hx : ∀ x ∈ xs, 0 ≤ x ∧ x ≤ 255) (hc : nn ≤ c) : Calls Try.prog 12 #[.slice A nn c] w fun e w' => e = .returned (.bool true) ∧ Below w.heap.size w w' := by
  obtain rfl : xs.length = nn := hr.1
  have HB := Aside0.mk (Below.refl w.heap.size w)
  have hr := Aside0.mk hr
  rcases dec (4096 < xs.length) with ⟨h, bb⟩ | ⟨h, bb⟩
  · clear h
    go_enter Try.func12, Try.ntmps12
    go_wp2_with (first | (go_at_call 44; (first | (with_reducible refine (f6big_c _ bb.out).mono ?_)); rintro e w' ⟨rfl, ⟨nd, rfl⟩⟩))
    go_ret
    exact ⟨rfl, (by repeat (first | (with_reducible first | exact HB.out | apply below_alloc | apply pw_below_drewN | apply below_drew1) | exact HB.out))⟩
  · clear h
    obtain ⟨g, x, y, dO⟩ := goreOf_t hx
    obtain ⟨a, n, s, dW⟩ := widths_t hx
    obtain ⟨b, M, dT, hM⟩ := touch_t hx
    obtain ⟨p, q, dM⟩ := middle_t hx
    obtain ⟨⟨k1, c1⟩, E1⟩ : ∃ v, RGoreOf g x y = v := ⟨_, rfl⟩
    obtain ⟨⟨sp, c2⟩, E2⟩ : ∃ v, RGoreSpan g = v := ⟨_, rfl⟩
    obtain ⟨⟨L3, c3⟩, E3⟩ : ∃ v, RGoreWidths a n s = v := ⟨_, rfl⟩
    obtain ⟨⟨L4, c4⟩, E4⟩ : ∃ v, RGoresTouched b M = v := ⟨_, rfl⟩
    obtain ⟨⟨m5, c5⟩, E5⟩ : ∃ v, RGoreMiddle p q = v := ⟨_, rfl⟩
    have hO1 := fun W => impl_GoreOf_c (g := g) (a := x) (b := y) W
    have hO2 := fun W => spec_GoreOf_c (g := g) (a := x) (b := y) W
    rw [E1] at hO1 hO2
    have hS1 := fun W => impl_GoreSpan_c (g := g) W
    have hS2 := fun W => spec_GoreSpan_c (g := g) W
    rw [E2] at hS1 hS2
    have hW1 := fun W => impl_GoreWidths_l a n s W
    have hW2 := fun W => spec_GoreWidths_l a n s W
    rw [E3] at hW1 hW2
    have hT1 := fun W A k (h : Kd.C kSp W A M.length M) => impl_GoresTouched_l (c := k) (gores := b) W h
    have hT2 := fun W A k (h : Kd.C kSp W A M.length M) (hk : M.length ≤ k) => spec_GoresTouched_l (gores := b) W h hk
    rw [E4] at hT1 hT2
    have hM1 := fun W => impl_GoreMiddle_c (g := p) (k := q) W
    have hM2 := fun W => spec_GoreMiddle_c (g := p) (k := q) W
    rw [E5] at hM1 hM2
    obtain ⟨vb, vg⟩ : ∃ v, decide (gOk g) = v := ⟨_, rfl⟩
    have hV := fun W => PFnExactUnderCap.spec_ValidGores.calls g vb W (by show ((PFnExactUnderCap.spec_l04Ok.f g).bind _) = _; rw [l04_f, vg]; rfl)
    have l3b : L3.length ≤ 100000 := by have := RGoreWidths_len a n s; rw [E3] at this; exact Nat.le_trans this (by decide)
    have l4b : L4.length ≤ 100000 := by have := RGoresTouched_len b M; rw [E4] at this; exact Nat.le_trans this (by decide)
    have l4c : L4.length ≤ 1000 := by have := RGoresTouched_len b M; rw [E4] at this; exact Nat.le_trans this (by decide)
    replace dO := Aside0.mk dO
    replace dW := Aside0.mk dW
    replace dT := Aside0.mk dT
    replace dM := Aside0.mk dM
    replace hO1 := Aside0.mk hO1
    replace hO2 := Aside0.mk hO2
    replace hS1 := Aside0.mk hS1
    replace hS2 := Aside0.mk hS2
    replace hW1 := Aside0.mk hW1
    replace hW2 := Aside0.mk hW2
    replace hT1 := Aside0.mk hT1
    replace hT2 := Aside0.mk hT2
    replace hM1 := Aside0.mk hM1
    replace hM2 := Aside0.mk hM2
    replace vg := Aside0.mk vg
    replace hV := Aside0.mk hV
    replace E1 := Aside0.mk E1
    replace E2 := Aside0.mk E2
    replace E3 := Aside0.mk E3
    replace E4 := Aside0.mk E4
    clear E5
    go_enter Try.func12, Try.ntmps12
    go_wp2_with (first | (go_at_call 44; (first | (with_reducible refine (f6big_c _ bb.out).mono ?_)); rintro e w' ⟨rfl, ⟨nd, rfl⟩⟩) | (go_at_call 88; (with_reducible refine (PFnExactUnderCap.spec_DrawGoreOf.calls 6 A c xs g x y _ (C_of_reads (hr.out.below (by repeat (first | (with_reducible first | exact HB.out | apply below_alloc | apply pw_below_drewN | apply below_drew1) | exact HB.out)))) hc dO.out).mono ?_); rintro e w1 ⟨rfl, hb⟩; have n0_ := Aside0.mk (below_step (by repeat (first | (with_reducible first | exact HB.out | apply below_alloc | apply pw_below_drewN | apply below_drew1) | exact HB.out)) hb); clear HB; have HB := n0_; clear n0_; clear hb) | ((with_reducible refine gate_dst (N := 4) rfl ?_); refine box_event ?hg (N := 4) ?hd (cs := #[.int .i64 0, .int .i64 0]) (t := 52) ?hr ?_; (case hd => rfl); (case hg => rfl); (case hr => first | (go_simp; done) | (go_simp; rfl)); intro gb4 hg w2 hbox hb; have n0_ := Aside0.mk (below_step (by repeat (first | (with_reducible first | exact HB.out | apply below_alloc | apply pw_below_drewN | apply below_drew1) | exact HB.out)) hb); have n1_ := Aside0.mk (hbox); have n2_ := Aside0.mk ((by rw [hg]; exact (below_size (by repeat (first | (with_reducible first | exact HB.out | apply below_alloc | apply pw_below_drewN | apply below_drew1) | exact HB.out))) : w.heap.size ≤ gb4)); clear HB; have HB := n0_; have BK4 := n1_; have GE4 := n2_; clear n0_ n1_ n2_; clear hb hbox hg; have hcz0 : w2.cell? ⟨gb4, 0, none⟩ = some (.int .i64 0) := (blk_cell BK4.out 0).trans rfl; have hfz0 := blk_frozen BK4.out 0; have hcz1 : w2.cell? ⟨gb4, 1, none⟩ = some (.int .i64 0) := (blk_cell BK4.out 1).trans rfl; have hfz1 := blk_frozen BK4.out 1) | (go_at_call 89; (with_reducible refine (hO1.out _).mono ?_); rintro e w3 ⟨rfl, hb⟩; have n0_ := Aside0.mk (below_step (by repeat (first | (with_reducible first | exact HB.out | apply below_alloc | apply pw_below_drewN | apply below_drew1 | refine below_set ?_ GE4.out) | exact HB.out)) hb); have n1_ := Aside0.mk (blk_below (g := gb4) (o := .cells #[.int .i64 x, .int .i64 y] 52 (0, 0)) (by (with_reducible repeat (first | refine blk_drewN ?_ _ | refine blk_drew ?_ | refine blk_alloc ?_ _)); first | exact BK4.out | (refine blk_put (cs := #[.int .i64 x, .int .i64 0]) ?_ 1 _ rfl; (with_reducible repeat (first | refine blk_drewN ?_ _ | refine blk_drew ?_ | refine blk_alloc ?_ _)); refine blk_put (cs := #[.int .i64 0, .int .i64 0]) ?_ 0 _ rfl; (with_reducible repeat (first | refine blk_drewN ?_ _ | refine blk_drew ?_ | refine blk_alloc ?_ _)); exact BK4.out)) hb); clear HB; clear BK4; have HB := n0_; have BK4 := n1_; clear n0_ n1_; clear hb; have hcz0 : w3.cell? ⟨gb4, 0, none⟩ = some (.int .i64 x) := (blk_cell BK4.out 0).trans rfl; have hfz0 := blk_frozen BK4.out 0; have hcz1 : w3.cell? ⟨gb4, 1, none⟩ = some (.int .i64 y) := (blk_cell BK4.out 1).trans rfl; have hfz1 := blk_frozen BK4.out 1) | (go_at_call 90; (with_reducible refine (hO2.out _).mono ?_); rintro e w4 ⟨rfl, hb⟩; have n0_ := Aside0.mk (below_step (by repeat (first | (with_reducible first | exact HB.out | apply below_alloc | apply pw_below_drewN | apply below_drew1 | refine below_set ?_ GE4.out) | exact HB.out)) hb); have n1_ := Aside0.mk (blk_below (g := gb4) (o := .cells #[.int .i64 x, .int .i64 y] 52 (0, 0)) (by (with_reducible repeat (first | refine blk_drewN ?_ _ | refine blk_drew ?_ | refine blk_alloc ?_ _)); first | exact BK4.out | (refine blk_put (cs := #[.int .i64 x, .int .i64 0]) ?_ 1 _ rfl; (with_reducible repeat (first | refine blk_drewN ?_ _ | refine blk_drew ?_ | refine blk_alloc ?_ _)); refine blk_put (cs := #[.int .i64 0, .int .i64 0]) ?_ 0 _ rfl; (with_reducible repeat (first | refine blk_drewN ?_ _ | refine blk_drew ?_ | refine blk_alloc ?_ _)); exact BK4.out)) hb); clear HB; clear BK4; have HB := n0_; have BK4 := n1_; clear n0_ n1_; clear hb) | (go_at_call 91; (first | (with_reducible refine (hS1.out _).mono ?_)); rintro e w' ⟨rfl, ⟨nd, rfl⟩⟩) | (go_at_call 92; (first | (with_reducible refine (hS2.out _).mono ?_)); rintro e w' ⟨rfl, ⟨nd, rfl⟩⟩) | (go_at_call 93; (with_reducible refine (PFnExactUnderCap.spec_DrawGoreWidths.calls A c xs a n s _ (C_of_reads (hr.out.below (by repeat (first | (with_reducible first | exact HB.out | apply below_alloc | apply pw_below_drewN | apply below_drew1 | refine below_set ?_ GE4.out) | exact HB.out)))) hc dW.out).mono ?_); rintro e w5 ⟨rfl, hb⟩; have n0_ := Aside0.mk (below_step (by repeat (first | (with_reducible first | exact HB.out | apply below_alloc | apply pw_below_drewN | apply below_drew1 | refine below_set ?_ GE4.out) | exact HB.out)) hb); have n1_ := Aside0.mk (blk_below (g := gb4) (o := .cells #[.int .i64 x, .int .i64 y] 52 (0, 0)) (by (with_reducible repeat (first | refine blk_drewN ?_ _ | refine blk_drew ?_ | refine blk_alloc ?_ _)); first | exact BK4.out | (refine blk_put (cs := #[.int .i64 x, .int .i64 0]) ?_ 1 _ rfl; (with_reducible repeat (first | refine blk_drewN ?_ _ | refine blk_drew ?_ | refine blk_alloc ?_ _)); refine blk_put (cs := #[.int .i64 0, .int .i64 0]) ?_ 0 _ rfl; (with_reducible repeat (first | refine blk_drewN ?_ _ | refine blk_drew ?_ | refine blk_alloc ?_ _)); exact BK4.out)) hb); clear HB; clear BK4; have HB := n0_; have BK4 := n1_; clear n0_ n1_; clear hb) | (go_at_call 94; (with_reducible refine (hW1.out _).mono ?_); rintro e w6 ⟨u3, rfl, hL, hb⟩; obtain ⟨B3, d3, e2⟩ := Kd.R_slice hL; subst e2; have q3 : L3.length ≤ d3 := (Kd.R_reads' hL).2.1; have C3 := Aside0.mk (Kd.R_reads' hL).2.2; clear hL; have n0_ := Aside0.mk (below_step (by repeat (first | (with_reducible first | exact HB.out | apply below_alloc | apply pw_below_drewN | apply below_drew1 | refine below_set ?_ GE4.out) | exact HB.out)) hb); have n1_ := Aside0.mk (blk_below (g := gb4) (o := .cells #[.int .i64 x, .int .i64 y] 52 (0, 0)) (by (with_reducible repeat (first | refine blk_drewN ?_ _ | refine blk_drew ?_ | refine blk_alloc ?_ _)); first | exact BK4.out | (refine blk_put (cs := #[.int .i64 x, .int .i64 0]) ?_ 1 _ rfl; (with_reducible repeat (first | refine blk_drewN ?_ _ | refine blk_drew ?_ | refine blk_alloc ?_ _)); refine blk_put (cs := #[.int .i64 0, .int .i64 0]) ?_ 0 _ rfl; (with_reducible repeat (first | refine blk_drewN ?_ _ | refine blk_drew ?_ | refine blk_alloc ?_ _)); exact BK4.out)) hb); clear HB; clear BK4; have HB := n0_; have BK4 := n1_; clear n0_ n1_; clear hb) | (go_at_call 95; (with_reducible refine (hW2.out _).mono ?_); rintro e w7 ⟨u5, rfl, hL, hb⟩; obtain ⟨B5, d5, e2⟩ := Kd.R_slice hL; subst e2; have q5 : L3.length ≤ d5 := (Kd.R_reads' hL).2.1; have C5 := Aside0.mk (Kd.R_reads' hL).2.2; clear hL; have n0_ := Aside0.mk (below_step (by repeat (first | (with_reducible first | exact HB.out | apply below_alloc | apply pw_below_drewN | apply below_drew1 | refine below_set ?_ GE4.out) | exact HB.out)) hb); have n1_ := Aside0.mk (blk_below (g := gb4) (o := .cells #[.int .i64 x, .int .i64 y] 52 (0, 0)) (by (with_reducible repeat (first | refine blk_drewN ?_ _ | refine blk_drew ?_ | refine blk_alloc ?_ _)); first | exact BK4.out | (refine blk_put (cs := #[.int .i64 x, .int .i64 0]) ?_ 1 _ rfl; (with_reducible repeat (first | refine blk_drewN ?_ _ | refine blk_drew ?_ | refine blk_alloc ?_ _)); refine blk_put (cs := #[.int .i64 0, .int .i64 0]) ?_ 0 _ rfl; (with_reducible repeat (first | refine blk_drewN ?_ _ | refine blk_drew ?_ | refine blk_alloc ?_ _)); exact BK4.out)) hb); have n2_ := Aside0.mk (Kd.C_below (Kd.C_below C3.out (by repeat (first | (with_reducible first | exact Below.refl _ _ | apply below_alloc | apply pw_below_drewN | apply below_drew1) | exact Below.refl _ _))) hb); clear HB; clear BK4; clear C3; have HB := n0_; have BK4 := n1_; have C3 := n2_; clear n0_ n1_ n2_; clear hb) | (go_at_call 96; (with_reducible refine (PFnExactUnderCap.spec_DrawGoresTouched.calls 2000 A c xs b M _ (C_of_reads (hr.out.below (by repeat (first | (with_reducible first | exact HB.out | apply below_alloc | apply pw_below_drewN | apply below_drew1 | refine below_set ?_ GE4.out) | exact HB.out)))) hc dT.out).mono ?_); rintro e w8 ⟨u0, rfl, hL, hb⟩; obtain ⟨B0, d0, e2⟩ := Kd.R_slice hL; subst e2; have q0 : M.length ≤ d0 := (Kd.R_reads' hL).2.1; have C0 := Aside0.mk (Kd.R_reads' hL).2.2; clear hL; have n0_ := Aside0.mk (below_step (by repeat (first | (with_reducible first | exact HB.out | apply below_alloc | apply pw_below_drewN | apply below_drew1 | refine below_set ?_ GE4.out) | exact HB.out)) hb); have n1_ := Aside0.mk (blk_below (g := gb4) (o := .cells #[.int .i64 x, .int .i64 y] 52 (0, 0)) (by (with_reducible repeat (first | refine blk_drewN ?_ _ | refine blk_drew ?_ | refine blk_alloc ?_ _)); first | exact BK4.out | (refine blk_put (cs := #[.int .i64 x, .int .i64 0]) ?_ 1 _ rfl; (with_reducible repeat (first | refine blk_drewN ?_ _ | refine blk_drew ?_ | refine blk_alloc ?_ _)); refine blk_put (cs := #[.int .i64 0, .int .i64 0]) ?_ 0 _ rfl; (with_reducible repeat (first | refine blk_drewN ?_ _ | refine blk_drew ?_ | refine blk_alloc ?_ _)); exact BK4.out)) hb); have n2_ := Aside0.mk (Kd.C_below (Kd.C_below C3.out (by repeat (first | (with_reducible first | exact Below.refl _ _ | apply below_alloc | apply pw_below_drewN | apply below_drew1) | exact Below.refl _ _))) hb); have n3_ := Aside0.mk (Kd.C_below (Kd.C_below C5.out (by repeat (first | (with_reducible first | exact Below.refl _ _ | apply below_alloc | apply pw_below_drewN | apply below_drew1) | exact Below.refl _ _))) hb); clear HB; clear BK4; clear C3; clear C5; have HB := n0_; have BK4 := n1_; have C3 := n2_; have C5 := n3_; clear n0_ n1_ n2_ n3_; clear hb) | (go_at_call 32; (with_reducible refine (hT1.out _ _ _ (Kd.C_below C0.out (by repeat (first | (with_reducible first | exact Below.refl _ _ | apply below_alloc | apply pw_below_drewN | apply below_drew1) | exact Below.refl _ _)))).mono ?_); rintro e w9 ⟨u4, rfl, hL, hb⟩; obtain ⟨B4, d4, e2⟩ := Kd.R_slice hL; subst e2; have q4 : L4.length ≤ d4 := (Kd.R_reads' hL).2.1; have C4 := Aside0.mk (Kd.R_reads' hL).2.2; clear hL; have n0_ := Aside0.mk (below_step (by repeat (first | (with_reducible first | exact HB.out | apply below_alloc | apply pw_below_drewN | apply below_drew1 | refine below_set ?_ GE4.out) | exact HB.out)) hb); have n1_ := Aside0.mk (blk_below (g := gb4) (o := .cells #[.int .i64 x, .int .i64 y] 52 (0, 0)) (by (with_reducible repeat (first | refine blk_drewN ?_ _ | refine blk_drew ?_ | refine blk_alloc ?_ _)); first | exact BK4.out | (refine blk_put (cs := #[.int .i64 x, .int .i64 0]) ?_ 1 _ rfl; (with_reducible repeat (first | refine blk_drewN ?_ _ | refine blk_drew ?_ | refine blk_alloc ?_ _)); refine blk_put (cs := #[.int .i64 0, .int .i64 0]) ?_ 0 _ rfl; (with_reducible repeat (first | refine blk_drewN ?_ _ | refine blk_drew ?_ | refine blk_alloc ?_ _)); exact BK4.out)) hb); have n2_ := Aside0.mk (Kd.C_below (Kd.C_below C3.out (by repeat (first | (with_reducible first | exact Below.refl _ _ | apply below_alloc | apply pw_below_drewN | apply below_drew1) | exact Below.refl _ _))) hb); have n3_ := Aside0.mk (Kd.C_below (Kd.C_below C5.out (by repeat (first | (with_reducible first | exact Below.refl _ _ | apply below_alloc | apply pw_below_drewN | apply below_drew1) | exact Below.refl _ _))) hb); have n4_ := Aside0.mk (Kd.C_below (Kd.C_below C0.out (by repeat (first | (with_reducible first | exact Below.refl _ _ | apply below_alloc | apply pw_below_drewN | apply below_drew1) | exact Below.refl _ _))) hb); clear HB; clear BK4; clear C3; clear C5; clear C0; have HB := n0_; have BK4 := n1_; have C3 := n2_; have C5 := n3_; have C0 := n4_; clear n0_ n1_ n2_ n3_ n4_; clear hb) | (go_at_call 31; (with_reducible refine (hT2.out _ _ _ (Kd.C_below C0.out (by repeat (first | (with_reducible first | exact Below.refl _ _ | apply below_alloc | apply pw_below_drewN | apply below_drew1) | exact Below.refl _ _))) q0).mono ?_); rintro e w10 ⟨u6, rfl, hL, hb⟩; obtain ⟨B6, d6, e2⟩ := Kd.R_slice hL; subst e2; have q6 : L4.length ≤ d6 := (Kd.R_reads' hL).2.1; have C6 := Aside0.mk (Kd.R_reads' hL).2.2; clear hL; have n0_ := Aside0.mk (below_step (by repeat (first | (with_reducible first | exact HB.out | apply below_alloc | apply pw_below_drewN | apply below_drew1 | refine below_set ?_ GE4.out) | exact HB.out)) hb); have n1_ := Aside0.mk (blk_below (g := gb4) (o := .cells #[.int .i64 x, .int .i64 y] 52 (0, 0)) (by (with_reducible repeat (first | refine blk_drewN ?_ _ | refine blk_drew ?_ | refine blk_alloc ?_ _)); first | exact BK4.out | (refine blk_put (cs := #[.int .i64 x, .int .i64 0]) ?_ 1 _ rfl; (with_reducible repeat (first | refine blk_drewN ?_ _ | refine blk_drew ?_ | refine blk_alloc ?_ _)); refine blk_put (cs := #[.int .i64 0, .int .i64 0]) ?_ 0 _ rfl; (with_reducible repeat (first | refine blk_drewN ?_ _ | refine blk_drew ?_ | refine blk_alloc ?_ _)); exact BK4.out)) hb); have n2_ := Aside0.mk (Kd.C_below (Kd.C_below C3.out (by repeat (first | (with_reducible first | exact Below.refl _ _ | apply below_alloc | apply pw_below_drewN | apply below_drew1) | exact Below.refl _ _))) hb); have n3_ := Aside0.mk (Kd.C_below (Kd.C_below C5.out (by repeat (first | (with_reducible first | exact Below.refl _ _ | apply below_alloc | apply pw_below_drewN | apply below_drew1) | exact Below.refl _ _))) hb); have n4_ := Aside0.mk (Kd.C_below (Kd.C_below C0.out (by repeat (first | (with_reducible first | exact Below.refl _ _ | apply below_alloc | apply pw_below_drewN | apply below_drew1) | exact Below.refl _ _))) hb); have n5_ := Aside0.mk (Kd.C_below (Kd.C_below C4.out (by repeat (first | (with_reducible first | exact Below.refl _ _ | apply below_alloc | apply pw_below_drewN | apply below_drew1) | exact Below.refl _ _))) hb); clear HB; clear BK4; clear C3; clear C5; clear C0; clear C4; have HB := n0_; have BK4 := n1_; have C3 := n2_; have C5 := n3_; have C0 := n4_; have C4 := n5_; clear n0_ n1_ n2_ n3_ n4_ n5_; clear hb) | (go_at_call 97; (with_reducible refine (PFnExactUnderCap.spec_DrawGoreMiddle.calls A c xs p q _ (C_of_reads (hr.out.below (by repeat (first | (with_reducible first | exact HB.out | apply below_alloc | apply pw_below_drewN | apply below_drew1 | refine below_set ?_ GE4.out) | exact HB.out)))) hc dM.out).mono ?_); rintro e w11 ⟨rfl, hb⟩; have n0_ := Aside0.mk (below_step (by repeat (first | (with_reducible first | exact HB.out | apply below_alloc | apply pw_below_drewN | apply below_drew1 | refine below_set ?_ GE4.out) | exact HB.out)) hb); have n1_ := Aside0.mk (blk_below (g := gb4) (o := .cells #[.int .i64 x, .int .i64 y] 52 (0, 0)) (by (with_reducible repeat (first | refine blk_drewN ?_ _ | refine blk_drew ?_ | refine blk_alloc ?_ _)); first | exact BK4.out | (refine blk_put (cs := #[.int .i64 x, .int .i64 0]) ?_ 1 _ rfl; (with_reducible repeat (first | refine blk_drewN ?_ _ | refine blk_drew ?_ | refine blk_alloc ?_ _)); refine blk_put (cs := #[.int .i64 0, .int .i64 0]) ?_ 0 _ rfl; (with_reducible repeat (first | refine blk_drewN ?_ _ | refine blk_drew ?_ | refine blk_alloc ?_ _)); exact BK4.out)) hb); have n2_ := Aside0.mk (Kd.C_below (Kd.C_below C3.out (by repeat (first | (with_reducible first | exact Below.refl _ _ | apply below_alloc | apply pw_below_drewN | apply below_drew1) | exact Below.refl _ _))) hb); have n3_ := Aside0.mk (Kd.C_below (Kd.C_below C5.out (by repeat (first | (with_reducible first | exact Below.refl _ _ | apply below_alloc | apply pw_below_drewN | apply below_drew1) | exact Below.refl _ _))) hb); have n4_ := Aside0.mk (Kd.C_below (Kd.C_below C0.out (by repeat (first | (with_reducible first | exact Below.refl _ _ | apply below_alloc | apply pw_below_drewN | apply below_drew1) | exact Below.refl _ _))) hb); have n5_ := Aside0.mk (Kd.C_below (Kd.C_below C4.out (by repeat (first | (with_reducible first | exact Below.refl _ _ | apply below_alloc | apply pw_below_drewN | apply below_drew1) | exact Below.refl _ _))) hb); have n6_ := Aside0.mk (Kd.C_below (Kd.C_below C6.out (by repeat (first | (with_reducible first | exact Below.refl _ _ | apply below_alloc | apply pw_below_drewN | apply below_drew1) | exact Below.refl _ _))) hb); clear HB; clear BK4; clear C3; clear C5; clear C0; clear C4; clear C6; have HB := n0_; have BK4 := n1_; have C3 := n2_; have C5 := n3_; have C0 := n4_; have C4 := n5_; have C6 := n6_; clear n0_ n1_ n2_ n3_ n4_ n5_ n6_; clear hb) | (go_at_call 98; (first | (with_reducible refine (hM1.out _).mono ?_)); rintro e w' ⟨rfl, ⟨nd, rfl⟩⟩) | (go_at_call 99; (first | (with_reducible refine (hM2.out _).mono ?_)); rintro e w' ⟨rfl, ⟨nd, rfl⟩⟩) | (go_at_call 86; (first | (with_reducible refine (f6ints_c _ (Kd.C_below C3.out (by repeat (first | (with_reducible first | exact Below.refl _ _ | apply below_alloc | apply pw_below_drewN | apply below_drew1) | exact Below.refl _ _))) q3 (Kd.C_below C5.out (by repeat (first | (with_reducible first | exact Below.refl _ _ | apply below_alloc | apply pw_below_drewN | apply below_drew1) | exact Below.refl _ _))) q5 l3b).mono ?_) | (with_reducible refine (f6ints_c _ (Kd.C_below C4.out (by repeat (first | (with_reducible first | exact Below.refl _ _ | apply below_alloc | apply pw_below_drewN | apply below_drew1) | exact Below.refl _ _))) q4 (Kd.C_below C6.out (by repeat (first | (with_reducible first | exact Below.refl _ _ | apply below_alloc | apply pw_below_drewN | apply below_drew1) | exact Below.refl _ _))) q6 l4b).mono ?_)); rintro e w' ⟨rfl, ⟨nd, rfl⟩⟩) | (go_at_call 100; (first | (with_reducible refine (impl_ValidGores_c _ vg.out).mono ?_)); rintro e w' ⟨rfl, ⟨nd, rfl⟩⟩) | (go_at_call 101; (with_reducible refine (hV.out _).mono ?_); rintro e V ⟨rfl, hd⟩; have hb := hd.below; clear hd; have n0_ := Aside0.mk (below_step (by repeat (first | (with_reducible first | exact HB.out | apply below_alloc | apply pw_below_drewN | apply below_drew1 | refine below_set ?_ GE4.out) | exact HB.out)) hb); have n1_ := Aside0.mk (blk_below (g := gb4) (o := .cells #[.int .i64 x, .int .i64 y] 52 (0, 0)) (by (with_reducible repeat (first | refine blk_drewN ?_ _ | refine blk_drew ?_ | refine blk_alloc ?_ _)); first | exact BK4.out | (refine blk_put (cs := #[.int .i64 x, .int .i64 0]) ?_ 1 _ rfl; (with_reducible repeat (first | refine blk_drewN ?_ _ | refine blk_drew ?_ | refine blk_alloc ?_ _)); refine blk_put (cs := #[.int .i64 0, .int .i64 0]) ?_ 0 _ rfl; (with_reducible repeat (first | refine blk_drewN ?_ _ | refine blk_drew ?_ | refine blk_alloc ?_ _)); exact BK4.out)) hb); have n2_ := Aside0.mk (Kd.C_below (Kd.C_below C3.out (by repeat (first | (with_reducible first | exact Below.refl _ _ | apply below_alloc | apply pw_below_drewN | apply below_drew1) | exact Below.refl _ _))) hb); have n3_ := Aside0.mk (Kd.C_below (Kd.C_below C5.out (by repeat (first | (with_reducible first | exact Below.refl _ _ | apply below_alloc | apply pw_below_drewN | apply below_drew1) | exact Below.refl _ _))) hb); have n4_ := Aside0.mk (Kd.C_below (Kd.C_below C0.out (by repeat (first | (with_reducible first | exact Below.refl _ _ | apply below_alloc | apply pw_below_drewN | apply below_drew1) | exact Below.refl _ _))) hb); have n5_ := Aside0.mk (Kd.C_below (Kd.C_below C4.out (by repeat (first | (with_reducible first | exact Below.refl _ _ | apply below_alloc | apply pw_below_drewN | apply below_drew1) | exact Below.refl _ _))) hb); have n6_ := Aside0.mk (Kd.C_below (Kd.C_below C6.out (by repeat (first | (with_reducible first | exact Below.refl _ _ | apply below_alloc | apply pw_below_drewN | apply below_drew1) | exact Below.refl _ _))) hb); clear HB; clear BK4; clear C3; clear C5; clear C0; clear C4; clear C6; have HB := n0_; have BK4 := n1_; have C3 := n2_; have C5 := n3_; have C0 := n4_; have C4 := n5_; have C6 := n6_; clear n0_ n1_ n2_ n3_ n4_ n5_ n6_; clear hb))
    clear C3 C4 q3 q4 q5
    have HY := Aside0.mk (Below.refl V.heap.size V)
    have E3i := Aside0.mk (widths_in E3.out)
    go_loopw [32] (fun k wr => ∃ i : Nat, 1 ≤ i ∧ (i ≤ L3.length ∨ i = 1) ∧ k = .int .i64 i ∧ Aside0 (Below V.heap.size V wr)) (fun k _ => ((L3.length : Int) - intOf k).toNat)
    case atStart => exact ⟨1, by omega, Or.inr rfl, rfl, ⟨(by repeat (first | (with_reducible first | exact HY.out | apply below_alloc | apply pw_below_drewN | apply below_drew1) | exact HY.out))⟩⟩
    case round =>
      clear HY
      obtain ⟨i, i1, hi, rfl, HY⟩ := hrel
      by_cases hlt : i < L3.length
      · have hz : (i : Int) < (L3.length : Int) := by omega
        obtain ⟨ad, e1', x0⟩ := Kd.at_int (Kd.C_below C5.out HY.out) (i : Int) (by omega) hz
        subst e1'
        obtain ⟨ad', e2', x1⟩ := Kd.at_int (Kd.C_below C5.out HY.out) ((i : Int) - 1) (by omega) (by omega)
        obtain rfl : ad = ad' := by injection e2'
        clear e2'
        obtain ⟨t0, t1⟩ := E3i.out i i1 hlt
        have i2 : 0 ≤ (i : Int) - 1 := by omega
        have i4 : (i : Int) - 1 < (L3.length : Int) := by omega
        have k2 : IntKind.i64.wrap ((i : Int) - 1) = (i : Int) - 1 := IntWalk.i64_in _ (by omega)
        have k3 : IntKind.i64.wrap ((i : Int) + 1) = (i : Int) + 1 := IntWalk.i64_in _ (by omega)
        have t2 : ¬ rd L3 ((i : Int) - 1) < rd L3 (i : Int) := by omega
        have t3 : ¬ rd L3 (i : Int) < 0 := by omega
        clear t0 t1
        rw [Int.toNat_natCast] at x0
        rw [show ((i : Int) - 1).toNat = i - 1 by omega] at x1
        generalize rd L3 (i : Int) = v1 at *
        generalize rd L3 ((i : Int) - 1) = v0 at *
        have D1 : decide (v0 < v1) = false := decide_eq_false t2
        have D2 : decide (v1 < 0) = false := decide_eq_false t3
        go_wp2
        go_quiet (fail)
        go_wp2
        go_roundw
        case rel => exact ⟨i + 1, by omega, Or.inl (by omega), by go_num, ⟨(by repeat (first | (with_reducible first | exact HY.out | apply below_alloc | apply pw_below_drewN | apply below_drew1) | exact HY.out))⟩⟩
        case measure => simp [intOf]; omega
      · have hz : ¬ (i : Int) < (L3.length : Int) := by omega
        have HB := Aside0.mk (below_step HB.out HY.out)
        have BK4 := Aside0.mk (blk_below BK4.out HY.out)
        have C0 := Aside0.mk (Kd.C_below C0.out HY.out)
        have C6 := Aside0.mk (Kd.C_below C6.out HY.out)
        clear HY
        by_cases z4 : c4 = 0
        · subst z4
          obtain ⟨t1, t2, t3, t4⟩ := touched_in E4.out
          have t2 := Aside0.mk ((okL_iff M).1 t2)
          have t4 := Aside0.mk t4
          have HY := Aside0.mk (Below.refl wr.heap.size wr)
          go_wp2_with (fail)
          go_loopw [33] (fun k ws => ∃ i : Nat, i ≤ M.length ∧ k = .int .i64 i ∧ Aside0 (Below wr.heap.size wr ws)) (fun k _ => ((M.length : Int) - intOf k).toNat)
          case atStart => exact ⟨0, by omega, rfl, ⟨(by repeat (first | (with_reducible first | exact HY.out | apply below_alloc | apply pw_below_drewN | apply below_drew1) | exact HY.out))⟩⟩
          case round =>
            clear HY
            obtain ⟨i, hi, rfl, HY⟩ := hrel
            by_cases hlt : i < M.length
            · have hz : (i : Int) < (M.length : Int) := by omega
              obtain ⟨ad, e1', x0, x1⟩ := PFnExactUnderCap.at_T52 (Kd.C_below C0.out HY.out) (i : Int) (by omega) hz
              subst e1'
              rw [Int.toNat_natCast] at x0 x1
              have ok := t2.out i hlt
              have hin := Aside0.mk (t4.out i hlt)
              have hG := fun W => impl_GoreOf_c (g := b) (a := (rdS M i).f0) (b := (rdS M i).f1) W
              rw [show RGoreOf b (rdS M i).f0 (rdS M i).f1 = (gore b (rdS M i).f1, 0) from if_pos ⟨t1, ok⟩] at hG
              replace hG := Aside0.mk hG
              clear ok
              have kk : IntKind.i64.wrap ((i : Int) + 1) = (i : Int) + 1 := IntWalk.i64_in _ (by omega)
              go_wp2_with (first | (go_at_call 89; refine (hG.out _).mono ?_; rintro e wb ⟨rfl, hb⟩; have n0_ := Aside0.mk (below_step (by repeat (first | (with_reducible first | exact HY.out | apply below_alloc | apply pw_below_drewN | apply below_drew1) | exact HY.out)) hb); clear HY hb; have HY := n0_; clear n0_) | (go_at_call 87; refine (f6has_m _ (Kd.C_below (Kd.C_below C6.out HY.out) (by repeat (first | (with_reducible first | exact Below.refl _ _ | apply below_alloc | apply pw_below_drewN | apply below_drew1) | exact Below.refl _ _))) q6 l4c hin.out).mono ?_; rintro e w' ⟨rfl, ⟨nd, rfl⟩⟩))
              go_roundw
              case rel => exact ⟨i + 1, by omega, by go_num, ⟨(by repeat (first | (with_reducible first | exact HY.out | apply below_alloc | apply pw_below_drewN | apply below_drew1) | exact HY.out))⟩⟩
              case measure => simp [intOf]; omega
            · have ei : i = M.length := by omega
              subst ei
              have hz : ¬ (M.length : Int) < (M.length : Int) := by omega
              have len := Aside0.mk t3
              have len2 : ¬ (M.length : Int) < (L4.length : Int) := by omega
              have len3 : ¬ M.length < L4.length := by omega
              have HB := Aside0.mk (below_step HB.out HY.out)
              have BK4 := Aside0.mk (blk_below BK4.out HY.out)
              have C0 := Aside0.mk (Kd.C_below C0.out HY.out)
              have C6 := Aside0.mk (Kd.C_below C6.out HY.out)
              clear HY
              by_cases z1 : c1 = 0
              · subst z1
                obtain ⟨gg, y0, y1, m2, m3, m4, m4', m, m5', m6, m7, m8⟩ := middle_in E1.out
                have hA := Aside0.mk (fun W => impl_GoreMiddle_c (g := g) (k := k1) W)
                have m5e := Aside0.mk m5'
                obtain rfl : sp = 1296000 / g := by have := E2.out; rw [m2] at this; exact (congrArg Prod.fst this).symm
                generalize 1296000 / g = sp at *
                clear m2 m5'
                obtain ⟨far, hfar⟩ : ∃ f, (if m - y < 0 then -(m - y) else m - y) = f := ⟨_, rfl⟩
                rw [hfar] at m8
                have f0 : 0 ≤ far ∧ far ≤ 1296000 := by rw [← hfar]; split <;> omega
                have hfar := Aside0.mk hfar
                have ov1 : IntKind.i64.wrap (m - y) = m - y := IntWalk.i64_in _ (by omega)
                have ov2 : wrap64 (m - y) = m - y := w64 (by omega) (by omega)
                have ov3 : wrap64 (1296000 - far) = 1296000 - far := w64 (by omega) (by omega)
                have e2 : Int.tdiv sp 2 = sp / 2 := Int.tdiv_eq_ediv_of_nonneg (by omega)
                have ov4 : wrap64 (sp / 2 + 1) = sp / 2 + 1 := w64 (by omega) (by omega)
                have ov5 : wrap64 (sp / 2) = sp / 2 := w64 (by omega) (by omega)
                have ov6 : wrap64 (sp * g) = 1296000 := by rw [m3]; exact w64 (by omega) (by omega)
                have my := Aside0.mk (show -1000000000000 ≤ m - y ∧ m - y ≤ 1000000000000 by omega)
                have mm : (if far ≤ 1296000 - far then far else 1296000 - far) ≤ sp / 2 + 1 := by split <;> omega
                have hcz0 : wr.cell? ⟨gb4, 0, none⟩ = some (.int .i64 x) := (blk_cell BK4.out 0).trans rfl; have hfz0 := blk_frozen BK4.out 0; have hcz1 : wr.cell? ⟨gb4, 1, none⟩ = some (.int .i64 y) := (blk_cell BK4.out 1).trans rfl; have hfz1 := blk_frozen BK4.out 1
                go_wp2_with (first | (go_at_call 98; refine (hA.out _).mono ?_; rintro e w' ⟨rfl, ⟨nd, rfl⟩⟩; rw [m5e.out]) | (go_at_call 71; refine (f6abs_c (a := m - y) _ my.out).mono ?_; rintro e w' ⟨rfl, ⟨nd, rfl⟩⟩; rw [hfar.out]))
                all_goals (go_ret; exact ⟨by first | rfl | (simp; done), (by repeat (first | (with_reducible first | exact HB.out | apply below_alloc | apply pw_below_drewN | apply below_drew1) | exact HB.out))⟩)
              · have z1' : (c1 == 0) = false := by simp [z1]
                go_wp2
                go_ret
                exact ⟨rfl, (by repeat (first | (with_reducible first | exact HB.out | apply below_alloc | apply pw_below_drewN | apply below_drew1) | exact HB.out))⟩
        · have z4' : (c4 == 0) = false := by simp [z4]
          by_cases z1 : c1 = 0
          · subst z1
            obtain ⟨gg, y0, y1, m2, m3, m4, m4', m, m5', m6, m7, m8⟩ := middle_in E1.out
            have hA := Aside0.mk (fun W => impl_GoreMiddle_c (g := g) (k := k1) W)
            have m5e := Aside0.mk m5'
            obtain rfl : sp = 1296000 / g := by have := E2.out; rw [m2] at this; exact (congrArg Prod.fst this).symm
            generalize 1296000 / g = sp at *
            clear m2 m5'
            obtain ⟨far, hfar⟩ : ∃ f, (if m - y < 0 then -(m - y) else m - y) = f := ⟨_, rfl⟩
            rw [hfar] at m8
            have f0 : 0 ≤ far ∧ far ≤ 1296000 := by rw [← hfar]; split <;> omega
            have hfar := Aside0.mk hfar
            have ov1 : IntKind.i64.wrap (m - y) = m - y := IntWalk.i64_in _ (by omega)
            have ov2 : wrap64 (m - y) = m - y := w64 (by omega) (by omega)
            have ov3 : wrap64 (1296000 - far) = 1296000 - far := w64 (by omega) (by omega)
            have e2 : Int.tdiv sp 2 = sp / 2 := Int.tdiv_eq_ediv_of_nonneg (by omega)
            have ov4 : wrap64 (sp / 2 + 1) = sp / 2 + 1 := w64 (by omega) (by omega)
            have ov5 : wrap64 (sp / 2) = sp / 2 := w64 (by omega) (by omega)
            have ov6 : wrap64 (sp * g) = 1296000 := by rw [m3]; exact w64 (by omega) (by omega)
            have my := Aside0.mk (show -1000000000000 ≤ m - y ∧ m - y ≤ 1000000000000 by omega)
            have mm : (if far ≤ 1296000 - far then far else 1296000 - far) ≤ sp / 2 + 1 := by split <;> omega
            have hcz0 : wr.cell? ⟨gb4, 0, none⟩ = some (.int .i64 x) := (blk_cell BK4.out 0).trans rfl; have hfz0 := blk_frozen BK4.out 0; have hcz1 : wr.cell? ⟨gb4, 1, none⟩ = some (.int .i64 y) := (blk_cell BK4.out 1).trans rfl; have hfz1 := blk_frozen BK4.out 1
            go_wp2_with (first | (go_at_call 98; refine (hA.out _).mono ?_; rintro e w' ⟨rfl, ⟨nd, rfl⟩⟩; rw [m5e.out]) | (go_at_call 71; refine (f6abs_c (a := m - y) _ my.out).mono ?_; rintro e w' ⟨rfl, ⟨nd, rfl⟩⟩; rw [hfar.out]))
            all_goals (go_ret; exact ⟨by first | rfl | (simp; done), (by repeat (first | (with_reducible first | exact HB.out | apply below_alloc | apply pw_below_drewN | apply below_drew1) | exact HB.out))⟩)
          · have z1' : (c1 == 0) = false := by simp [z1]
            go_wp2
            go_ret
            exact ⟨rfl, (by repeat (first | (with_reducible first | exact HB.out | apply below_alloc | apply pw_below_drewN | apply below_drew1) | exact HB.out))⟩
end Go.Proofs.Ytkfbbaaniglaeaa.Con
