/- The statements on the nearest place and the farthest pair. Conditions: as stated. -/
import Derived.Test.YtjmciajeimhigaaConT
namespace Go.Proofs.Ytjmciajeimhigaa.Con
open Go.RowKit Go.Proofs.YtjmciajeimhigaaW.PrintWords Go.Proofs.YtjmciajeimhigaaW.PrintLast Go.Proofs.YtjmciajeimhigaaW.PrintMore Go.Proofs.Ytjmciajeimhigaa.Mth
attribute [local go_sem] max2_int min2_int max_two min_two max_three min_three
set_option linter.unusedVariables false
set_option linter.unusedSimpArgs false
set_option maxHeartbeats 4000000 in
set_option maxRecDepth 100000 in
theorem FnExactNearestSpot_c {A : Option Addr} {n c : Nat} {xs : List Lp} (a b : Int) (w : World) (hr : Kd.C kLp w A n xs) (hc : n ≤ c) (_ : (Lit.int .i64 a).wf = true) (_ : (Lit.int .i64 b).wf = true) : Calls Try.prog 13 #[.slice A n c, .agg #[.int .i64 a, .int .i64 b]] w fun e w' => e = .returned (.bool true) ∧ Below w.heap.size w w' := by
  have hn := hr.2.1
  have hl : (xs.map toS).length = n := by rw [List.length_map]; exact hr.1
  have hr := Aside0.mk hr
  have hl := Aside0.mk hl
  by_cases h : (1048576 : Int) - n < 0
  · have f := Aside0.mk (show (if (1048576 : Int) - n < 0 then (-1 : Int) else 1048576 - n) = -1 from if_pos h)
    clear h
    go_enter Try.func13, Try.ntmps13
    go_wp2_with (fail)
    refine (szSpotS_c _ (Kd.C_below hr.out ( by repeat (first | (with_reducible first | exact Below.refl _ _ | apply below_alloc | apply pw_below_drewN | apply below_drew1 | (refine below_step ?_ (by assumption))) | exact Below.refl _ _) )) hc).mono ?_
    rintro e w' ⟨rfl, ⟨nd, rfl⟩⟩
    rw [f.out]
    go_wp2
    go_ret
    exact ⟨rfl, by repeat (first | (with_reducible first | exact Below.refl _ _ | apply below_alloc | apply pw_below_drewN | apply below_drew1 | (refine below_step ?_ (by assumption))) | exact Below.refl _ _)⟩
  · have f := Aside0.mk (show (if (1048576 : Int) - n < 0 then (-1 : Int) else 1048576 - n) = 1048576 - n from if_neg h)
    have hm : n ≤ 1048576 := by omega
    have HB := Aside0.mk (below_alloc (Below.refl w.heap.size w) (.cells #[.int .i64 a, .int .i64 b] 48))
    have BK := Aside0.mk (blk_new w (.cells #[.int .i64 a, .int .i64 b] 48))
    have BK_0 := (blk_cell BK.out 0).trans (by rfl : _ = some (Value.int .i64 a))
    have BK_1 := (blk_cell BK.out 1).trans (by rfl : _ = some (Value.int .i64 b))
    have BK_l := blk_lt BK.out
    have BK_n := Nat.ne_of_lt (blk_lt BK.out)
    have BK_m := Nat.ne_of_gt (blk_lt BK.out)
    go_enter Try.func13, Try.ntmps13
    go_wp2_with (fail)
    refine (szSpotS_c _ (Kd.C_below hr.out (by repeat (first | (with_reducible first | exact HB.out | apply below_alloc | apply pw_below_drewN | apply below_drew1) | exact HB.out))) hc).mono ?_
    rintro e w' ⟨rfl, hb⟩
    have hb := hb.below
    rw [f.out]
    clear BK_0 BK_1 BK_l BK_n BK_m
    have BK := Aside0.mk (blk_below BK.out (show Below _ _ w' from below_step ( by repeat (first | (with_reducible first | exact Below.refl _ _ | apply below_alloc | apply pw_below_drewN | apply below_drew1 | (refine below_step ?_ (by assumption))) | exact Below.refl _ _) ) hb))
    have HB := Aside0.mk (show Below w.heap.size w w' from below_step (by repeat (first | (with_reducible first | exact HB.out | apply below_alloc | apply pw_below_drewN | apply below_drew1) | exact HB.out)) hb)
    clear hb
    have BK_0 := (blk_cell BK.out 0).trans (by rfl : _ = some (Value.int .i64 a))
    have BK_1 := (blk_cell BK.out 1).trans (by rfl : _ = some (Value.int .i64 b))
    have BK_l := blk_lt BK.out
    have BK_n := Nat.ne_of_lt (blk_lt BK.out)
    have BK_m := Nat.ne_of_gt (blk_lt BK.out)
    have BA : Below w'.heap.size w' w'.drew := below_drew1 (Below.refl w'.heap.size _)
    have i0 : w'.drew.cell? (⟨w.heap.size, 0, none⟩) = some (.int .i64 (a)) := cell_after BA (BK_0)
    have i1 : w'.drew.cell? (⟨w.heap.size, 1, none⟩) = some (.int .i64 (b)) := cell_after BA (BK_1)
    have LB : w'.heap.size ≤ w'.drew.heap.size := by first | (simp; done) | (simp; omega) | exact Nat.le_refl _
    go_wp2_with (fail)
    go_region_held3 (fun W => W.cell? (⟨w.heap.size, 0, none⟩) = some (.int .i64 (a)) ∧ W.cell? (⟨w.heap.size, 1, none⟩) = some (.int .i64 (b)) ∧ Below w'.heap.size w' W ∧ w'.heap.size ≤ W.heap.size) (first | ((try go_split_ands); refine ⟨?_, ?_, ?_, ?_⟩; (first | (with_reducible exact cell_after hb (by with_reducible assumption)) | (with_reducible exact cell_after hb i0) | (with_reducible exact i0) | exact cell_after hb i0 | go_keep); (first | (with_reducible exact cell_after hb (by with_reducible assumption)) | (with_reducible exact cell_after hb i1) | (with_reducible exact i1) | exact cell_after hb i1 | go_keep); (first | (with_reducible exact below_step (by with_reducible assumption) hb) | (with_reducible exact below_step BA hb) | (with_reducible exact BA) | exact below_step BA hb | go_keep); (first | (with_reducible exact LB) | (have := hb.size; omega) | (have := hb.size; simp at this; omega) | go_keep)) | go_keep) (first | (go_at_call 37; refine (toSpotS_c _ (Kd.C_below (Kd.C_below hr.out HB.out) ( by repeat (first | (with_reducible first | exact Below.refl _ _ | apply below_alloc | apply pw_below_drewN | apply below_drew1 | (refine below_step ?_ (by assumption))) | exact Below.refl _ _) )) hc hm).mono ?_; rintro e w1 ⟨v1, rfl, ho, hb⟩; obtain ⟨A1, c1, e1⟩ := Kd.R_slice ho; rw [hl.out] at e1; subst e1; have HO1 := Aside0.mk ho; clear ho) | (go_at_call 42; refine (laws_toSpot_c _).mono ?_; rintro e w1 ⟨rfl, hb⟩; have HO1 := Aside0.mk (Kd.R_below (Kd.R_below HO1.out ( by repeat (first | (with_reducible first | exact Below.refl _ _ | apply below_alloc | apply pw_below_drewN | apply below_drew1 | (refine below_step ?_ (by assumption))) | exact Below.refl _ _) )) hb)) | (go_at_call 50; refine (spec_NearestSpot_c _ (by have := (Kd.R_reads' (Kd.R_below HO1.out ( by repeat (first | (with_reducible first | exact Below.refl _ _ | apply below_alloc | apply pw_below_drewN | apply below_drew1 | (refine below_step ?_ (by assumption))) | exact Below.refl _ _) ))).2.2; rwa [hl.out] at this)).mono ?_; rintro e w1 ⟨rfl, hb⟩; have HO1 := Aside0.mk (Kd.R_below (Kd.R_below HO1.out ( by repeat (first | (with_reducible first | exact Below.refl _ _ | apply below_alloc | apply pw_below_drewN | apply below_drew1 | (refine below_step ?_ (by assumption))) | exact Below.refl _ _) )) hb)))
    all_goals have hbb := Aside0.mk (show Below w'.heap.size w' _ by (go_split_ands; assumption))
    clear BK_0 BK_1 BK_l BK_n BK_m
    have BK := Aside0.mk (blk_below BK.out hbb.out)
    have HB := Aside0.mk (below_step HB.out hbb.out)
    have BK_0 := (blk_cell BK.out 0).trans (by rfl : _ = some (Value.int .i64 a))
    have BK_1 := (blk_cell BK.out 1).trans (by rfl : _ = some (Value.int .i64 b))
    have BK_l := blk_lt BK.out
    have BK_n := Nat.ne_of_lt (blk_lt BK.out)
    have BK_m := Nat.ne_of_gt (blk_lt BK.out)
    clear i0 i1 BA LB
    go_wp2_with (fail)
    refine (toSpotS_c _ (Kd.C_below hr.out (by repeat (first | (with_reducible first | exact HB.out | apply below_alloc | apply pw_below_drewN | apply below_drew1) | exact HB.out))) hc hm).mono ?_
    rintro e W4 ⟨v2, rfl, ho, hb⟩
    have HO2 := Aside0.mk ho
    clear ho
    clear BK_0 BK_1 BK_l BK_n BK_m
    have BK := Aside0.mk (blk_below BK.out (show Below _ _ W4 from below_step ( by repeat (first | (with_reducible first | exact Below.refl _ _ | apply below_alloc | apply pw_below_drewN | apply below_drew1 | (refine below_step ?_ (by assumption))) | exact Below.refl _ _) ) hb))
    have HB := Aside0.mk (show Below w.heap.size w W4 from below_step (by repeat (first | (with_reducible first | exact HB.out | apply below_alloc | apply pw_below_drewN | apply below_drew1) | exact HB.out)) hb)
    clear hb
    have BK_0 := (blk_cell BK.out 0).trans (by rfl : _ = some (Value.int .i64 a))
    have BK_1 := (blk_cell BK.out 1).trans (by rfl : _ = some (Value.int .i64 b))
    have BK_l := blk_lt BK.out
    have BK_n := Nat.ne_of_lt (blk_lt BK.out)
    have BK_m := Nat.ne_of_gt (blk_lt BK.out)
    obtain ⟨A2, c2, e1⟩ := Kd.R_slice HO2.out
    rw [hl.out] at e1
    subst e1
    go_wp2_with (fail)
    refine (laws_toSpot_c _).mono ?_
    rintro e W5 ⟨rfl, hb⟩
    clear BK_0 BK_1 BK_l BK_n BK_m
    have BK := Aside0.mk (blk_below BK.out (show Below _ _ W5 from below_step ( by repeat (first | (with_reducible first | exact Below.refl _ _ | apply below_alloc | apply pw_below_drewN | apply below_drew1 | (refine below_step ?_ (by assumption))) | exact Below.refl _ _) ) hb))
    have HB := Aside0.mk (show Below w.heap.size w W5 from below_step (by repeat (first | (with_reducible first | exact HB.out | apply below_alloc | apply pw_below_drewN | apply below_drew1) | exact HB.out)) hb)
    have HO2 := Aside0.mk (Kd.R_below (Kd.R_below HO2.out ( by repeat (first | (with_reducible first | exact Below.refl _ _ | apply below_alloc | apply pw_below_drewN | apply below_drew1 | (refine below_step ?_ (by assumption))) | exact Below.refl _ _) )) hb)
    clear hb
    have BK_0 := (blk_cell BK.out 0).trans (by rfl : _ = some (Value.int .i64 a))
    have BK_1 := (blk_cell BK.out 1).trans (by rfl : _ = some (Value.int .i64 b))
    have BK_l := blk_lt BK.out
    have BK_n := Nat.ne_of_lt (blk_lt BK.out)
    have BK_m := Nat.ne_of_gt (blk_lt BK.out)
    go_wp2_with (fail)
    refine (impl_NearestSpot_c _ (by have := (Kd.R_reads' HO2.out).2.2; rwa [hl.out] at this)).mono ?_
    rintro e W6 ⟨rfl, hb⟩
    clear BK_0 BK_1 BK_l BK_n BK_m
    have BK := Aside0.mk (blk_below BK.out (show Below _ _ W6 from below_step ( by repeat (first | (with_reducible first | exact Below.refl _ _ | apply below_alloc | apply pw_below_drewN | apply below_drew1 | (refine below_step ?_ (by assumption))) | exact Below.refl _ _) ) hb))
    have HB := Aside0.mk (show Below w.heap.size w W6 from below_step (by repeat (first | (with_reducible first | exact HB.out | apply below_alloc | apply pw_below_drewN | apply below_drew1) | exact HB.out)) hb)
    have HO2 := Aside0.mk (Kd.R_below (Kd.R_below HO2.out ( by repeat (first | (with_reducible first | exact Below.refl _ _ | apply below_alloc | apply pw_below_drewN | apply below_drew1 | (refine below_step ?_ (by assumption))) | exact Below.refl _ _) )) hb)
    clear hb
    have BK_0 := (blk_cell BK.out 0).trans (by rfl : _ = some (Value.int .i64 a))
    have BK_1 := (blk_cell BK.out 1).trans (by rfl : _ = some (Value.int .i64 b))
    have BK_l := blk_lt BK.out
    have BK_n := Nat.ne_of_lt (blk_lt BK.out)
    have BK_m := Nat.ne_of_gt (blk_lt BK.out)
    go_wp2_with (fail)
    refine (toSpotS_c _ (Kd.C_below hr.out (by repeat (first | (with_reducible first | exact HB.out | apply below_alloc | apply pw_below_drewN | apply below_drew1) | exact HB.out))) hc hm).mono ?_
    rintro e W7 ⟨v3, rfl, ho, hb⟩
    have HO3 := Aside0.mk ho
    clear ho
    clear BK_0 BK_1 BK_l BK_n BK_m
    have BK := Aside0.mk (blk_below BK.out (show Below _ _ W7 from below_step ( by repeat (first | (with_reducible first | exact Below.refl _ _ | apply below_alloc | apply pw_below_drewN | apply below_drew1 | (refine below_step ?_ (by assumption))) | exact Below.refl _ _) ) hb))
    have HB := Aside0.mk (show Below w.heap.size w W7 from below_step (by repeat (first | (with_reducible first | exact HB.out | apply below_alloc | apply pw_below_drewN | apply below_drew1) | exact HB.out)) hb)
    have HO2 := Aside0.mk (Kd.R_below (Kd.R_below HO2.out ( by repeat (first | (with_reducible first | exact Below.refl _ _ | apply below_alloc | apply pw_below_drewN | apply below_drew1 | (refine below_step ?_ (by assumption))) | exact Below.refl _ _) )) hb)
    clear hb
    have BK_0 := (blk_cell BK.out 0).trans (by rfl : _ = some (Value.int .i64 a))
    have BK_1 := (blk_cell BK.out 1).trans (by rfl : _ = some (Value.int .i64 b))
    have BK_l := blk_lt BK.out
    have BK_n := Nat.ne_of_lt (blk_lt BK.out)
    have BK_m := Nat.ne_of_gt (blk_lt BK.out)
    obtain ⟨A3, c3, e1⟩ := Kd.R_slice HO3.out
    rw [hl.out] at e1
    subst e1
    go_wp2_with (fail)
    refine (eqSpotS_c (xs := xs.map toS) _ (by have := (Kd.R_reads' HO2.out).2.2; rwa [hl.out] at this) (R_cap hl.out HO2.out) (by have := (Kd.R_reads' HO3.out).2.2; rwa [hl.out] at this) (R_cap hl.out HO3.out) (by omega)).mono ?_
    rintro e W8 ⟨rfl, hb⟩
    clear BK_0 BK_1 BK_l BK_n BK_m
    have BK := Aside0.mk (blk_below BK.out (show Below _ _ W8 from below_step ( by repeat (first | (with_reducible first | exact Below.refl _ _ | apply below_alloc | apply pw_below_drewN | apply below_drew1 | (refine below_step ?_ (by assumption))) | exact Below.refl _ _) ) hb))
    have HB := Aside0.mk (show Below w.heap.size w W8 from below_step (by repeat (first | (with_reducible first | exact HB.out | apply below_alloc | apply pw_below_drewN | apply below_drew1) | exact HB.out)) hb)
    clear hb
    have BK_0 := (blk_cell BK.out 0).trans (by rfl : _ = some (Value.int .i64 a))
    have BK_1 := (blk_cell BK.out 1).trans (by rfl : _ = some (Value.int .i64 b))
    have BK_l := blk_lt BK.out
    have BK_n := Nat.ne_of_lt (blk_lt BK.out)
    have BK_m := Nat.ne_of_gt (blk_lt BK.out)
    go_wp2
    go_ret
    exact ⟨rfl, by repeat (first | (with_reducible first | exact HB.out | apply below_alloc | apply pw_below_drewN | apply below_drew1) | exact HB.out)⟩
set_option maxHeartbeats 4000000 in
set_option maxRecDepth 100000 in
theorem FnExactFarthestPair_c {A : Option Addr} {n c : Nat} {xs : List Lp} (w : World) (hr : Kd.C kLp w A n xs) (hc : n ≤ c)  : Calls Try.prog 12 #[.slice A n c] w fun e w' => e = .returned (.bool true) ∧ Below w.heap.size w w' := by
  have hn := hr.2.1
  have hl : (xs.map toS).length = n := by rw [List.length_map]; exact hr.1
  have hr := Aside0.mk hr
  have hl := Aside0.mk hl
  by_cases h : (1048576 : Int) - n < 0
  · have f := Aside0.mk (show (if (1048576 : Int) - n < 0 then (-1 : Int) else 1048576 - n) = -1 from if_pos h)
    clear h
    go_enter Try.func12, Try.ntmps12
    go_wp2_with (fail)
    refine (szSpotS_c _ (Kd.C_below hr.out ( by repeat (first | (with_reducible first | exact Below.refl _ _ | apply below_alloc | apply pw_below_drewN | apply below_drew1 | (refine below_step ?_ (by assumption))) | exact Below.refl _ _) )) hc).mono ?_
    rintro e w' ⟨rfl, ⟨nd, rfl⟩⟩
    rw [f.out]
    go_wp2
    go_ret
    exact ⟨rfl, by repeat (first | (with_reducible first | exact Below.refl _ _ | apply below_alloc | apply pw_below_drewN | apply below_drew1 | (refine below_step ?_ (by assumption))) | exact Below.refl _ _)⟩
  · have f := Aside0.mk (show (if (1048576 : Int) - n < 0 then (-1 : Int) else 1048576 - n) = 1048576 - n from if_neg h)
    have hm : n ≤ 1048576 := by omega
    have HB := Aside0.mk (Below.refl w.heap.size w)
    go_enter Try.func12, Try.ntmps12
    go_wp2_with (fail)
    refine (szSpotS_c _ (Kd.C_below hr.out (by repeat (first | (with_reducible first | exact HB.out | apply below_alloc | apply pw_below_drewN | apply below_drew1) | exact HB.out))) hc).mono ?_
    rintro e w' ⟨rfl, hb⟩
    have hb := hb.below
    rw [f.out]
    have HB := Aside0.mk (show Below w.heap.size w w' from below_step (by repeat (first | (with_reducible first | exact HB.out | apply below_alloc | apply pw_below_drewN | apply below_drew1) | exact HB.out)) hb)
    clear hb
    go_wp2_with (fail)
    refine (toSpotS_c _ (Kd.C_below hr.out (by repeat (first | (with_reducible first | exact HB.out | apply below_alloc | apply pw_below_drewN | apply below_drew1) | exact HB.out))) hc hm).mono ?_
    rintro e W1 ⟨v1, rfl, ho, hb⟩
    have HO1 := Aside0.mk ho
    clear ho
    have HB := Aside0.mk (show Below w.heap.size w W1 from below_step (by repeat (first | (with_reducible first | exact HB.out | apply below_alloc | apply pw_below_drewN | apply below_drew1) | exact HB.out)) hb)
    clear hb
    obtain ⟨A1, c1, e1⟩ := Kd.R_slice HO1.out
    rw [hl.out] at e1
    subst e1
    go_wp2_with (fail)
    refine (spec_FarthestPair_c _ (by have := (Kd.R_reads' HO1.out).2.2; rwa [hl.out] at this)).mono ?_
    rintro e W3 ⟨rfl, hb⟩
    have HB := Aside0.mk (show Below w.heap.size w W3 from below_step (by repeat (first | (with_reducible first | exact HB.out | apply below_alloc | apply pw_below_drewN | apply below_drew1) | exact HB.out)) hb)
    clear hb
    go_wp2_with (fail)
    refine (toSpotS_c _ (Kd.C_below hr.out (by repeat (first | (with_reducible first | exact HB.out | apply below_alloc | apply pw_below_drewN | apply below_drew1) | exact HB.out))) hc hm).mono ?_
    rintro e W4 ⟨v2, rfl, ho, hb⟩
    have HO2 := Aside0.mk ho
    clear ho
    have HB := Aside0.mk (show Below w.heap.size w W4 from below_step (by repeat (first | (with_reducible first | exact HB.out | apply below_alloc | apply pw_below_drewN | apply below_drew1) | exact HB.out)) hb)
    clear hb
    obtain ⟨A2, c2, e1⟩ := Kd.R_slice HO2.out
    rw [hl.out] at e1
    subst e1
    go_wp2_with (fail)
    refine (impl_FarthestPair_c _ (by have := (Kd.R_reads' HO2.out).2.2; rwa [hl.out] at this)).mono ?_
    rintro e W6 ⟨rfl, hb⟩
    have HB := Aside0.mk (show Below w.heap.size w W6 from below_step (by repeat (first | (with_reducible first | exact HB.out | apply below_alloc | apply pw_below_drewN | apply below_drew1) | exact HB.out)) hb)
    have HO2 := Aside0.mk (Kd.R_below (Kd.R_below HO2.out ( by repeat (first | (with_reducible first | exact Below.refl _ _ | apply below_alloc | apply pw_below_drewN | apply below_drew1 | (refine below_step ?_ (by assumption))) | exact Below.refl _ _) )) hb)
    clear hb
    go_wp2_with (fail)
    refine (toSpotS_c _ (Kd.C_below hr.out (by repeat (first | (with_reducible first | exact HB.out | apply below_alloc | apply pw_below_drewN | apply below_drew1) | exact HB.out))) hc hm).mono ?_
    rintro e W7 ⟨v3, rfl, ho, hb⟩
    have HO3 := Aside0.mk ho
    clear ho
    have HB := Aside0.mk (show Below w.heap.size w W7 from below_step (by repeat (first | (with_reducible first | exact HB.out | apply below_alloc | apply pw_below_drewN | apply below_drew1) | exact HB.out)) hb)
    have HO2 := Aside0.mk (Kd.R_below (Kd.R_below HO2.out ( by repeat (first | (with_reducible first | exact Below.refl _ _ | apply below_alloc | apply pw_below_drewN | apply below_drew1 | (refine below_step ?_ (by assumption))) | exact Below.refl _ _) )) hb)
    clear hb
    obtain ⟨A3, c3, e1⟩ := Kd.R_slice HO3.out
    rw [hl.out] at e1
    subst e1
    go_wp2_with (fail)
    refine (eqSpotS_c (xs := xs.map toS) _ (by have := (Kd.R_reads' HO2.out).2.2; rwa [hl.out] at this) (R_cap hl.out HO2.out) (by have := (Kd.R_reads' HO3.out).2.2; rwa [hl.out] at this) (R_cap hl.out HO3.out) (by omega)).mono ?_
    rintro e W8 ⟨rfl, hb⟩
    have HB := Aside0.mk (show Below w.heap.size w W8 from below_step (by repeat (first | (with_reducible first | exact HB.out | apply below_alloc | apply pw_below_drewN | apply below_drew1) | exact HB.out)) hb)
    clear hb
    go_wp2
    go_ret
    exact ⟨rfl, by repeat (first | (with_reducible first | exact HB.out | apply below_alloc | apply pw_below_drewN | apply below_drew1) | exact HB.out)⟩
end Go.Proofs.Ytjmciajeimhigaa.Con
