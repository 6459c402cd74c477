/- Contracts on drawn places and angles: what turns and wraps answer where it is fit, and the statement on distances. Conditions: as stated. -/
import Derived.Test.YtgfclbfkkekkmaaConK
import Derived.Test.YtgfclbfkkekkmaaConJ
import Derived.Test.YtgfclbfkkekkmaaMds
import Derived.Test.YtgfclbfkkekkmaaPkD
namespace Go.Proofs.Ytgfclbfkkekkmaa.Con
open Go.RowKit Go.Proofs.YtgfclbfkkekkmaaW.PrintWords Go.Proofs.YtgfclbfkkekkmaaW.PrintLast Go.Proofs.YtgfclbfkkekkmaaW.PrintMore Go.Proofs.Ytgfclbfkkekkmaa.Mth
attribute [local go_sem] max2_int min2_int max_two min_two max_three min_three
attribute [local go_sem high] PFnDistances.eqA27
set_option linter.unusedVariables false
set_option linter.unusedSimpArgs false
theorem spec_TurnSpot_c {a b t : Int} (h : sOk a b) (ht : -1296000 ≤ t ∧ t ≤ 1296000) (w : World) : Calls Try.prog 33 #[.agg #[.int .i64 a, .int .i64 b], .int .i64 t] w fun e w' => e = .returned (.tuple #[.agg #[.int .i64 a, .int .i64 (W (b + t))], .int .i64 0]) ∧ Below w.heap.size w w' :=
  PFnDistances.spec_TurnSpot.calls a b t a (W (b + t)) 0 w (by rw [PFnDistances.spec_TurnSpot_eq]; unfold RTurnSpot; rw [if_pos h, if_pos (by unfold angOk; omega)])
set_option maxHeartbeats 4000000 in
set_option maxRecDepth 100000 in
theorem FnDistances_c {A B : Option Addr} {n m c d : Nat} {xs ys : List Int} (w : World) (hr : ReadsInt w .u8 A n xs) (hx : ∀ x ∈ xs, 0 ≤ x ∧ x ≤ 255) (hr2 : ReadsInt w .u8 B m ys) (hx2 : ∀ x ∈ ys, 0 ≤ x ∧ x ≤ 255) : Calls Try.prog 10 #[.slice A n c, .slice B m d] w fun e w' => e = .returned (.bool true) ∧ Below w.heap.size w w' := by
  rcases dec (3000 < n ∨ 3000 < m) with ⟨h, b⟩ | ⟨h, b⟩
  · clear h
    have hr := Aside0.mk hr
    have hr2 := Aside0.mk hr2
    go_enter Try.func10, Try.ntmps10
    go_wp2_with (fail)
    refine (a2Long_c _ b.out).mono ?_
    rintro e w' ⟨rfl, ⟨nd, rfl⟩⟩
    go_wp2
    go_ret
    exact ⟨rfl, by repeat (first | (with_reducible first | exact Below.refl _ _ | apply below_alloc | apply pw_below_drewN | apply below_drew1 | (refine below_step ?_ (by assumption))) | exact Below.refl _ _)⟩
  · have hn : n ≤ 5000 := by omega
    have hm : m ≤ 5000 := by omega
    clear h
    have hr := Aside0.mk hr
    have hr2 := Aside0.mk hr2
    have hx := Aside0.mk hx
    have hx2 := Aside0.mk hx2
    go_enter Try.func10, Try.ntmps10
    go_wp2_with (fail)
    refine (a2Long_c _ b.out).mono ?_
    rintro e w' ⟨rfl, ⟨nd, rfl⟩⟩
    go_wp2_with (fail)
    refine (A2Spot_c _ (by first | exact hr.out | exact hr.out.below (pw_below_drewN (Below.refl _ _) _)) hx.out hn).mono ?_
    rintro e W1 ⟨a, b, hab, rfl, hb⟩
    have HB := Aside0.mk (show Below w.heap.size w W1 from below_step ( by repeat (first | (with_reducible first | exact Below.refl _ _ | apply below_alloc | apply pw_below_drewN | apply below_drew1 | (refine below_step ?_ (by assumption))) | exact Below.refl _ _) ) hb)
    clear hb hr
    go_wp2_with (fail)
    refine (A2Spot_c _ (by first | exact hr2.out.below (below_alloc HB.out _)) hx2.out hm).mono ?_
    rintro e W2 ⟨c, d, hcd, rfl, hb⟩
    have BK1 := Aside0.mk ((hb.block W1.heap.size (by simp)).trans (blk_new W1 (.cells #[.int .i64 a, .int .i64 b] 27)))
    have HB := Aside0.mk (show Below w.heap.size w W2 from below_step (below_alloc HB.out _) hb)
    have BK1_l : W1.heap.size < W2.heap.size := by have := hb.size; simp at this; omega
    have BK1_n := Nat.ne_of_lt BK1_l
    have BK1_m := Nat.ne_of_gt BK1_l
    have BK1_0 := (blk_cell BK1.out 0).trans (by rfl : _ = some (Value.int .i64 a))
    have BK1_1 := (blk_cell BK1.out 1).trans (by rfl : _ = some (Value.int .i64 b))
    clear hb
    have hab := Aside0.mk hab
    have hcd := Aside0.mk hcd
    have f := dist_apart (a := a) (b := b) (c := c) (d := d)
    have g := dist_bd a b c d
    by_cases hac : a = c
    · subst hac
      by_cases hbd : b = d
      · subst hbd
        clear f g
        have E1 := show RDistanceOf a b a b = (0, 0) by rw [RDistanceOf_in hab.out hcd.out]; rw [dist_same]
        have E2 := show RDistanceOf a b a b = (0, 0) by rw [RDistanceOf_in hcd.out hab.out, dist_same]
        have E3 := show RCosDistance a b a b = (cosD a b a b, 0) from RCosDistance_in hab.out hcd.out
        have E4 := show RDistanceOf (-a) b (-a) b = (0, 0) by rw [RDistanceOf_in (by have := hab.out; unfold sOk at *; omega) (by have := hcd.out; unfold sOk at *; omega), dist_mirror, dist_same]
        obtain ⟨c0, c1⟩ := cosD_bd a b a b
        have E1 := Aside0.mk E1
        have E2 := Aside0.mk E2
        have E3 := Aside0.mk E3
        have E4 := Aside0.mk E4
        have L1 : 0 ≤ a + 324000 ∧ a ≤ 324000 := by have := hab.out; unfold sOk at this; omega
        have L2 : 0 ≤ a + 324000 ∧ a ≤ 324000 := by have := hcd.out; unfold sOk at this; omega
        go_wp2_with (fail)
        refine (impl_DistanceOf_c _).mono ?_
        rintro e V1 ⟨rfl, hb⟩
        rw [E1.out]
        clear BK1_0 BK1_1 BK1_l BK1_n BK1_m
        have BK1 := Aside0.mk (blk_alloc BK1.out (.cells #[.int .i64 (a), .int .i64 (b)] 27))
        have HB := Aside0.mk (below_alloc HB.out (.cells #[.int .i64 (a), .int .i64 (b)] 27))
        have BK2 := Aside0.mk (blk_new W2 (.cells #[.int .i64 (a), .int .i64 (b)] 27))
        have BK1 := Aside0.mk (blk_below BK1.out hb)
        have BK2 := Aside0.mk (blk_below BK2.out hb)
        have HB := Aside0.mk (below_step HB.out hb)
        clear hb
        have BK1_0 := (blk_cell BK1.out 0).trans (by rfl : _ = some (Value.int .i64 (a)))
        have BK1_1 := (blk_cell BK1.out 1).trans (by rfl : _ = some (Value.int .i64 (b)))
        have BK1_l := blk_lt BK1.out
        have BK1_n := Nat.ne_of_lt (blk_lt BK1.out)
        have BK1_m := Nat.ne_of_gt (blk_lt BK1.out)
        have BK2_0 := (blk_cell BK2.out 0).trans (by rfl : _ = some (Value.int .i64 (a)))
        have BK2_1 := (blk_cell BK2.out 1).trans (by rfl : _ = some (Value.int .i64 (b)))
        have BK2_l := blk_lt BK2.out
        have BK2_n := Nat.ne_of_lt (blk_lt BK2.out)
        have BK2_m := Nat.ne_of_gt (blk_lt BK2.out)
        go_wp2_with (fail)
        refine (impl_DistanceOf_c _).mono ?_
        rintro e V2 ⟨rfl, hb⟩
        rw [E2.out]
        clear BK1_0 BK1_1 BK1_l BK1_n BK1_m BK2_0 BK2_1 BK2_l BK2_n BK2_m
        have BK1 := Aside0.mk (blk_below BK1.out hb)
        have BK2 := Aside0.mk (blk_below BK2.out hb)
        have HB := Aside0.mk (below_step HB.out hb)
        clear hb
        have BK1_0 := (blk_cell BK1.out 0).trans (by rfl : _ = some (Value.int .i64 (a)))
        have BK1_1 := (blk_cell BK1.out 1).trans (by rfl : _ = some (Value.int .i64 (b)))
        have BK1_l := blk_lt BK1.out
        have BK1_n := Nat.ne_of_lt (blk_lt BK1.out)
        have BK1_m := Nat.ne_of_gt (blk_lt BK1.out)
        have BK2_0 := (blk_cell BK2.out 0).trans (by rfl : _ = some (Value.int .i64 (a)))
        have BK2_1 := (blk_cell BK2.out 1).trans (by rfl : _ = some (Value.int .i64 (b)))
        have BK2_l := blk_lt BK2.out
        have BK2_n := Nat.ne_of_lt (blk_lt BK2.out)
        have BK2_m := Nat.ne_of_gt (blk_lt BK2.out)
        go_wp2_with (fail)
        refine (impl_CosDistance_c _).mono ?_
        rintro e V3 ⟨rfl, hb⟩
        rw [E3.out]
        clear BK1_0 BK1_1 BK1_l BK1_n BK1_m BK2_0 BK2_1 BK2_l BK2_n BK2_m
        have BK1 := Aside0.mk (blk_below BK1.out hb)
        have BK2 := Aside0.mk (blk_below BK2.out hb)
        have HB := Aside0.mk (below_step HB.out hb)
        clear hb
        have BK1_0 := (blk_cell BK1.out 0).trans (by rfl : _ = some (Value.int .i64 (a)))
        have BK1_1 := (blk_cell BK1.out 1).trans (by rfl : _ = some (Value.int .i64 (b)))
        have BK1_l := blk_lt BK1.out
        have BK1_n := Nat.ne_of_lt (blk_lt BK1.out)
        have BK1_m := Nat.ne_of_gt (blk_lt BK1.out)
        have BK2_0 := (blk_cell BK2.out 0).trans (by rfl : _ = some (Value.int .i64 (a)))
        have BK2_1 := (blk_cell BK2.out 1).trans (by rfl : _ = some (Value.int .i64 (b)))
        have BK2_l := blk_lt BK2.out
        have BK2_n := Nat.ne_of_lt (blk_lt BK2.out)
        have BK2_m := Nat.ne_of_gt (blk_lt BK2.out)
        go_wp2_with (fail)
        refine (A2Angle_c _ (hr2.out.below HB.out) hx2.out hm).mono ?_
        rintro e V4 ⟨t, t0, t1, rfl, hb⟩
        clear BK1_0 BK1_1 BK1_l BK1_n BK1_m BK2_0 BK2_1 BK2_l BK2_n BK2_m
        have BK1 := Aside0.mk (blk_below BK1.out hb)
        have BK2 := Aside0.mk (blk_below BK2.out hb)
        have HB := Aside0.mk (below_step HB.out hb)
        clear hb
        have BK1_0 := (blk_cell BK1.out 0).trans (by rfl : _ = some (Value.int .i64 (a)))
        have BK1_1 := (blk_cell BK1.out 1).trans (by rfl : _ = some (Value.int .i64 (b)))
        have BK1_l := blk_lt BK1.out
        have BK1_n := Nat.ne_of_lt (blk_lt BK1.out)
        have BK1_m := Nat.ne_of_gt (blk_lt BK1.out)
        have BK2_0 := (blk_cell BK2.out 0).trans (by rfl : _ = some (Value.int .i64 (a)))
        have BK2_1 := (blk_cell BK2.out 1).trans (by rfl : _ = some (Value.int .i64 (b)))
        have BK2_l := blk_lt BK2.out
        have BK2_n := Nat.ne_of_lt (blk_lt BK2.out)
        have BK2_m := Nat.ne_of_gt (blk_lt BK2.out)
        have T1 := Aside0.mk (show sOk a (W (b + t)) by have := hab.out; have := W_bd (b + t); unfold sOk at *; omega)
        have T2 := Aside0.mk (show sOk a (W (b + t)) by have := hcd.out; have := W_bd (b + t); unfold sOk at *; omega)
        have E5 := Aside0.mk (show RDistanceOf a (W (b + t)) a (W (b + t)) = (0, 0) by rw [RDistanceOf_in T1.out T2.out, dist_same])
        go_wp2_with (fail)
        refine (spec_TurnSpot_c (t := t) hab.out (by omega) _).mono ?_
        rintro e V5 ⟨rfl, hb⟩
        clear BK1_0 BK1_1 BK1_l BK1_n BK1_m BK2_0 BK2_1 BK2_l BK2_n BK2_m
        have BK1 := Aside0.mk (blk_below BK1.out hb)
        have BK2 := Aside0.mk (blk_below BK2.out hb)
        have HB := Aside0.mk (below_step HB.out hb)
        clear hb
        have BK1_0 := (blk_cell BK1.out 0).trans (by rfl : _ = some (Value.int .i64 (a)))
        have BK1_1 := (blk_cell BK1.out 1).trans (by rfl : _ = some (Value.int .i64 (b)))
        have BK1_l := blk_lt BK1.out
        have BK1_n := Nat.ne_of_lt (blk_lt BK1.out)
        have BK1_m := Nat.ne_of_gt (blk_lt BK1.out)
        have BK2_0 := (blk_cell BK2.out 0).trans (by rfl : _ = some (Value.int .i64 (a)))
        have BK2_1 := (blk_cell BK2.out 1).trans (by rfl : _ = some (Value.int .i64 (b)))
        have BK2_l := blk_lt BK2.out
        have BK2_n := Nat.ne_of_lt (blk_lt BK2.out)
        have BK2_m := Nat.ne_of_gt (blk_lt BK2.out)
        go_wp2_with (fail)
        refine (spec_TurnSpot_c (t := t) hcd.out (by omega) _).mono ?_
        rintro e V6 ⟨rfl, hb⟩
        clear BK1_0 BK1_1 BK1_l BK1_n BK1_m BK2_0 BK2_1 BK2_l BK2_n BK2_m
        have BK1 := Aside0.mk (blk_alloc BK1.out (.cells #[.int .i64 (a), .int .i64 (W (b + t))] 27))
        have BK2 := Aside0.mk (blk_alloc BK2.out (.cells #[.int .i64 (a), .int .i64 (W (b + t))] 27))
        have HB := Aside0.mk (below_alloc HB.out (.cells #[.int .i64 (a), .int .i64 (W (b + t))] 27))
        have BK3 := Aside0.mk (blk_new V5 (.cells #[.int .i64 (a), .int .i64 (W (b + t))] 27))
        have BK1 := Aside0.mk (blk_below BK1.out hb)
        have BK2 := Aside0.mk (blk_below BK2.out hb)
        have BK3 := Aside0.mk (blk_below BK3.out hb)
        have HB := Aside0.mk (below_step HB.out hb)
        clear hb
        have BK1_0 := (blk_cell BK1.out 0).trans (by rfl : _ = some (Value.int .i64 (a)))
        have BK1_1 := (blk_cell BK1.out 1).trans (by rfl : _ = some (Value.int .i64 (b)))
        have BK1_l := blk_lt BK1.out
        have BK1_n := Nat.ne_of_lt (blk_lt BK1.out)
        have BK1_m := Nat.ne_of_gt (blk_lt BK1.out)
        have BK2_0 := (blk_cell BK2.out 0).trans (by rfl : _ = some (Value.int .i64 (a)))
        have BK2_1 := (blk_cell BK2.out 1).trans (by rfl : _ = some (Value.int .i64 (b)))
        have BK2_l := blk_lt BK2.out
        have BK2_n := Nat.ne_of_lt (blk_lt BK2.out)
        have BK2_m := Nat.ne_of_gt (blk_lt BK2.out)
        have BK3_0 := (blk_cell BK3.out 0).trans (by rfl : _ = some (Value.int .i64 (a)))
        have BK3_1 := (blk_cell BK3.out 1).trans (by rfl : _ = some (Value.int .i64 (W (b + t))))
        have BK3_l := blk_lt BK3.out
        have BK3_n := Nat.ne_of_lt (blk_lt BK3.out)
        have BK3_m := Nat.ne_of_gt (blk_lt BK3.out)
        go_wp2_with (fail)
        refine (impl_DistanceOf_c _).mono ?_
        rintro e V7 ⟨rfl, hb⟩
        rw [E5.out]
        clear BK1_0 BK1_1 BK1_l BK1_n BK1_m BK2_0 BK2_1 BK2_l BK2_n BK2_m BK3_0 BK3_1 BK3_l BK3_n BK3_m
        have BK1 := Aside0.mk (blk_alloc BK1.out (.cells #[.int .i64 (a), .int .i64 (W (b + t))] 27))
        have BK2 := Aside0.mk (blk_alloc BK2.out (.cells #[.int .i64 (a), .int .i64 (W (b + t))] 27))
        have BK3 := Aside0.mk (blk_alloc BK3.out (.cells #[.int .i64 (a), .int .i64 (W (b + t))] 27))
        have HB := Aside0.mk (below_alloc HB.out (.cells #[.int .i64 (a), .int .i64 (W (b + t))] 27))
        have BK4 := Aside0.mk (blk_new V6 (.cells #[.int .i64 (a), .int .i64 (W (b + t))] 27))
        have BK1 := Aside0.mk (blk_below BK1.out hb)
        have BK2 := Aside0.mk (blk_below BK2.out hb)
        have BK3 := Aside0.mk (blk_below BK3.out hb)
        have BK4 := Aside0.mk (blk_below BK4.out hb)
        have HB := Aside0.mk (below_step HB.out hb)
        clear hb
        have BK1_0 := (blk_cell BK1.out 0).trans (by rfl : _ = some (Value.int .i64 (a)))
        have BK1_1 := (blk_cell BK1.out 1).trans (by rfl : _ = some (Value.int .i64 (b)))
        have BK1_l := blk_lt BK1.out
        have BK1_n := Nat.ne_of_lt (blk_lt BK1.out)
        have BK1_m := Nat.ne_of_gt (blk_lt BK1.out)
        have BK2_0 := (blk_cell BK2.out 0).trans (by rfl : _ = some (Value.int .i64 (a)))
        have BK2_1 := (blk_cell BK2.out 1).trans (by rfl : _ = some (Value.int .i64 (b)))
        have BK2_l := blk_lt BK2.out
        have BK2_n := Nat.ne_of_lt (blk_lt BK2.out)
        have BK2_m := Nat.ne_of_gt (blk_lt BK2.out)
        have BK3_0 := (blk_cell BK3.out 0).trans (by rfl : _ = some (Value.int .i64 (a)))
        have BK3_1 := (blk_cell BK3.out 1).trans (by rfl : _ = some (Value.int .i64 (W (b + t))))
        have BK3_l := blk_lt BK3.out
        have BK3_n := Nat.ne_of_lt (blk_lt BK3.out)
        have BK3_m := Nat.ne_of_gt (blk_lt BK3.out)
        have BK4_0 := (blk_cell BK4.out 0).trans (by rfl : _ = some (Value.int .i64 (a)))
        have BK4_1 := (blk_cell BK4.out 1).trans (by rfl : _ = some (Value.int .i64 (W (b + t))))
        have BK4_l := blk_lt BK4.out
        have BK4_n := Nat.ne_of_lt (blk_lt BK4.out)
        have BK4_m := Nat.ne_of_gt (blk_lt BK4.out)
        go_wp2_with (fail)
        refine (impl_DistanceOf_c _).mono ?_
        rintro e V8 ⟨rfl, hb⟩
        rw [E4.out]
        clear BK1_0 BK1_1 BK1_l BK1_n BK1_m BK2_0 BK2_1 BK2_l BK2_n BK2_m BK3_0 BK3_1 BK3_l BK3_n BK3_m BK4_0 BK4_1 BK4_l BK4_n BK4_m
        have BK1 := Aside0.mk (blk_below BK1.out hb)
        have BK2 := Aside0.mk (blk_below BK2.out hb)
        have BK3 := Aside0.mk (blk_below BK3.out hb)
        have BK4 := Aside0.mk (blk_below BK4.out hb)
        have HB := Aside0.mk (below_step HB.out hb)
        clear hb
        go_wp2
        go_ret
        exact ⟨by first | rfl | (simp; done), by repeat (first | (with_reducible first | exact HB.out | apply below_alloc | apply pw_below_drewN | apply below_drew1) | exact HB.out)⟩
      · have q1 : (b == d) = false := by simp [hbd]
        obtain ⟨f0, f1, f2⟩ := f (fun e => hbd e.2)
        by_cases z : 0 ≤ cosD a b a d
        · have f3 := f1 z
          have q0 : (dist a b a d == 0) = false := by simp; omega
          clear f1 f2 f
          have E1 := show RDistanceOf a b a d = (dist a b a d, 0) by rw [RDistanceOf_in hab.out hcd.out]
          have E2 := show RDistanceOf a d a b = (dist a b a d, 0) by rw [RDistanceOf_in hcd.out hab.out, dist_sym]
          have E3 := show RCosDistance a b a d = (cosD a b a d, 0) from RCosDistance_in hab.out hcd.out
          have E4 := show RDistanceOf (-a) b (-a) d = (dist a b a d, 0) by rw [RDistanceOf_in (by have := hab.out; unfold sOk at *; omega) (by have := hcd.out; unfold sOk at *; omega), dist_mirror]
          obtain ⟨c0, c1⟩ := cosD_bd a b a d
          have E1 := Aside0.mk E1
          have E2 := Aside0.mk E2
          have E3 := Aside0.mk E3
          have E4 := Aside0.mk E4
          have L1 : 0 ≤ a + 324000 ∧ a ≤ 324000 := by have := hab.out; unfold sOk at this; omega
          have L2 : 0 ≤ a + 324000 ∧ a ≤ 324000 := by have := hcd.out; unfold sOk at this; omega
          go_wp2_with (fail)
          refine (impl_DistanceOf_c _).mono ?_
          rintro e V1 ⟨rfl, hb⟩
          rw [E1.out]
          clear BK1_0 BK1_1 BK1_l BK1_n BK1_m
          have BK1 := Aside0.mk (blk_alloc BK1.out (.cells #[.int .i64 (a), .int .i64 (d)] 27))
          have HB := Aside0.mk (below_alloc HB.out (.cells #[.int .i64 (a), .int .i64 (d)] 27))
          have BK2 := Aside0.mk (blk_new W2 (.cells #[.int .i64 (a), .int .i64 (d)] 27))
          have BK1 := Aside0.mk (blk_below BK1.out hb)
          have BK2 := Aside0.mk (blk_below BK2.out hb)
          have HB := Aside0.mk (below_step HB.out hb)
          clear hb
          have BK1_0 := (blk_cell BK1.out 0).trans (by rfl : _ = some (Value.int .i64 (a)))
          have BK1_1 := (blk_cell BK1.out 1).trans (by rfl : _ = some (Value.int .i64 (b)))
          have BK1_l := blk_lt BK1.out
          have BK1_n := Nat.ne_of_lt (blk_lt BK1.out)
          have BK1_m := Nat.ne_of_gt (blk_lt BK1.out)
          have BK2_0 := (blk_cell BK2.out 0).trans (by rfl : _ = some (Value.int .i64 (a)))
          have BK2_1 := (blk_cell BK2.out 1).trans (by rfl : _ = some (Value.int .i64 (d)))
          have BK2_l := blk_lt BK2.out
          have BK2_n := Nat.ne_of_lt (blk_lt BK2.out)
          have BK2_m := Nat.ne_of_gt (blk_lt BK2.out)
          go_wp2_with (fail)
          refine (impl_DistanceOf_c _).mono ?_
          rintro e V2 ⟨rfl, hb⟩
          rw [E2.out]
          clear BK1_0 BK1_1 BK1_l BK1_n BK1_m BK2_0 BK2_1 BK2_l BK2_n BK2_m
          have BK1 := Aside0.mk (blk_below BK1.out hb)
          have BK2 := Aside0.mk (blk_below BK2.out hb)
          have HB := Aside0.mk (below_step HB.out hb)
          clear hb
          have BK1_0 := (blk_cell BK1.out 0).trans (by rfl : _ = some (Value.int .i64 (a)))
          have BK1_1 := (blk_cell BK1.out 1).trans (by rfl : _ = some (Value.int .i64 (b)))
          have BK1_l := blk_lt BK1.out
          have BK1_n := Nat.ne_of_lt (blk_lt BK1.out)
          have BK1_m := Nat.ne_of_gt (blk_lt BK1.out)
          have BK2_0 := (blk_cell BK2.out 0).trans (by rfl : _ = some (Value.int .i64 (a)))
          have BK2_1 := (blk_cell BK2.out 1).trans (by rfl : _ = some (Value.int .i64 (d)))
          have BK2_l := blk_lt BK2.out
          have BK2_n := Nat.ne_of_lt (blk_lt BK2.out)
          have BK2_m := Nat.ne_of_gt (blk_lt BK2.out)
          go_wp2_with (fail)
          refine (impl_CosDistance_c _).mono ?_
          rintro e V3 ⟨rfl, hb⟩
          rw [E3.out]
          clear BK1_0 BK1_1 BK1_l BK1_n BK1_m BK2_0 BK2_1 BK2_l BK2_n BK2_m
          have BK1 := Aside0.mk (blk_below BK1.out hb)
          have BK2 := Aside0.mk (blk_below BK2.out hb)
          have HB := Aside0.mk (below_step HB.out hb)
          clear hb
          have BK1_0 := (blk_cell BK1.out 0).trans (by rfl : _ = some (Value.int .i64 (a)))
          have BK1_1 := (blk_cell BK1.out 1).trans (by rfl : _ = some (Value.int .i64 (b)))
          have BK1_l := blk_lt BK1.out
          have BK1_n := Nat.ne_of_lt (blk_lt BK1.out)
          have BK1_m := Nat.ne_of_gt (blk_lt BK1.out)
          have BK2_0 := (blk_cell BK2.out 0).trans (by rfl : _ = some (Value.int .i64 (a)))
          have BK2_1 := (blk_cell BK2.out 1).trans (by rfl : _ = some (Value.int .i64 (d)))
          have BK2_l := blk_lt BK2.out
          have BK2_n := Nat.ne_of_lt (blk_lt BK2.out)
          have BK2_m := Nat.ne_of_gt (blk_lt BK2.out)
          go_wp2_with (fail)
          refine (A2Angle_c _ (hr2.out.below HB.out) hx2.out hm).mono ?_
          rintro e V4 ⟨t, t0, t1, rfl, hb⟩
          clear BK1_0 BK1_1 BK1_l BK1_n BK1_m BK2_0 BK2_1 BK2_l BK2_n BK2_m
          have BK1 := Aside0.mk (blk_below BK1.out hb)
          have BK2 := Aside0.mk (blk_below BK2.out hb)
          have HB := Aside0.mk (below_step HB.out hb)
          clear hb
          have BK1_0 := (blk_cell BK1.out 0).trans (by rfl : _ = some (Value.int .i64 (a)))
          have BK1_1 := (blk_cell BK1.out 1).trans (by rfl : _ = some (Value.int .i64 (b)))
          have BK1_l := blk_lt BK1.out
          have BK1_n := Nat.ne_of_lt (blk_lt BK1.out)
          have BK1_m := Nat.ne_of_gt (blk_lt BK1.out)
          have BK2_0 := (blk_cell BK2.out 0).trans (by rfl : _ = some (Value.int .i64 (a)))
          have BK2_1 := (blk_cell BK2.out 1).trans (by rfl : _ = some (Value.int .i64 (d)))
          have BK2_l := blk_lt BK2.out
          have BK2_n := Nat.ne_of_lt (blk_lt BK2.out)
          have BK2_m := Nat.ne_of_gt (blk_lt BK2.out)
          have T1 := Aside0.mk (show sOk a (W (b + t)) by have := hab.out; have := W_bd (b + t); unfold sOk at *; omega)
          have T2 := Aside0.mk (show sOk a (W (d + t)) by have := hcd.out; have := W_bd (d + t); unfold sOk at *; omega)
          have E5 := Aside0.mk (show RDistanceOf a (W (b + t)) a (W (d + t)) = (dist a b a d, 0) by rw [RDistanceOf_in T1.out T2.out, dist_turn (by have := hab.out; unfold sOk at this; omega) (by have := hcd.out; unfold sOk at this; omega)])
          go_wp2_with (fail)
          refine (spec_TurnSpot_c (t := t) hab.out (by omega) _).mono ?_
          rintro e V5 ⟨rfl, hb⟩
          clear BK1_0 BK1_1 BK1_l BK1_n BK1_m BK2_0 BK2_1 BK2_l BK2_n BK2_m
          have BK1 := Aside0.mk (blk_below BK1.out hb)
          have BK2 := Aside0.mk (blk_below BK2.out hb)
          have HB := Aside0.mk (below_step HB.out hb)
          clear hb
          have BK1_0 := (blk_cell BK1.out 0).trans (by rfl : _ = some (Value.int .i64 (a)))
          have BK1_1 := (blk_cell BK1.out 1).trans (by rfl : _ = some (Value.int .i64 (b)))
          have BK1_l := blk_lt BK1.out
          have BK1_n := Nat.ne_of_lt (blk_lt BK1.out)
          have BK1_m := Nat.ne_of_gt (blk_lt BK1.out)
          have BK2_0 := (blk_cell BK2.out 0).trans (by rfl : _ = some (Value.int .i64 (a)))
          have BK2_1 := (blk_cell BK2.out 1).trans (by rfl : _ = some (Value.int .i64 (d)))
          have BK2_l := blk_lt BK2.out
          have BK2_n := Nat.ne_of_lt (blk_lt BK2.out)
          have BK2_m := Nat.ne_of_gt (blk_lt BK2.out)
          go_wp2_with (fail)
          refine (spec_TurnSpot_c (t := t) hcd.out (by omega) _).mono ?_
          rintro e V6 ⟨rfl, hb⟩
          clear BK1_0 BK1_1 BK1_l BK1_n BK1_m BK2_0 BK2_1 BK2_l BK2_n BK2_m
          have BK1 := Aside0.mk (blk_alloc BK1.out (.cells #[.int .i64 (a), .int .i64 (W (b + t))] 27))
          have BK2 := Aside0.mk (blk_alloc BK2.out (.cells #[.int .i64 (a), .int .i64 (W (b + t))] 27))
          have HB := Aside0.mk (below_alloc HB.out (.cells #[.int .i64 (a), .int .i64 (W (b + t))] 27))
          have BK3 := Aside0.mk (blk_new V5 (.cells #[.int .i64 (a), .int .i64 (W (b + t))] 27))
          have BK1 := Aside0.mk (blk_below BK1.out hb)
          have BK2 := Aside0.mk (blk_below BK2.out hb)
          have BK3 := Aside0.mk (blk_below BK3.out hb)
          have HB := Aside0.mk (below_step HB.out hb)
          clear hb
          have BK1_0 := (blk_cell BK1.out 0).trans (by rfl : _ = some (Value.int .i64 (a)))
          have BK1_1 := (blk_cell BK1.out 1).trans (by rfl : _ = some (Value.int .i64 (b)))
          have BK1_l := blk_lt BK1.out
          have BK1_n := Nat.ne_of_lt (blk_lt BK1.out)
          have BK1_m := Nat.ne_of_gt (blk_lt BK1.out)
          have BK2_0 := (blk_cell BK2.out 0).trans (by rfl : _ = some (Value.int .i64 (a)))
          have BK2_1 := (blk_cell BK2.out 1).trans (by rfl : _ = some (Value.int .i64 (d)))
          have BK2_l := blk_lt BK2.out
          have BK2_n := Nat.ne_of_lt (blk_lt BK2.out)
          have BK2_m := Nat.ne_of_gt (blk_lt BK2.out)
          have BK3_0 := (blk_cell BK3.out 0).trans (by rfl : _ = some (Value.int .i64 (a)))
          have BK3_1 := (blk_cell BK3.out 1).trans (by rfl : _ = some (Value.int .i64 (W (b + t))))
          have BK3_l := blk_lt BK3.out
          have BK3_n := Nat.ne_of_lt (blk_lt BK3.out)
          have BK3_m := Nat.ne_of_gt (blk_lt BK3.out)
          go_wp2_with (fail)
          refine (impl_DistanceOf_c _).mono ?_
          rintro e V7 ⟨rfl, hb⟩
          rw [E5.out]
          clear BK1_0 BK1_1 BK1_l BK1_n BK1_m BK2_0 BK2_1 BK2_l BK2_n BK2_m BK3_0 BK3_1 BK3_l BK3_n BK3_m
          have BK1 := Aside0.mk (blk_alloc BK1.out (.cells #[.int .i64 (a), .int .i64 (W (d + t))] 27))
          have BK2 := Aside0.mk (blk_alloc BK2.out (.cells #[.int .i64 (a), .int .i64 (W (d + t))] 27))
          have BK3 := Aside0.mk (blk_alloc BK3.out (.cells #[.int .i64 (a), .int .i64 (W (d + t))] 27))
          have HB := Aside0.mk (below_alloc HB.out (.cells #[.int .i64 (a), .int .i64 (W (d + t))] 27))
          have BK4 := Aside0.mk (blk_new V6 (.cells #[.int .i64 (a), .int .i64 (W (d + t))] 27))
          have BK1 := Aside0.mk (blk_below BK1.out hb)
          have BK2 := Aside0.mk (blk_below BK2.out hb)
          have BK3 := Aside0.mk (blk_below BK3.out hb)
          have BK4 := Aside0.mk (blk_below BK4.out hb)
          have HB := Aside0.mk (below_step HB.out hb)
          clear hb
          have BK1_0 := (blk_cell BK1.out 0).trans (by rfl : _ = some (Value.int .i64 (a)))
          have BK1_1 := (blk_cell BK1.out 1).trans (by rfl : _ = some (Value.int .i64 (b)))
          have BK1_l := blk_lt BK1.out
          have BK1_n := Nat.ne_of_lt (blk_lt BK1.out)
          have BK1_m := Nat.ne_of_gt (blk_lt BK1.out)
          have BK2_0 := (blk_cell BK2.out 0).trans (by rfl : _ = some (Value.int .i64 (a)))
          have BK2_1 := (blk_cell BK2.out 1).trans (by rfl : _ = some (Value.int .i64 (d)))
          have BK2_l := blk_lt BK2.out
          have BK2_n := Nat.ne_of_lt (blk_lt BK2.out)
          have BK2_m := Nat.ne_of_gt (blk_lt BK2.out)
          have BK3_0 := (blk_cell BK3.out 0).trans (by rfl : _ = some (Value.int .i64 (a)))
          have BK3_1 := (blk_cell BK3.out 1).trans (by rfl : _ = some (Value.int .i64 (W (b + t))))
          have BK3_l := blk_lt BK3.out
          have BK3_n := Nat.ne_of_lt (blk_lt BK3.out)
          have BK3_m := Nat.ne_of_gt (blk_lt BK3.out)
          have BK4_0 := (blk_cell BK4.out 0).trans (by rfl : _ = some (Value.int .i64 (a)))
          have BK4_1 := (blk_cell BK4.out 1).trans (by rfl : _ = some (Value.int .i64 (W (d + t))))
          have BK4_l := blk_lt BK4.out
          have BK4_n := Nat.ne_of_lt (blk_lt BK4.out)
          have BK4_m := Nat.ne_of_gt (blk_lt BK4.out)
          go_wp2_with (fail)
          refine (impl_DistanceOf_c _).mono ?_
          rintro e V8 ⟨rfl, hb⟩
          rw [E4.out]
          clear BK1_0 BK1_1 BK1_l BK1_n BK1_m BK2_0 BK2_1 BK2_l BK2_n BK2_m BK3_0 BK3_1 BK3_l BK3_n BK3_m BK4_0 BK4_1 BK4_l BK4_n BK4_m
          have BK1 := Aside0.mk (blk_below BK1.out hb)
          have BK2 := Aside0.mk (blk_below BK2.out hb)
          have BK3 := Aside0.mk (blk_below BK3.out hb)
          have BK4 := Aside0.mk (blk_below BK4.out hb)
          have HB := Aside0.mk (below_step HB.out hb)
          clear hb
          go_wp2
          go_ret
          exact ⟨by first | rfl | (simp; done), by repeat (first | (with_reducible first | exact HB.out | apply below_alloc | apply pw_below_drewN | apply below_drew1) | exact HB.out)⟩
        · have f3 := f2 (by omega)
          have q0 : (dist a b a d == 0) = false := by simp; omega
          have z2 : cosD a b a d < 0 := by omega
          have z3 : decide (0 ≤ cosD a b a d) = false := decide_eq_false (by omega)
          have z4 : decide (dist a b a d ≤ 324000) = false := decide_eq_false (by omega)
          clear f1 f2 f
          have E1 := show RDistanceOf a b a d = (dist a b a d, 0) by rw [RDistanceOf_in hab.out hcd.out]
          have E2 := show RDistanceOf a d a b = (dist a b a d, 0) by rw [RDistanceOf_in hcd.out hab.out, dist_sym]
          have E3 := show RCosDistance a b a d = (cosD a b a d, 0) from RCosDistance_in hab.out hcd.out
          have E4 := show RDistanceOf (-a) b (-a) d = (dist a b a d, 0) by rw [RDistanceOf_in (by have := hab.out; unfold sOk at *; omega) (by have := hcd.out; unfold sOk at *; omega), dist_mirror]
          obtain ⟨c0, c1⟩ := cosD_bd a b a d
          have E1 := Aside0.mk E1
          have E2 := Aside0.mk E2
          have E3 := Aside0.mk E3
          have E4 := Aside0.mk E4
          have L1 : 0 ≤ a + 324000 ∧ a ≤ 324000 := by have := hab.out; unfold sOk at this; omega
          have L2 : 0 ≤ a + 324000 ∧ a ≤ 324000 := by have := hcd.out; unfold sOk at this; omega
          go_wp2_with (fail)
          refine (impl_DistanceOf_c _).mono ?_
          rintro e V1 ⟨rfl, hb⟩
          rw [E1.out]
          clear BK1_0 BK1_1 BK1_l BK1_n BK1_m
          have BK1 := Aside0.mk (blk_alloc BK1.out (.cells #[.int .i64 (a), .int .i64 (d)] 27))
          have HB := Aside0.mk (below_alloc HB.out (.cells #[.int .i64 (a), .int .i64 (d)] 27))
          have BK2 := Aside0.mk (blk_new W2 (.cells #[.int .i64 (a), .int .i64 (d)] 27))
          have BK1 := Aside0.mk (blk_below BK1.out hb)
          have BK2 := Aside0.mk (blk_below BK2.out hb)
          have HB := Aside0.mk (below_step HB.out hb)
          clear hb
          have BK1_0 := (blk_cell BK1.out 0).trans (by rfl : _ = some (Value.int .i64 (a)))
          have BK1_1 := (blk_cell BK1.out 1).trans (by rfl : _ = some (Value.int .i64 (b)))
          have BK1_l := blk_lt BK1.out
          have BK1_n := Nat.ne_of_lt (blk_lt BK1.out)
          have BK1_m := Nat.ne_of_gt (blk_lt BK1.out)
          have BK2_0 := (blk_cell BK2.out 0).trans (by rfl : _ = some (Value.int .i64 (a)))
          have BK2_1 := (blk_cell BK2.out 1).trans (by rfl : _ = some (Value.int .i64 (d)))
          have BK2_l := blk_lt BK2.out
          have BK2_n := Nat.ne_of_lt (blk_lt BK2.out)
          have BK2_m := Nat.ne_of_gt (blk_lt BK2.out)
          go_wp2_with (fail)
          refine (impl_DistanceOf_c _).mono ?_
          rintro e V2 ⟨rfl, hb⟩
          rw [E2.out]
          clear BK1_0 BK1_1 BK1_l BK1_n BK1_m BK2_0 BK2_1 BK2_l BK2_n BK2_m
          have BK1 := Aside0.mk (blk_below BK1.out hb)
          have BK2 := Aside0.mk (blk_below BK2.out hb)
          have HB := Aside0.mk (below_step HB.out hb)
          clear hb
          have BK1_0 := (blk_cell BK1.out 0).trans (by rfl : _ = some (Value.int .i64 (a)))
          have BK1_1 := (blk_cell BK1.out 1).trans (by rfl : _ = some (Value.int .i64 (b)))
          have BK1_l := blk_lt BK1.out
          have BK1_n := Nat.ne_of_lt (blk_lt BK1.out)
          have BK1_m := Nat.ne_of_gt (blk_lt BK1.out)
          have BK2_0 := (blk_cell BK2.out 0).trans (by rfl : _ = some (Value.int .i64 (a)))
          have BK2_1 := (blk_cell BK2.out 1).trans (by rfl : _ = some (Value.int .i64 (d)))
          have BK2_l := blk_lt BK2.out
          have BK2_n := Nat.ne_of_lt (blk_lt BK2.out)
          have BK2_m := Nat.ne_of_gt (blk_lt BK2.out)
          go_wp2_with (fail)
          refine (impl_CosDistance_c _).mono ?_
          rintro e V3 ⟨rfl, hb⟩
          rw [E3.out]
          clear BK1_0 BK1_1 BK1_l BK1_n BK1_m BK2_0 BK2_1 BK2_l BK2_n BK2_m
          have BK1 := Aside0.mk (blk_below BK1.out hb)
          have BK2 := Aside0.mk (blk_below BK2.out hb)
          have HB := Aside0.mk (below_step HB.out hb)
          clear hb
          have BK1_0 := (blk_cell BK1.out 0).trans (by rfl : _ = some (Value.int .i64 (a)))
          have BK1_1 := (blk_cell BK1.out 1).trans (by rfl : _ = some (Value.int .i64 (b)))
          have BK1_l := blk_lt BK1.out
          have BK1_n := Nat.ne_of_lt (blk_lt BK1.out)
          have BK1_m := Nat.ne_of_gt (blk_lt BK1.out)
          have BK2_0 := (blk_cell BK2.out 0).trans (by rfl : _ = some (Value.int .i64 (a)))
          have BK2_1 := (blk_cell BK2.out 1).trans (by rfl : _ = some (Value.int .i64 (d)))
          have BK2_l := blk_lt BK2.out
          have BK2_n := Nat.ne_of_lt (blk_lt BK2.out)
          have BK2_m := Nat.ne_of_gt (blk_lt BK2.out)
          go_wp2_with (fail)
          refine (A2Angle_c _ (hr2.out.below HB.out) hx2.out hm).mono ?_
          rintro e V4 ⟨t, t0, t1, rfl, hb⟩
          clear BK1_0 BK1_1 BK1_l BK1_n BK1_m BK2_0 BK2_1 BK2_l BK2_n BK2_m
          have BK1 := Aside0.mk (blk_below BK1.out hb)
          have BK2 := Aside0.mk (blk_below BK2.out hb)
          have HB := Aside0.mk (below_step HB.out hb)
          clear hb
          have BK1_0 := (blk_cell BK1.out 0).trans (by rfl : _ = some (Value.int .i64 (a)))
          have BK1_1 := (blk_cell BK1.out 1).trans (by rfl : _ = some (Value.int .i64 (b)))
          have BK1_l := blk_lt BK1.out
          have BK1_n := Nat.ne_of_lt (blk_lt BK1.out)
          have BK1_m := Nat.ne_of_gt (blk_lt BK1.out)
          have BK2_0 := (blk_cell BK2.out 0).trans (by rfl : _ = some (Value.int .i64 (a)))
          have BK2_1 := (blk_cell BK2.out 1).trans (by rfl : _ = some (Value.int .i64 (d)))
          have BK2_l := blk_lt BK2.out
          have BK2_n := Nat.ne_of_lt (blk_lt BK2.out)
          have BK2_m := Nat.ne_of_gt (blk_lt BK2.out)
          have T1 := Aside0.mk (show sOk a (W (b + t)) by have := hab.out; have := W_bd (b + t); unfold sOk at *; omega)
          have T2 := Aside0.mk (show sOk a (W (d + t)) by have := hcd.out; have := W_bd (d + t); unfold sOk at *; omega)
          have E5 := Aside0.mk (show RDistanceOf a (W (b + t)) a (W (d + t)) = (dist a b a d, 0) by rw [RDistanceOf_in T1.out T2.out, dist_turn (by have := hab.out; unfold sOk at this; omega) (by have := hcd.out; unfold sOk at this; omega)])
          go_wp2_with (fail)
          refine (spec_TurnSpot_c (t := t) hab.out (by omega) _).mono ?_
          rintro e V5 ⟨rfl, hb⟩
          clear BK1_0 BK1_1 BK1_l BK1_n BK1_m BK2_0 BK2_1 BK2_l BK2_n BK2_m
          have BK1 := Aside0.mk (blk_below BK1.out hb)
          have BK2 := Aside0.mk (blk_below BK2.out hb)
          have HB := Aside0.mk (below_step HB.out hb)
          clear hb
          have BK1_0 := (blk_cell BK1.out 0).trans (by rfl : _ = some (Value.int .i64 (a)))
          have BK1_1 := (blk_cell BK1.out 1).trans (by rfl : _ = some (Value.int .i64 (b)))
          have BK1_l := blk_lt BK1.out
          have BK1_n := Nat.ne_of_lt (blk_lt BK1.out)
          have BK1_m := Nat.ne_of_gt (blk_lt BK1.out)
          have BK2_0 := (blk_cell BK2.out 0).trans (by rfl : _ = some (Value.int .i64 (a)))
          have BK2_1 := (blk_cell BK2.out 1).trans (by rfl : _ = some (Value.int .i64 (d)))
          have BK2_l := blk_lt BK2.out
          have BK2_n := Nat.ne_of_lt (blk_lt BK2.out)
          have BK2_m := Nat.ne_of_gt (blk_lt BK2.out)
          go_wp2_with (fail)
          refine (spec_TurnSpot_c (t := t) hcd.out (by omega) _).mono ?_
          rintro e V6 ⟨rfl, hb⟩
          clear BK1_0 BK1_1 BK1_l BK1_n BK1_m BK2_0 BK2_1 BK2_l BK2_n BK2_m
          have BK1 := Aside0.mk (blk_alloc BK1.out (.cells #[.int .i64 (a), .int .i64 (W (b + t))] 27))
          have BK2 := Aside0.mk (blk_alloc BK2.out (.cells #[.int .i64 (a), .int .i64 (W (b + t))] 27))
          have HB := Aside0.mk (below_alloc HB.out (.cells #[.int .i64 (a), .int .i64 (W (b + t))] 27))
          have BK3 := Aside0.mk (blk_new V5 (.cells #[.int .i64 (a), .int .i64 (W (b + t))] 27))
          have BK1 := Aside0.mk (blk_below BK1.out hb)
          have BK2 := Aside0.mk (blk_below BK2.out hb)
          have BK3 := Aside0.mk (blk_below BK3.out hb)
          have HB := Aside0.mk (below_step HB.out hb)
          clear hb
          have BK1_0 := (blk_cell BK1.out 0).trans (by rfl : _ = some (Value.int .i64 (a)))
          have BK1_1 := (blk_cell BK1.out 1).trans (by rfl : _ = some (Value.int .i64 (b)))
          have BK1_l := blk_lt BK1.out
          have BK1_n := Nat.ne_of_lt (blk_lt BK1.out)
          have BK1_m := Nat.ne_of_gt (blk_lt BK1.out)
          have BK2_0 := (blk_cell BK2.out 0).trans (by rfl : _ = some (Value.int .i64 (a)))
          have BK2_1 := (blk_cell BK2.out 1).trans (by rfl : _ = some (Value.int .i64 (d)))
          have BK2_l := blk_lt BK2.out
          have BK2_n := Nat.ne_of_lt (blk_lt BK2.out)
          have BK2_m := Nat.ne_of_gt (blk_lt BK2.out)
          have BK3_0 := (blk_cell BK3.out 0).trans (by rfl : _ = some (Value.int .i64 (a)))
          have BK3_1 := (blk_cell BK3.out 1).trans (by rfl : _ = some (Value.int .i64 (W (b + t))))
          have BK3_l := blk_lt BK3.out
          have BK3_n := Nat.ne_of_lt (blk_lt BK3.out)
          have BK3_m := Nat.ne_of_gt (blk_lt BK3.out)
          go_wp2_with (fail)
          refine (impl_DistanceOf_c _).mono ?_
          rintro e V7 ⟨rfl, hb⟩
          rw [E5.out]
          clear BK1_0 BK1_1 BK1_l BK1_n BK1_m BK2_0 BK2_1 BK2_l BK2_n BK2_m BK3_0 BK3_1 BK3_l BK3_n BK3_m
          have BK1 := Aside0.mk (blk_alloc BK1.out (.cells #[.int .i64 (a), .int .i64 (W (d + t))] 27))
          have BK2 := Aside0.mk (blk_alloc BK2.out (.cells #[.int .i64 (a), .int .i64 (W (d + t))] 27))
          have BK3 := Aside0.mk (blk_alloc BK3.out (.cells #[.int .i64 (a), .int .i64 (W (d + t))] 27))
          have HB := Aside0.mk (below_alloc HB.out (.cells #[.int .i64 (a), .int .i64 (W (d + t))] 27))
          have BK4 := Aside0.mk (blk_new V6 (.cells #[.int .i64 (a), .int .i64 (W (d + t))] 27))
          have BK1 := Aside0.mk (blk_below BK1.out hb)
          have BK2 := Aside0.mk (blk_below BK2.out hb)
          have BK3 := Aside0.mk (blk_below BK3.out hb)
          have BK4 := Aside0.mk (blk_below BK4.out hb)
          have HB := Aside0.mk (below_step HB.out hb)
          clear hb
          have BK1_0 := (blk_cell BK1.out 0).trans (by rfl : _ = some (Value.int .i64 (a)))
          have BK1_1 := (blk_cell BK1.out 1).trans (by rfl : _ = some (Value.int .i64 (b)))
          have BK1_l := blk_lt BK1.out
          have BK1_n := Nat.ne_of_lt (blk_lt BK1.out)
          have BK1_m := Nat.ne_of_gt (blk_lt BK1.out)
          have BK2_0 := (blk_cell BK2.out 0).trans (by rfl : _ = some (Value.int .i64 (a)))
          have BK2_1 := (blk_cell BK2.out 1).trans (by rfl : _ = some (Value.int .i64 (d)))
          have BK2_l := blk_lt BK2.out
          have BK2_n := Nat.ne_of_lt (blk_lt BK2.out)
          have BK2_m := Nat.ne_of_gt (blk_lt BK2.out)
          have BK3_0 := (blk_cell BK3.out 0).trans (by rfl : _ = some (Value.int .i64 (a)))
          have BK3_1 := (blk_cell BK3.out 1).trans (by rfl : _ = some (Value.int .i64 (W (b + t))))
          have BK3_l := blk_lt BK3.out
          have BK3_n := Nat.ne_of_lt (blk_lt BK3.out)
          have BK3_m := Nat.ne_of_gt (blk_lt BK3.out)
          have BK4_0 := (blk_cell BK4.out 0).trans (by rfl : _ = some (Value.int .i64 (a)))
          have BK4_1 := (blk_cell BK4.out 1).trans (by rfl : _ = some (Value.int .i64 (W (d + t))))
          have BK4_l := blk_lt BK4.out
          have BK4_n := Nat.ne_of_lt (blk_lt BK4.out)
          have BK4_m := Nat.ne_of_gt (blk_lt BK4.out)
          go_wp2_with (fail)
          refine (impl_DistanceOf_c _).mono ?_
          rintro e V8 ⟨rfl, hb⟩
          rw [E4.out]
          clear BK1_0 BK1_1 BK1_l BK1_n BK1_m BK2_0 BK2_1 BK2_l BK2_n BK2_m BK3_0 BK3_1 BK3_l BK3_n BK3_m BK4_0 BK4_1 BK4_l BK4_n BK4_m
          have BK1 := Aside0.mk (blk_below BK1.out hb)
          have BK2 := Aside0.mk (blk_below BK2.out hb)
          have BK3 := Aside0.mk (blk_below BK3.out hb)
          have BK4 := Aside0.mk (blk_below BK4.out hb)
          have HB := Aside0.mk (below_step HB.out hb)
          clear hb
          go_wp2
          go_ret
          exact ⟨by first | rfl | (simp; done), by repeat (first | (with_reducible first | exact HB.out | apply below_alloc | apply pw_below_drewN | apply below_drew1) | exact HB.out)⟩
    · have q1 : (a == c) = false := by simp [hac]
      obtain ⟨f0, f1, f2⟩ := f (fun e => hac e.1)
      by_cases z : 0 ≤ cosD a b c d
      · have f3 := f1 z
        have q0 : (dist a b c d == 0) = false := by simp; omega
        clear f1 f2 f
        have E1 := show RDistanceOf a b c d = (dist a b c d, 0) by rw [RDistanceOf_in hab.out hcd.out]
        have E2 := show RDistanceOf c d a b = (dist a b c d, 0) by rw [RDistanceOf_in hcd.out hab.out, dist_sym]
        have E3 := show RCosDistance a b c d = (cosD a b c d, 0) from RCosDistance_in hab.out hcd.out
        have E4 := show RDistanceOf (-a) b (-c) d = (dist a b c d, 0) by rw [RDistanceOf_in (by have := hab.out; unfold sOk at *; omega) (by have := hcd.out; unfold sOk at *; omega), dist_mirror]
        obtain ⟨c0, c1⟩ := cosD_bd a b c d
        have E1 := Aside0.mk E1
        have E2 := Aside0.mk E2
        have E3 := Aside0.mk E3
        have E4 := Aside0.mk E4
        have L1 : 0 ≤ a + 324000 ∧ a ≤ 324000 := by have := hab.out; unfold sOk at this; omega
        have L2 : 0 ≤ c + 324000 ∧ c ≤ 324000 := by have := hcd.out; unfold sOk at this; omega
        go_wp2_with (fail)
        refine (impl_DistanceOf_c _).mono ?_
        rintro e V1 ⟨rfl, hb⟩
        rw [E1.out]
        clear BK1_0 BK1_1 BK1_l BK1_n BK1_m
        have BK1 := Aside0.mk (blk_alloc BK1.out (.cells #[.int .i64 (c), .int .i64 (d)] 27))
        have HB := Aside0.mk (below_alloc HB.out (.cells #[.int .i64 (c), .int .i64 (d)] 27))
        have BK2 := Aside0.mk (blk_new W2 (.cells #[.int .i64 (c), .int .i64 (d)] 27))
        have BK1 := Aside0.mk (blk_below BK1.out hb)
        have BK2 := Aside0.mk (blk_below BK2.out hb)
        have HB := Aside0.mk (below_step HB.out hb)
        clear hb
        have BK1_0 := (blk_cell BK1.out 0).trans (by rfl : _ = some (Value.int .i64 (a)))
        have BK1_1 := (blk_cell BK1.out 1).trans (by rfl : _ = some (Value.int .i64 (b)))
        have BK1_l := blk_lt BK1.out
        have BK1_n := Nat.ne_of_lt (blk_lt BK1.out)
        have BK1_m := Nat.ne_of_gt (blk_lt BK1.out)
        have BK2_0 := (blk_cell BK2.out 0).trans (by rfl : _ = some (Value.int .i64 (c)))
        have BK2_1 := (blk_cell BK2.out 1).trans (by rfl : _ = some (Value.int .i64 (d)))
        have BK2_l := blk_lt BK2.out
        have BK2_n := Nat.ne_of_lt (blk_lt BK2.out)
        have BK2_m := Nat.ne_of_gt (blk_lt BK2.out)
        go_wp2_with (fail)
        refine (impl_DistanceOf_c _).mono ?_
        rintro e V2 ⟨rfl, hb⟩
        rw [E2.out]
        clear BK1_0 BK1_1 BK1_l BK1_n BK1_m BK2_0 BK2_1 BK2_l BK2_n BK2_m
        have BK1 := Aside0.mk (blk_below BK1.out hb)
        have BK2 := Aside0.mk (blk_below BK2.out hb)
        have HB := Aside0.mk (below_step HB.out hb)
        clear hb
        have BK1_0 := (blk_cell BK1.out 0).trans (by rfl : _ = some (Value.int .i64 (a)))
        have BK1_1 := (blk_cell BK1.out 1).trans (by rfl : _ = some (Value.int .i64 (b)))
        have BK1_l := blk_lt BK1.out
        have BK1_n := Nat.ne_of_lt (blk_lt BK1.out)
        have BK1_m := Nat.ne_of_gt (blk_lt BK1.out)
        have BK2_0 := (blk_cell BK2.out 0).trans (by rfl : _ = some (Value.int .i64 (c)))
        have BK2_1 := (blk_cell BK2.out 1).trans (by rfl : _ = some (Value.int .i64 (d)))
        have BK2_l := blk_lt BK2.out
        have BK2_n := Nat.ne_of_lt (blk_lt BK2.out)
        have BK2_m := Nat.ne_of_gt (blk_lt BK2.out)
        go_wp2_with (fail)
        refine (impl_CosDistance_c _).mono ?_
        rintro e V3 ⟨rfl, hb⟩
        rw [E3.out]
        clear BK1_0 BK1_1 BK1_l BK1_n BK1_m BK2_0 BK2_1 BK2_l BK2_n BK2_m
        have BK1 := Aside0.mk (blk_below BK1.out hb)
        have BK2 := Aside0.mk (blk_below BK2.out hb)
        have HB := Aside0.mk (below_step HB.out hb)
        clear hb
        have BK1_0 := (blk_cell BK1.out 0).trans (by rfl : _ = some (Value.int .i64 (a)))
        have BK1_1 := (blk_cell BK1.out 1).trans (by rfl : _ = some (Value.int .i64 (b)))
        have BK1_l := blk_lt BK1.out
        have BK1_n := Nat.ne_of_lt (blk_lt BK1.out)
        have BK1_m := Nat.ne_of_gt (blk_lt BK1.out)
        have BK2_0 := (blk_cell BK2.out 0).trans (by rfl : _ = some (Value.int .i64 (c)))
        have BK2_1 := (blk_cell BK2.out 1).trans (by rfl : _ = some (Value.int .i64 (d)))
        have BK2_l := blk_lt BK2.out
        have BK2_n := Nat.ne_of_lt (blk_lt BK2.out)
        have BK2_m := Nat.ne_of_gt (blk_lt BK2.out)
        go_wp2_with (fail)
        refine (A2Angle_c _ (hr2.out.below HB.out) hx2.out hm).mono ?_
        rintro e V4 ⟨t, t0, t1, rfl, hb⟩
        clear BK1_0 BK1_1 BK1_l BK1_n BK1_m BK2_0 BK2_1 BK2_l BK2_n BK2_m
        have BK1 := Aside0.mk (blk_below BK1.out hb)
        have BK2 := Aside0.mk (blk_below BK2.out hb)
        have HB := Aside0.mk (below_step HB.out hb)
        clear hb
        have BK1_0 := (blk_cell BK1.out 0).trans (by rfl : _ = some (Value.int .i64 (a)))
        have BK1_1 := (blk_cell BK1.out 1).trans (by rfl : _ = some (Value.int .i64 (b)))
        have BK1_l := blk_lt BK1.out
        have BK1_n := Nat.ne_of_lt (blk_lt BK1.out)
        have BK1_m := Nat.ne_of_gt (blk_lt BK1.out)
        have BK2_0 := (blk_cell BK2.out 0).trans (by rfl : _ = some (Value.int .i64 (c)))
        have BK2_1 := (blk_cell BK2.out 1).trans (by rfl : _ = some (Value.int .i64 (d)))
        have BK2_l := blk_lt BK2.out
        have BK2_n := Nat.ne_of_lt (blk_lt BK2.out)
        have BK2_m := Nat.ne_of_gt (blk_lt BK2.out)
        have T1 := Aside0.mk (show sOk a (W (b + t)) by have := hab.out; have := W_bd (b + t); unfold sOk at *; omega)
        have T2 := Aside0.mk (show sOk c (W (d + t)) by have := hcd.out; have := W_bd (d + t); unfold sOk at *; omega)
        have E5 := Aside0.mk (show RDistanceOf a (W (b + t)) c (W (d + t)) = (dist a b c d, 0) by rw [RDistanceOf_in T1.out T2.out, dist_turn (by have := hab.out; unfold sOk at this; omega) (by have := hcd.out; unfold sOk at this; omega)])
        go_wp2_with (fail)
        refine (spec_TurnSpot_c (t := t) hab.out (by omega) _).mono ?_
        rintro e V5 ⟨rfl, hb⟩
        clear BK1_0 BK1_1 BK1_l BK1_n BK1_m BK2_0 BK2_1 BK2_l BK2_n BK2_m
        have BK1 := Aside0.mk (blk_below BK1.out hb)
        have BK2 := Aside0.mk (blk_below BK2.out hb)
        have HB := Aside0.mk (below_step HB.out hb)
        clear hb
        have BK1_0 := (blk_cell BK1.out 0).trans (by rfl : _ = some (Value.int .i64 (a)))
        have BK1_1 := (blk_cell BK1.out 1).trans (by rfl : _ = some (Value.int .i64 (b)))
        have BK1_l := blk_lt BK1.out
        have BK1_n := Nat.ne_of_lt (blk_lt BK1.out)
        have BK1_m := Nat.ne_of_gt (blk_lt BK1.out)
        have BK2_0 := (blk_cell BK2.out 0).trans (by rfl : _ = some (Value.int .i64 (c)))
        have BK2_1 := (blk_cell BK2.out 1).trans (by rfl : _ = some (Value.int .i64 (d)))
        have BK2_l := blk_lt BK2.out
        have BK2_n := Nat.ne_of_lt (blk_lt BK2.out)
        have BK2_m := Nat.ne_of_gt (blk_lt BK2.out)
        go_wp2_with (fail)
        refine (spec_TurnSpot_c (t := t) hcd.out (by omega) _).mono ?_
        rintro e V6 ⟨rfl, hb⟩
        clear BK1_0 BK1_1 BK1_l BK1_n BK1_m BK2_0 BK2_1 BK2_l BK2_n BK2_m
        have BK1 := Aside0.mk (blk_alloc BK1.out (.cells #[.int .i64 (a), .int .i64 (W (b + t))] 27))
        have BK2 := Aside0.mk (blk_alloc BK2.out (.cells #[.int .i64 (a), .int .i64 (W (b + t))] 27))
        have HB := Aside0.mk (below_alloc HB.out (.cells #[.int .i64 (a), .int .i64 (W (b + t))] 27))
        have BK3 := Aside0.mk (blk_new V5 (.cells #[.int .i64 (a), .int .i64 (W (b + t))] 27))
        have BK1 := Aside0.mk (blk_below BK1.out hb)
        have BK2 := Aside0.mk (blk_below BK2.out hb)
        have BK3 := Aside0.mk (blk_below BK3.out hb)
        have HB := Aside0.mk (below_step HB.out hb)
        clear hb
        have BK1_0 := (blk_cell BK1.out 0).trans (by rfl : _ = some (Value.int .i64 (a)))
        have BK1_1 := (blk_cell BK1.out 1).trans (by rfl : _ = some (Value.int .i64 (b)))
        have BK1_l := blk_lt BK1.out
        have BK1_n := Nat.ne_of_lt (blk_lt BK1.out)
        have BK1_m := Nat.ne_of_gt (blk_lt BK1.out)
        have BK2_0 := (blk_cell BK2.out 0).trans (by rfl : _ = some (Value.int .i64 (c)))
        have BK2_1 := (blk_cell BK2.out 1).trans (by rfl : _ = some (Value.int .i64 (d)))
        have BK2_l := blk_lt BK2.out
        have BK2_n := Nat.ne_of_lt (blk_lt BK2.out)
        have BK2_m := Nat.ne_of_gt (blk_lt BK2.out)
        have BK3_0 := (blk_cell BK3.out 0).trans (by rfl : _ = some (Value.int .i64 (a)))
        have BK3_1 := (blk_cell BK3.out 1).trans (by rfl : _ = some (Value.int .i64 (W (b + t))))
        have BK3_l := blk_lt BK3.out
        have BK3_n := Nat.ne_of_lt (blk_lt BK3.out)
        have BK3_m := Nat.ne_of_gt (blk_lt BK3.out)
        go_wp2_with (fail)
        refine (impl_DistanceOf_c _).mono ?_
        rintro e V7 ⟨rfl, hb⟩
        rw [E5.out]
        clear BK1_0 BK1_1 BK1_l BK1_n BK1_m BK2_0 BK2_1 BK2_l BK2_n BK2_m BK3_0 BK3_1 BK3_l BK3_n BK3_m
        have BK1 := Aside0.mk (blk_alloc BK1.out (.cells #[.int .i64 (c), .int .i64 (W (d + t))] 27))
        have BK2 := Aside0.mk (blk_alloc BK2.out (.cells #[.int .i64 (c), .int .i64 (W (d + t))] 27))
        have BK3 := Aside0.mk (blk_alloc BK3.out (.cells #[.int .i64 (c), .int .i64 (W (d + t))] 27))
        have HB := Aside0.mk (below_alloc HB.out (.cells #[.int .i64 (c), .int .i64 (W (d + t))] 27))
        have BK4 := Aside0.mk (blk_new V6 (.cells #[.int .i64 (c), .int .i64 (W (d + t))] 27))
        have BK1 := Aside0.mk (blk_below BK1.out hb)
        have BK2 := Aside0.mk (blk_below BK2.out hb)
        have BK3 := Aside0.mk (blk_below BK3.out hb)
        have BK4 := Aside0.mk (blk_below BK4.out hb)
        have HB := Aside0.mk (below_step HB.out hb)
        clear hb
        have BK1_0 := (blk_cell BK1.out 0).trans (by rfl : _ = some (Value.int .i64 (a)))
        have BK1_1 := (blk_cell BK1.out 1).trans (by rfl : _ = some (Value.int .i64 (b)))
        have BK1_l := blk_lt BK1.out
        have BK1_n := Nat.ne_of_lt (blk_lt BK1.out)
        have BK1_m := Nat.ne_of_gt (blk_lt BK1.out)
        have BK2_0 := (blk_cell BK2.out 0).trans (by rfl : _ = some (Value.int .i64 (c)))
        have BK2_1 := (blk_cell BK2.out 1).trans (by rfl : _ = some (Value.int .i64 (d)))
        have BK2_l := blk_lt BK2.out
        have BK2_n := Nat.ne_of_lt (blk_lt BK2.out)
        have BK2_m := Nat.ne_of_gt (blk_lt BK2.out)
        have BK3_0 := (blk_cell BK3.out 0).trans (by rfl : _ = some (Value.int .i64 (a)))
        have BK3_1 := (blk_cell BK3.out 1).trans (by rfl : _ = some (Value.int .i64 (W (b + t))))
        have BK3_l := blk_lt BK3.out
        have BK3_n := Nat.ne_of_lt (blk_lt BK3.out)
        have BK3_m := Nat.ne_of_gt (blk_lt BK3.out)
        have BK4_0 := (blk_cell BK4.out 0).trans (by rfl : _ = some (Value.int .i64 (c)))
        have BK4_1 := (blk_cell BK4.out 1).trans (by rfl : _ = some (Value.int .i64 (W (d + t))))
        have BK4_l := blk_lt BK4.out
        have BK4_n := Nat.ne_of_lt (blk_lt BK4.out)
        have BK4_m := Nat.ne_of_gt (blk_lt BK4.out)
        go_wp2_with (fail)
        refine (impl_DistanceOf_c _).mono ?_
        rintro e V8 ⟨rfl, hb⟩
        rw [E4.out]
        clear BK1_0 BK1_1 BK1_l BK1_n BK1_m BK2_0 BK2_1 BK2_l BK2_n BK2_m BK3_0 BK3_1 BK3_l BK3_n BK3_m BK4_0 BK4_1 BK4_l BK4_n BK4_m
        have BK1 := Aside0.mk (blk_below BK1.out hb)
        have BK2 := Aside0.mk (blk_below BK2.out hb)
        have BK3 := Aside0.mk (blk_below BK3.out hb)
        have BK4 := Aside0.mk (blk_below BK4.out hb)
        have HB := Aside0.mk (below_step HB.out hb)
        clear hb
        go_wp2
        go_ret
        exact ⟨by first | rfl | (simp; done), by repeat (first | (with_reducible first | exact HB.out | apply below_alloc | apply pw_below_drewN | apply below_drew1) | exact HB.out)⟩
      · have f3 := f2 (by omega)
        have q0 : (dist a b c d == 0) = false := by simp; omega
        have z2 : cosD a b c d < 0 := by omega
        have z3 : decide (0 ≤ cosD a b c d) = false := decide_eq_false (by omega)
        have z4 : decide (dist a b c d ≤ 324000) = false := decide_eq_false (by omega)
        clear f1 f2 f
        have E1 := show RDistanceOf a b c d = (dist a b c d, 0) by rw [RDistanceOf_in hab.out hcd.out]
        have E2 := show RDistanceOf c d a b = (dist a b c d, 0) by rw [RDistanceOf_in hcd.out hab.out, dist_sym]
        have E3 := show RCosDistance a b c d = (cosD a b c d, 0) from RCosDistance_in hab.out hcd.out
        have E4 := show RDistanceOf (-a) b (-c) d = (dist a b c d, 0) by rw [RDistanceOf_in (by have := hab.out; unfold sOk at *; omega) (by have := hcd.out; unfold sOk at *; omega), dist_mirror]
        obtain ⟨c0, c1⟩ := cosD_bd a b c d
        have E1 := Aside0.mk E1
        have E2 := Aside0.mk E2
        have E3 := Aside0.mk E3
        have E4 := Aside0.mk E4
        have L1 : 0 ≤ a + 324000 ∧ a ≤ 324000 := by have := hab.out; unfold sOk at this; omega
        have L2 : 0 ≤ c + 324000 ∧ c ≤ 324000 := by have := hcd.out; unfold sOk at this; omega
        go_wp2_with (fail)
        refine (impl_DistanceOf_c _).mono ?_
        rintro e V1 ⟨rfl, hb⟩
        rw [E1.out]
        clear BK1_0 BK1_1 BK1_l BK1_n BK1_m
        have BK1 := Aside0.mk (blk_alloc BK1.out (.cells #[.int .i64 (c), .int .i64 (d)] 27))
        have HB := Aside0.mk (below_alloc HB.out (.cells #[.int .i64 (c), .int .i64 (d)] 27))
        have BK2 := Aside0.mk (blk_new W2 (.cells #[.int .i64 (c), .int .i64 (d)] 27))
        have BK1 := Aside0.mk (blk_below BK1.out hb)
        have BK2 := Aside0.mk (blk_below BK2.out hb)
        have HB := Aside0.mk (below_step HB.out hb)
        clear hb
        have BK1_0 := (blk_cell BK1.out 0).trans (by rfl : _ = some (Value.int .i64 (a)))
        have BK1_1 := (blk_cell BK1.out 1).trans (by rfl : _ = some (Value.int .i64 (b)))
        have BK1_l := blk_lt BK1.out
        have BK1_n := Nat.ne_of_lt (blk_lt BK1.out)
        have BK1_m := Nat.ne_of_gt (blk_lt BK1.out)
        have BK2_0 := (blk_cell BK2.out 0).trans (by rfl : _ = some (Value.int .i64 (c)))
        have BK2_1 := (blk_cell BK2.out 1).trans (by rfl : _ = some (Value.int .i64 (d)))
        have BK2_l := blk_lt BK2.out
        have BK2_n := Nat.ne_of_lt (blk_lt BK2.out)
        have BK2_m := Nat.ne_of_gt (blk_lt BK2.out)
        go_wp2_with (fail)
        refine (impl_DistanceOf_c _).mono ?_
        rintro e V2 ⟨rfl, hb⟩
        rw [E2.out]
        clear BK1_0 BK1_1 BK1_l BK1_n BK1_m BK2_0 BK2_1 BK2_l BK2_n BK2_m
        have BK1 := Aside0.mk (blk_below BK1.out hb)
        have BK2 := Aside0.mk (blk_below BK2.out hb)
        have HB := Aside0.mk (below_step HB.out hb)
        clear hb
        have BK1_0 := (blk_cell BK1.out 0).trans (by rfl : _ = some (Value.int .i64 (a)))
        have BK1_1 := (blk_cell BK1.out 1).trans (by rfl : _ = some (Value.int .i64 (b)))
        have BK1_l := blk_lt BK1.out
        have BK1_n := Nat.ne_of_lt (blk_lt BK1.out)
        have BK1_m := Nat.ne_of_gt (blk_lt BK1.out)
        have BK2_0 := (blk_cell BK2.out 0).trans (by rfl : _ = some (Value.int .i64 (c)))
        have BK2_1 := (blk_cell BK2.out 1).trans (by rfl : _ = some (Value.int .i64 (d)))
        have BK2_l := blk_lt BK2.out
        have BK2_n := Nat.ne_of_lt (blk_lt BK2.out)
        have BK2_m := Nat.ne_of_gt (blk_lt BK2.out)
        go_wp2_with (fail)
        refine (impl_CosDistance_c _).mono ?_
        rintro e V3 ⟨rfl, hb⟩
        rw [E3.out]
        clear BK1_0 BK1_1 BK1_l BK1_n BK1_m BK2_0 BK2_1 BK2_l BK2_n BK2_m
        have BK1 := Aside0.mk (blk_below BK1.out hb)
        have BK2 := Aside0.mk (blk_below BK2.out hb)
        have HB := Aside0.mk (below_step HB.out hb)
        clear hb
        have BK1_0 := (blk_cell BK1.out 0).trans (by rfl : _ = some (Value.int .i64 (a)))
        have BK1_1 := (blk_cell BK1.out 1).trans (by rfl : _ = some (Value.int .i64 (b)))
        have BK1_l := blk_lt BK1.out
        have BK1_n := Nat.ne_of_lt (blk_lt BK1.out)
        have BK1_m := Nat.ne_of_gt (blk_lt BK1.out)
        have BK2_0 := (blk_cell BK2.out 0).trans (by rfl : _ = some (Value.int .i64 (c)))
        have BK2_1 := (blk_cell BK2.out 1).trans (by rfl : _ = some (Value.int .i64 (d)))
        have BK2_l := blk_lt BK2.out
        have BK2_n := Nat.ne_of_lt (blk_lt BK2.out)
        have BK2_m := Nat.ne_of_gt (blk_lt BK2.out)
        go_wp2_with (fail)
        refine (A2Angle_c _ (hr2.out.below HB.out) hx2.out hm).mono ?_
        rintro e V4 ⟨t, t0, t1, rfl, hb⟩
        clear BK1_0 BK1_1 BK1_l BK1_n BK1_m BK2_0 BK2_1 BK2_l BK2_n BK2_m
        have BK1 := Aside0.mk (blk_below BK1.out hb)
        have BK2 := Aside0.mk (blk_below BK2.out hb)
        have HB := Aside0.mk (below_step HB.out hb)
        clear hb
        have BK1_0 := (blk_cell BK1.out 0).trans (by rfl : _ = some (Value.int .i64 (a)))
        have BK1_1 := (blk_cell BK1.out 1).trans (by rfl : _ = some (Value.int .i64 (b)))
        have BK1_l := blk_lt BK1.out
        have BK1_n := Nat.ne_of_lt (blk_lt BK1.out)
        have BK1_m := Nat.ne_of_gt (blk_lt BK1.out)
        have BK2_0 := (blk_cell BK2.out 0).trans (by rfl : _ = some (Value.int .i64 (c)))
        have BK2_1 := (blk_cell BK2.out 1).trans (by rfl : _ = some (Value.int .i64 (d)))
        have BK2_l := blk_lt BK2.out
        have BK2_n := Nat.ne_of_lt (blk_lt BK2.out)
        have BK2_m := Nat.ne_of_gt (blk_lt BK2.out)
        have T1 := Aside0.mk (show sOk a (W (b + t)) by have := hab.out; have := W_bd (b + t); unfold sOk at *; omega)
        have T2 := Aside0.mk (show sOk c (W (d + t)) by have := hcd.out; have := W_bd (d + t); unfold sOk at *; omega)
        have E5 := Aside0.mk (show RDistanceOf a (W (b + t)) c (W (d + t)) = (dist a b c d, 0) by rw [RDistanceOf_in T1.out T2.out, dist_turn (by have := hab.out; unfold sOk at this; omega) (by have := hcd.out; unfold sOk at this; omega)])
        go_wp2_with (fail)
        refine (spec_TurnSpot_c (t := t) hab.out (by omega) _).mono ?_
        rintro e V5 ⟨rfl, hb⟩
        clear BK1_0 BK1_1 BK1_l BK1_n BK1_m BK2_0 BK2_1 BK2_l BK2_n BK2_m
        have BK1 := Aside0.mk (blk_below BK1.out hb)
        have BK2 := Aside0.mk (blk_below BK2.out hb)
        have HB := Aside0.mk (below_step HB.out hb)
        clear hb
        have BK1_0 := (blk_cell BK1.out 0).trans (by rfl : _ = some (Value.int .i64 (a)))
        have BK1_1 := (blk_cell BK1.out 1).trans (by rfl : _ = some (Value.int .i64 (b)))
        have BK1_l := blk_lt BK1.out
        have BK1_n := Nat.ne_of_lt (blk_lt BK1.out)
        have BK1_m := Nat.ne_of_gt (blk_lt BK1.out)
        have BK2_0 := (blk_cell BK2.out 0).trans (by rfl : _ = some (Value.int .i64 (c)))
        have BK2_1 := (blk_cell BK2.out 1).trans (by rfl : _ = some (Value.int .i64 (d)))
        have BK2_l := blk_lt BK2.out
        have BK2_n := Nat.ne_of_lt (blk_lt BK2.out)
        have BK2_m := Nat.ne_of_gt (blk_lt BK2.out)
        go_wp2_with (fail)
        refine (spec_TurnSpot_c (t := t) hcd.out (by omega) _).mono ?_
        rintro e V6 ⟨rfl, hb⟩
        clear BK1_0 BK1_1 BK1_l BK1_n BK1_m BK2_0 BK2_1 BK2_l BK2_n BK2_m
        have BK1 := Aside0.mk (blk_alloc BK1.out (.cells #[.int .i64 (a), .int .i64 (W (b + t))] 27))
        have BK2 := Aside0.mk (blk_alloc BK2.out (.cells #[.int .i64 (a), .int .i64 (W (b + t))] 27))
        have HB := Aside0.mk (below_alloc HB.out (.cells #[.int .i64 (a), .int .i64 (W (b + t))] 27))
        have BK3 := Aside0.mk (blk_new V5 (.cells #[.int .i64 (a), .int .i64 (W (b + t))] 27))
        have BK1 := Aside0.mk (blk_below BK1.out hb)
        have BK2 := Aside0.mk (blk_below BK2.out hb)
        have BK3 := Aside0.mk (blk_below BK3.out hb)
        have HB := Aside0.mk (below_step HB.out hb)
        clear hb
        have BK1_0 := (blk_cell BK1.out 0).trans (by rfl : _ = some (Value.int .i64 (a)))
        have BK1_1 := (blk_cell BK1.out 1).trans (by rfl : _ = some (Value.int .i64 (b)))
        have BK1_l := blk_lt BK1.out
        have BK1_n := Nat.ne_of_lt (blk_lt BK1.out)
        have BK1_m := Nat.ne_of_gt (blk_lt BK1.out)
        have BK2_0 := (blk_cell BK2.out 0).trans (by rfl : _ = some (Value.int .i64 (c)))
        have BK2_1 := (blk_cell BK2.out 1).trans (by rfl : _ = some (Value.int .i64 (d)))
        have BK2_l := blk_lt BK2.out
        have BK2_n := Nat.ne_of_lt (blk_lt BK2.out)
        have BK2_m := Nat.ne_of_gt (blk_lt BK2.out)
        have BK3_0 := (blk_cell BK3.out 0).trans (by rfl : _ = some (Value.int .i64 (a)))
        have BK3_1 := (blk_cell BK3.out 1).trans (by rfl : _ = some (Value.int .i64 (W (b + t))))
        have BK3_l := blk_lt BK3.out
        have BK3_n := Nat.ne_of_lt (blk_lt BK3.out)
        have BK3_m := Nat.ne_of_gt (blk_lt BK3.out)
        go_wp2_with (fail)
        refine (impl_DistanceOf_c _).mono ?_
        rintro e V7 ⟨rfl, hb⟩
        rw [E5.out]
        clear BK1_0 BK1_1 BK1_l BK1_n BK1_m BK2_0 BK2_1 BK2_l BK2_n BK2_m BK3_0 BK3_1 BK3_l BK3_n BK3_m
        have BK1 := Aside0.mk (blk_alloc BK1.out (.cells #[.int .i64 (c), .int .i64 (W (d + t))] 27))
        have BK2 := Aside0.mk (blk_alloc BK2.out (.cells #[.int .i64 (c), .int .i64 (W (d + t))] 27))
        have BK3 := Aside0.mk (blk_alloc BK3.out (.cells #[.int .i64 (c), .int .i64 (W (d + t))] 27))
        have HB := Aside0.mk (below_alloc HB.out (.cells #[.int .i64 (c), .int .i64 (W (d + t))] 27))
        have BK4 := Aside0.mk (blk_new V6 (.cells #[.int .i64 (c), .int .i64 (W (d + t))] 27))
        have BK1 := Aside0.mk (blk_below BK1.out hb)
        have BK2 := Aside0.mk (blk_below BK2.out hb)
        have BK3 := Aside0.mk (blk_below BK3.out hb)
        have BK4 := Aside0.mk (blk_below BK4.out hb)
        have HB := Aside0.mk (below_step HB.out hb)
        clear hb
        have BK1_0 := (blk_cell BK1.out 0).trans (by rfl : _ = some (Value.int .i64 (a)))
        have BK1_1 := (blk_cell BK1.out 1).trans (by rfl : _ = some (Value.int .i64 (b)))
        have BK1_l := blk_lt BK1.out
        have BK1_n := Nat.ne_of_lt (blk_lt BK1.out)
        have BK1_m := Nat.ne_of_gt (blk_lt BK1.out)
        have BK2_0 := (blk_cell BK2.out 0).trans (by rfl : _ = some (Value.int .i64 (c)))
        have BK2_1 := (blk_cell BK2.out 1).trans (by rfl : _ = some (Value.int .i64 (d)))
        have BK2_l := blk_lt BK2.out
        have BK2_n := Nat.ne_of_lt (blk_lt BK2.out)
        have BK2_m := Nat.ne_of_gt (blk_lt BK2.out)
        have BK3_0 := (blk_cell BK3.out 0).trans (by rfl : _ = some (Value.int .i64 (a)))
        have BK3_1 := (blk_cell BK3.out 1).trans (by rfl : _ = some (Value.int .i64 (W (b + t))))
        have BK3_l := blk_lt BK3.out
        have BK3_n := Nat.ne_of_lt (blk_lt BK3.out)
        have BK3_m := Nat.ne_of_gt (blk_lt BK3.out)
        have BK4_0 := (blk_cell BK4.out 0).trans (by rfl : _ = some (Value.int .i64 (c)))
        have BK4_1 := (blk_cell BK4.out 1).trans (by rfl : _ = some (Value.int .i64 (W (d + t))))
        have BK4_l := blk_lt BK4.out
        have BK4_n := Nat.ne_of_lt (blk_lt BK4.out)
        have BK4_m := Nat.ne_of_gt (blk_lt BK4.out)
        go_wp2_with (fail)
        refine (impl_DistanceOf_c _).mono ?_
        rintro e V8 ⟨rfl, hb⟩
        rw [E4.out]
        clear BK1_0 BK1_1 BK1_l BK1_n BK1_m BK2_0 BK2_1 BK2_l BK2_n BK2_m BK3_0 BK3_1 BK3_l BK3_n BK3_m BK4_0 BK4_1 BK4_l BK4_n BK4_m
        have BK1 := Aside0.mk (blk_below BK1.out hb)
        have BK2 := Aside0.mk (blk_below BK2.out hb)
        have BK3 := Aside0.mk (blk_below BK3.out hb)
        have BK4 := Aside0.mk (blk_below BK4.out hb)
        have HB := Aside0.mk (below_step HB.out hb)
        clear hb
        go_wp2
        go_ret
        exact ⟨by first | rfl | (simp; done), by repeat (first | (with_reducible first | exact HB.out | apply below_alloc | apply pw_below_drewN | apply below_drew1) | exact HB.out)⟩
end Go.Proofs.Ytgfclbfkkekkmaa.Con
