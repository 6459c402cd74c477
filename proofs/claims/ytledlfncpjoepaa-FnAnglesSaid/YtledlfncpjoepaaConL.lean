/- Angles and places that the source draws: what wraps, turns and antipodes answer there. Conditions: as stated. -/
import Derived.Test.YtledlfncpjoepaaConK
import Derived.Test.YtledlfncpjoepaaPkD
namespace Go.Proofs.Ytledlfncpjoepaa.Con
open Go.RowKit Go.Proofs.YtledlfncpjoepaaW.PrintWords Go.Proofs.YtledlfncpjoepaaW.PrintLast Go.Proofs.YtledlfncpjoepaaW.PrintMore Go.Proofs.Ytledlfncpjoepaa.Mth
attribute [local go_sem] max2_int min2_int max_two min_two max_three min_three
set_option linter.unusedVariables false
set_option linter.unusedSimpArgs false
theorem eqSpot (d : Nat) (w : World) (x0 y0 : Int) (x1 y1 : Int) :
    (Op.equalIn (d + 2) 36 (.agg #[.int .i64 x0, .int .i64 x1]) (.agg #[.int .i64 y0, .int .i64 y1])).run Try.prog w = .ok (x0 == y0 && (x1 == y1)) w := by
  refine eqA_of Try.underlying36 (by kernel_rfl) ?_
  refine eqf_cons (by rfl) (by go_simp; rfl) (by go_simp; rfl) (by go_simp) ?_
  exact eqf_last (by rfl) (by go_simp; rfl) (by go_simp; rfl) (by go_simp)
attribute [local go_sem high] eqSpot
theorem impl_WrapLon_k {a : Int} (h : -1000000000 ≤ a ∧ a ≤ 1000000000) (w : World) : Calls Try.prog 28 #[.int .i64 a] w fun e w' => e = .returned (.tuple #[.int .i64 (W a), .int .i64 0]) ∧ Drawn0 w w' :=
  PFnAngles.impl_WrapLon.calls a (W a) 0 w (by rw [PFnAngles.impl_WrapLon_eq]; unfold RWrapLon; rw [if_pos (by unfold angOk; omega)])
theorem impl_LonDifference_k {a b : Int} (h : -1000000 ≤ a ∧ a ≤ 1000000) (h' : -1000000 ≤ b ∧ b ≤ 1000000) (w : World) : Calls Try.prog 29 #[.int .i64 a, .int .i64 b] w fun e w' => e = .returned (.tuple #[.int .i64 (W (b - a)), .int .i64 0]) ∧ Drawn0 w w' :=
  PFnAngles.impl_LonDifference.calls a b (W (b - a)) 0 w (by rw [PFnAngles.impl_LonDifference_eq]; unfold RLonDifference; rw [if_pos (by unfold angOk; omega)])
theorem impl_TurnSpot_k {a b t : Int} (h : sOk a b) (ht : -1296000 ≤ t ∧ t ≤ 1296000) (w : World) : Calls Try.prog 31 #[.agg #[.int .i64 a, .int .i64 b], .int .i64 t] w fun e w' => e = .returned (.tuple #[.agg #[.int .i64 a, .int .i64 (W (b + t))], .int .i64 0]) ∧ Below w.heap.size w w' :=
  PFnAngles.impl_TurnSpot.calls a b t a (W (b + t)) 0 w (by rw [PFnAngles.impl_TurnSpot_eq]; unfold RTurnSpot; rw [if_pos h, if_pos (by unfold angOk; omega)])
theorem impl_Antipode_k {a b : Int} (h : sOk a b) (w : World) : Calls Try.prog 32 #[.agg #[.int .i64 a, .int .i64 b]] w fun e w' => e = .returned (.tuple #[.agg #[.int .i64 (-a), .int .i64 (W (b + 648000))], .int .i64 0]) ∧ Below w.heap.size w w' :=
  PFnAngles.impl_Antipode.calls a b (-a) (W (b + 648000)) 0 w (by rw [PFnAngles.impl_Antipode_eq]; unfold RAntipode; rw [if_pos h])
theorem spec_ValidSpot_k {a b : Int} (h : sOk a b) (w : World) : Calls Try.prog 33 #[.agg #[.int .i64 a, .int .i64 b]] w fun e w' => e = .returned (.bool true) ∧ Below w.heap.size w w' :=
  PFnAngles.spec_ValidSpot.calls a b true w (by rw [PFnAngles.spec_ValidSpot_eq, decide_eq_true h])
set_option maxHeartbeats 4000000 in
set_option maxRecDepth 100000 in
theorem FnAngles_c {A B : Option Addr} {n m c d : Nat} {xs ys : List Int} (w : World) (hr : ReadsInt w .u8 A n xs) (hx : ∀ x ∈ xs, 0 ≤ x ∧ x ≤ 255) (hr2 : ReadsInt w .u8 B m ys) (hx2 : ∀ x ∈ ys, 0 ≤ x ∧ x ≤ 255) : Calls Try.prog 7 #[.slice A n c, .slice B m d] w fun e w' => e = .returned (.bool true) ∧ Below w.heap.size w w' := by
  rcases dec (3000 < n ∨ 3000 < m) with ⟨h, b⟩ | ⟨h, b⟩
  · clear h
    have hr := Aside0.mk hr
    have hr2 := Aside0.mk hr2
    go_enter Try.func7, Try.ntmps7
    go_wp2_with (fail)
    refine (a2Long_c _ b.out).mono ?_
    rintro e w' ⟨rfl, ⟨nd, rfl⟩⟩
    go_wp2
    go_ret
    exact ⟨rfl, by repeat (first | (with_reducible first | exact Below.refl _ _ | apply below_alloc | apply pw_below_drewN | apply below_drew1 | (refine below_step ?_ (by assumption))) | exact Below.refl _ _)⟩
  · have hn : n ≤ 5000 := by omega
    have hm : m ≤ 5000 := by omega
    clear h
    have hr := Aside0.mk hr
    have hr2 := Aside0.mk hr2
    have hx := Aside0.mk hx
    have hx2 := Aside0.mk hx2
    go_enter Try.func7, Try.ntmps7
    go_wp2_with (fail)
    refine (a2Long_c _ b.out).mono ?_
    rintro e w' ⟨rfl, ⟨nd, rfl⟩⟩
    go_wp2_with (fail)
    refine (A2Angle_c _ (by first | exact hr.out | exact hr.out.below (pw_below_drewN (Below.refl _ _) _)) hx.out hn).mono ?_
    rintro e W1 ⟨a, a0, a1, rfl, hb⟩
    have HB := Aside0.mk (show Below w.heap.size w W1 from below_step ( by repeat (first | (with_reducible first | exact Below.refl _ _ | apply below_alloc | apply pw_below_drewN | apply below_drew1 | (refine below_step ?_ (by assumption))) | exact Below.refl _ _) ) hb)
    clear hb
    go_wp2_with (fail)
    refine (A2Angle_c _ (hr2.out.below HB.out) hx2.out hm).mono ?_
    rintro e W2 ⟨b, b0, b1, rfl, hb⟩
    have HB := Aside0.mk (below_step HB.out hb)
    clear hb
    obtain ⟨x0, x1⟩ := W_bd a
    obtain ⟨d0, d1⟩ := W_bd (b - a)
    have tm : Int.tmod (W a - a) 1296000 = 0 := by have : (W a - a) % 1296000 = 0 := (by unfold W; omega); exact (Int.dvd_iff_tmod_eq_zero (a := 1296000)).1 (Int.dvd_of_emod_eq_zero this)
    have ww : IntKind.i64.wrap (W a - a) = W a - a := IntWalk.i64_in _ (by omega)
    have y1 : W (a + 1296000) = W a := by unfold W; omega
    have z1 : W (a + W (b - a)) = W b := by unfold W; omega
    go_wp2_with (fail)
    refine (impl_WrapLon_k (a := a) (by omega) _).mono ?_
    rintro e w' ⟨rfl, ⟨nd, rfl⟩⟩
    go_wp2_with (fail)
    refine (impl_WrapLon_k (a := a + 1296000) (by omega) _).mono ?_
    rintro e w' ⟨rfl, ⟨nd, rfl⟩⟩
    rw [y1]
    go_wp2_with (fail)
    refine (impl_WrapLon_k (a := b) (by omega) _).mono ?_
    rintro e w' ⟨rfl, ⟨nd, rfl⟩⟩
    go_wp2_with (fail)
    refine (impl_LonDifference_k (a := a) (b := b) (by omega) (by omega) _).mono ?_
    rintro e w' ⟨rfl, ⟨nd, rfl⟩⟩
    go_wp2_with (fail)
    refine (impl_WrapLon_k (a := a + W (b - a)) (by omega) _).mono ?_
    rintro e w' ⟨rfl, ⟨nd, rfl⟩⟩
    rw [z1]
    go_wp2_with (fail)
    refine (A2Spot_c _ (by first | exact hr.out.below HB.out | exact hr.out.below (pw_below_drewN HB.out _)) hx.out hn).mono ?_
    rintro e W3 ⟨u, v, huv, rfl, hb⟩
    have HB := Aside0.mk (show Below w.heap.size w W3 from below_step (by first | exact HB.out | exact pw_below_drewN HB.out _) hb)
    clear hb
    have huv := Aside0.mk huv
    have bt := Aside0.mk (show sOk u (W (v + b)) by have := huv.out; have := W_bd (v + b); unfold sOk at *; omega)
    have ap := Aside0.mk (show sOk (-u) (W (v + 648000)) by have := huv.out; have := W_bd (v + 648000); unfold sOk at *; omega)
    have rt : W (W (v + b) + -b) = v := by have := huv.out; unfold sOk at this; unfold W; omega
    have ra : W (W (v + 648000) + 648000) = v := by have := huv.out; unfold sOk at this; unfold W; omega
    have nu : - -u = u := by omega
    have L1 : 0 ≤ u + 324000 ∧ u ≤ 324000 := by have := huv.out; unfold sOk at this; omega
    go_wp2_with (fail)
    refine (impl_TurnSpot_k huv.out (by omega) _).mono ?_
    rintro e V1 ⟨rfl, hb⟩
    have HB := Aside0.mk (below_alloc HB.out (.cells #[.int .i64 (u), .int .i64 (v)] 36))
    have BK1 := Aside0.mk (blk_new W3 (.cells #[.int .i64 (u), .int .i64 (v)] 36))
    have BK1 := Aside0.mk (blk_below BK1.out hb)
    have HB := Aside0.mk (below_step HB.out hb)
    clear hb
    have BK1_0 := (blk_cell BK1.out 0).trans (by rfl : _ = some (Value.int .i64 (u)))
    have BK1_1 := (blk_cell BK1.out 1).trans (by rfl : _ = some (Value.int .i64 (v)))
    have BK1_l := blk_lt BK1.out
    have BK1_n := Nat.ne_of_lt (blk_lt BK1.out)
    have BK1_m := Nat.ne_of_gt (blk_lt BK1.out)
    go_wp2_with (fail)
    refine (impl_TurnSpot_k (t := -b) bt.out (by omega) _).mono ?_
    rintro e V2 ⟨rfl, hb⟩
    rw [rt]
    clear BK1_0 BK1_1 BK1_l BK1_n BK1_m
    have BK1 := Aside0.mk (blk_alloc BK1.out (.cells #[.int .i64 (u), .int .i64 (W (v + b))] 36))
    have HB := Aside0.mk (below_alloc HB.out (.cells #[.int .i64 (u), .int .i64 (W (v + b))] 36))
    have BK2 := Aside0.mk (blk_new V1 (.cells #[.int .i64 (u), .int .i64 (W (v + b))] 36))
    have BK1 := Aside0.mk (blk_below BK1.out hb)
    have BK2 := Aside0.mk (blk_below BK2.out hb)
    have HB := Aside0.mk (below_step HB.out hb)
    clear hb
    have BK1_0 := (blk_cell BK1.out 0).trans (by rfl : _ = some (Value.int .i64 (u)))
    have BK1_1 := (blk_cell BK1.out 1).trans (by rfl : _ = some (Value.int .i64 (v)))
    have BK1_l := blk_lt BK1.out
    have BK1_n := Nat.ne_of_lt (blk_lt BK1.out)
    have BK1_m := Nat.ne_of_gt (blk_lt BK1.out)
    have BK2_0 := (blk_cell BK2.out 0).trans (by rfl : _ = some (Value.int .i64 (u)))
    have BK2_1 := (blk_cell BK2.out 1).trans (by rfl : _ = some (Value.int .i64 (W (v + b))))
    have BK2_l := blk_lt BK2.out
    have BK2_n := Nat.ne_of_lt (blk_lt BK2.out)
    have BK2_m := Nat.ne_of_gt (blk_lt BK2.out)
    go_wp2_with (fail)
    refine (impl_Antipode_k huv.out _).mono ?_
    rintro e V3 ⟨rfl, hb⟩
    clear BK1_0 BK1_1 BK1_l BK1_n BK1_m BK2_0 BK2_1 BK2_l BK2_n BK2_m
    have BK1 := Aside0.mk (blk_alloc BK1.out (.cells #[.int .i64 (u), .int .i64 (v)] 36))
    have BK2 := Aside0.mk (blk_alloc BK2.out (.cells #[.int .i64 (u), .int .i64 (v)] 36))
    have HB := Aside0.mk (below_alloc HB.out (.cells #[.int .i64 (u), .int .i64 (v)] 36))
    have BK3 := Aside0.mk (blk_new V2 (.cells #[.int .i64 (u), .int .i64 (v)] 36))
    have BK1 := Aside0.mk (blk_below BK1.out hb)
    have BK2 := Aside0.mk (blk_below BK2.out hb)
    have BK3 := Aside0.mk (blk_below BK3.out hb)
    have HB := Aside0.mk (below_step HB.out hb)
    clear hb
    have BK1_0 := (blk_cell BK1.out 0).trans (by rfl : _ = some (Value.int .i64 (u)))
    have BK1_1 := (blk_cell BK1.out 1).trans (by rfl : _ = some (Value.int .i64 (v)))
    have BK1_l := blk_lt BK1.out
    have BK1_n := Nat.ne_of_lt (blk_lt BK1.out)
    have BK1_m := Nat.ne_of_gt (blk_lt BK1.out)
    have BK2_0 := (blk_cell BK2.out 0).trans (by rfl : _ = some (Value.int .i64 (u)))
    have BK2_1 := (blk_cell BK2.out 1).trans (by rfl : _ = some (Value.int .i64 (W (v + b))))
    have BK2_l := blk_lt BK2.out
    have BK2_n := Nat.ne_of_lt (blk_lt BK2.out)
    have BK2_m := Nat.ne_of_gt (blk_lt BK2.out)
    have BK3_0 := (blk_cell BK3.out 0).trans (by rfl : _ = some (Value.int .i64 (u)))
    have BK3_1 := (blk_cell BK3.out 1).trans (by rfl : _ = some (Value.int .i64 (v)))
    have BK3_l := blk_lt BK3.out
    have BK3_n := Nat.ne_of_lt (blk_lt BK3.out)
    have BK3_m := Nat.ne_of_gt (blk_lt BK3.out)
    go_wp2_with (fail)
    refine (impl_Antipode_k ap.out _).mono ?_
    rintro e V4 ⟨rfl, hb⟩
    rw [ra]
    rw [nu]
    clear BK1_0 BK1_1 BK1_l BK1_n BK1_m BK2_0 BK2_1 BK2_l BK2_n BK2_m BK3_0 BK3_1 BK3_l BK3_n BK3_m
    have BK1 := Aside0.mk (blk_alloc BK1.out (.cells #[.int .i64 (-u), .int .i64 (W (v + 648000))] 36))
    have BK2 := Aside0.mk (blk_alloc BK2.out (.cells #[.int .i64 (-u), .int .i64 (W (v + 648000))] 36))
    have BK3 := Aside0.mk (blk_alloc BK3.out (.cells #[.int .i64 (-u), .int .i64 (W (v + 648000))] 36))
    have HB := Aside0.mk (below_alloc HB.out (.cells #[.int .i64 (-u), .int .i64 (W (v + 648000))] 36))
    have BK4 := Aside0.mk (blk_new V3 (.cells #[.int .i64 (-u), .int .i64 (W (v + 648000))] 36))
    have BK1 := Aside0.mk (blk_below BK1.out hb)
    have BK2 := Aside0.mk (blk_below BK2.out hb)
    have BK3 := Aside0.mk (blk_below BK3.out hb)
    have BK4 := Aside0.mk (blk_below BK4.out hb)
    have HB := Aside0.mk (below_step HB.out hb)
    clear hb
    have BK1_0 := (blk_cell BK1.out 0).trans (by rfl : _ = some (Value.int .i64 (u)))
    have BK1_1 := (blk_cell BK1.out 1).trans (by rfl : _ = some (Value.int .i64 (v)))
    have BK1_l := blk_lt BK1.out
    have BK1_n := Nat.ne_of_lt (blk_lt BK1.out)
    have BK1_m := Nat.ne_of_gt (blk_lt BK1.out)
    have BK2_0 := (blk_cell BK2.out 0).trans (by rfl : _ = some (Value.int .i64 (u)))
    have BK2_1 := (blk_cell BK2.out 1).trans (by rfl : _ = some (Value.int .i64 (W (v + b))))
    have BK2_l := blk_lt BK2.out
    have BK2_n := Nat.ne_of_lt (blk_lt BK2.out)
    have BK2_m := Nat.ne_of_gt (blk_lt BK2.out)
    have BK3_0 := (blk_cell BK3.out 0).trans (by rfl : _ = some (Value.int .i64 (u)))
    have BK3_1 := (blk_cell BK3.out 1).trans (by rfl : _ = some (Value.int .i64 (v)))
    have BK3_l := blk_lt BK3.out
    have BK3_n := Nat.ne_of_lt (blk_lt BK3.out)
    have BK3_m := Nat.ne_of_gt (blk_lt BK3.out)
    have BK4_0 := (blk_cell BK4.out 0).trans (by rfl : _ = some (Value.int .i64 (-u)))
    have BK4_1 := (blk_cell BK4.out 1).trans (by rfl : _ = some (Value.int .i64 (W (v + 648000))))
    have BK4_l := blk_lt BK4.out
    have BK4_n := Nat.ne_of_lt (blk_lt BK4.out)
    have BK4_m := Nat.ne_of_gt (blk_lt BK4.out)
    go_wp2_with (fail)
    refine (spec_ValidSpot_k bt.out _).mono ?_
    rintro e V5 ⟨rfl, hb⟩
    clear BK1_0 BK1_1 BK1_l BK1_n BK1_m BK2_0 BK2_1 BK2_l BK2_n BK2_m BK3_0 BK3_1 BK3_l BK3_n BK3_m BK4_0 BK4_1 BK4_l BK4_n BK4_m
    have BK1 := Aside0.mk (blk_alloc BK1.out (.cells #[.int .i64 (u), .int .i64 (v)] 36))
    have BK2 := Aside0.mk (blk_alloc BK2.out (.cells #[.int .i64 (u), .int .i64 (v)] 36))
    have BK3 := Aside0.mk (blk_alloc BK3.out (.cells #[.int .i64 (u), .int .i64 (v)] 36))
    have BK4 := Aside0.mk (blk_alloc BK4.out (.cells #[.int .i64 (u), .int .i64 (v)] 36))
    have HB := Aside0.mk (below_alloc HB.out (.cells #[.int .i64 (u), .int .i64 (v)] 36))
    have BK5 := Aside0.mk (blk_new V4 (.cells #[.int .i64 (u), .int .i64 (v)] 36))
    have BK1 := Aside0.mk (blk_below BK1.out hb)
    have BK2 := Aside0.mk (blk_below BK2.out hb)
    have BK3 := Aside0.mk (blk_below BK3.out hb)
    have BK4 := Aside0.mk (blk_below BK4.out hb)
    have BK5 := Aside0.mk (blk_below BK5.out hb)
    have HB := Aside0.mk (below_step HB.out hb)
    clear hb
    have BK1_0 := (blk_cell BK1.out 0).trans (by rfl : _ = some (Value.int .i64 (u)))
    have BK1_1 := (blk_cell BK1.out 1).trans (by rfl : _ = some (Value.int .i64 (v)))
    have BK1_l := blk_lt BK1.out
    have BK1_n := Nat.ne_of_lt (blk_lt BK1.out)
    have BK1_m := Nat.ne_of_gt (blk_lt BK1.out)
    have BK2_0 := (blk_cell BK2.out 0).trans (by rfl : _ = some (Value.int .i64 (u)))
    have BK2_1 := (blk_cell BK2.out 1).trans (by rfl : _ = some (Value.int .i64 (W (v + b))))
    have BK2_l := blk_lt BK2.out
    have BK2_n := Nat.ne_of_lt (blk_lt BK2.out)
    have BK2_m := Nat.ne_of_gt (blk_lt BK2.out)
    have BK3_0 := (blk_cell BK3.out 0).trans (by rfl : _ = some (Value.int .i64 (u)))
    have BK3_1 := (blk_cell BK3.out 1).trans (by rfl : _ = some (Value.int .i64 (v)))
    have BK3_l := blk_lt BK3.out
    have BK3_n := Nat.ne_of_lt (blk_lt BK3.out)
    have BK3_m := Nat.ne_of_gt (blk_lt BK3.out)
    have BK4_0 := (blk_cell BK4.out 0).trans (by rfl : _ = some (Value.int .i64 (-u)))
    have BK4_1 := (blk_cell BK4.out 1).trans (by rfl : _ = some (Value.int .i64 (W (v + 648000))))
    have BK4_l := blk_lt BK4.out
    have BK4_n := Nat.ne_of_lt (blk_lt BK4.out)
    have BK4_m := Nat.ne_of_gt (blk_lt BK4.out)
    have BK5_0 := (blk_cell BK5.out 0).trans (by rfl : _ = some (Value.int .i64 (u)))
    have BK5_1 := (blk_cell BK5.out 1).trans (by rfl : _ = some (Value.int .i64 (v)))
    have BK5_l := blk_lt BK5.out
    have BK5_n := Nat.ne_of_lt (blk_lt BK5.out)
    have BK5_m := Nat.ne_of_gt (blk_lt BK5.out)
    go_wp2_with (fail)
    refine (spec_ValidSpot_k ap.out _).mono ?_
    rintro e V6 ⟨rfl, hb⟩
    clear BK1_0 BK1_1 BK1_l BK1_n BK1_m BK2_0 BK2_1 BK2_l BK2_n BK2_m BK3_0 BK3_1 BK3_l BK3_n BK3_m BK4_0 BK4_1 BK4_l BK4_n BK4_m BK5_0 BK5_1 BK5_l BK5_n BK5_m
    have BK1 := Aside0.mk (blk_below BK1.out hb)
    have BK2 := Aside0.mk (blk_below BK2.out hb)
    have BK3 := Aside0.mk (blk_below BK3.out hb)
    have BK4 := Aside0.mk (blk_below BK4.out hb)
    have BK5 := Aside0.mk (blk_below BK5.out hb)
    have HB := Aside0.mk (below_step HB.out hb)
    clear hb
    have BK1_0 := (blk_cell BK1.out 0).trans (by rfl : _ = some (Value.int .i64 (u)))
    have BK1_1 := (blk_cell BK1.out 1).trans (by rfl : _ = some (Value.int .i64 (v)))
    have BK1_l := blk_lt BK1.out
    have BK1_n := Nat.ne_of_lt (blk_lt BK1.out)
    have BK1_m := Nat.ne_of_gt (blk_lt BK1.out)
    have BK2_0 := (blk_cell BK2.out 0).trans (by rfl : _ = some (Value.int .i64 (u)))
    have BK2_1 := (blk_cell BK2.out 1).trans (by rfl : _ = some (Value.int .i64 (W (v + b))))
    have BK2_l := blk_lt BK2.out
    have BK2_n := Nat.ne_of_lt (blk_lt BK2.out)
    have BK2_m := Nat.ne_of_gt (blk_lt BK2.out)
    have BK3_0 := (blk_cell BK3.out 0).trans (by rfl : _ = some (Value.int .i64 (u)))
    have BK3_1 := (blk_cell BK3.out 1).trans (by rfl : _ = some (Value.int .i64 (v)))
    have BK3_l := blk_lt BK3.out
    have BK3_n := Nat.ne_of_lt (blk_lt BK3.out)
    have BK3_m := Nat.ne_of_gt (blk_lt BK3.out)
    have BK4_0 := (blk_cell BK4.out 0).trans (by rfl : _ = some (Value.int .i64 (-u)))
    have BK4_1 := (blk_cell BK4.out 1).trans (by rfl : _ = some (Value.int .i64 (W (v + 648000))))
    have BK4_l := blk_lt BK4.out
    have BK4_n := Nat.ne_of_lt (blk_lt BK4.out)
    have BK4_m := Nat.ne_of_gt (blk_lt BK4.out)
    have BK5_0 := (blk_cell BK5.out 0).trans (by rfl : _ = some (Value.int .i64 (u)))
    have BK5_1 := (blk_cell BK5.out 1).trans (by rfl : _ = some (Value.int .i64 (v)))
    have BK5_l := blk_lt BK5.out
    have BK5_n := Nat.ne_of_lt (blk_lt BK5.out)
    have BK5_m := Nat.ne_of_gt (blk_lt BK5.out)
    go_wp2
    go_ret
    exact ⟨by first | rfl | (simp; done), by repeat (first | (with_reducible first | exact HB.out | apply below_alloc | apply pw_below_drewN | apply below_drew1) | exact HB.out)⟩
end Go.Proofs.Ytledlfncpjoepaa.Con
