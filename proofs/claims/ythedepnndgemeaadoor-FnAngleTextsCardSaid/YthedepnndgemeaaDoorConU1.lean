/- Contracts of the functions on texts of numbers, hours and places. Conditions: as stated; the table of powers of ten lies as its initialiser lays it. -/
import Derived.Test.YthedepnndgemeaaDoorConTz
import Derived.IntWalk
import Derived.Deep.RegionHeld3
namespace Go.Proofs.YthedepnndgemeaaDoor.Con
open Go.RowKit Go.Proofs.YthedepnndgemeaaDoorW.PrintWords Go.Proofs.YthedepnndgemeaaDoorW.PrintLast Go.Proofs.YthedepnndgemeaaDoorW.PrintMore Go.Proofs.YthedepnndgemeaaDoor.Mth Go.Proofs.YthedepnndgemeaaDoor.Tx Go.Lib
attribute [local go_sem] max2_int min2_int max_two min_two max_three min_three
set_option linter.unusedVariables false
set_option linter.unusedSimpArgs false
theorem cell_after {W0 w1 : World} {p : Addr} {v : Value} (hb : Below W0.heap.size W0 w1) (h : W0.cell? p = some v) : w1.cell? p = some v := (hb.cell (World.block_lt_of_cell? W0 _ h)).trans h
theorem sOk_okS {a b : Int} (h : sOk a b) : okS a b := by unfold sOk at h; unfold okS; omega
theorem okS_sOk {a b : Int} (h : okS a b) : sOk a b := by unfold okS at h; unfold sOk; omega
theorem angT_len {v : Int} (p q : UInt8) (h : Tx.ab v ≤ 648000) : (angT v p q).length ≤ 40 := by
  have := szT_len (ab_nn v) h
  unfold angT
  simp
  omega
theorem ST_bs (a b : Int) : (bs (angT a 110 115) ++ bs [32]) ++ bs (angT b 101 119) = bs (Tx.ST a b) := by
  rw [bs_app, bs_app]
  unfold Tx.ST
  simp
set_option maxHeartbeats 1000000 in
theorem impl_SpotText_c {a b : Int} (w : World) (T : Tb w) : Calls Tryd.prog 16 #[.agg #[.int .i64 a, .int .i64 b]] w fun e w' => e = .returned (.string (bs (STx a b))) ∧ Below w.heap.size w w' := by
  have T := Aside0.mk T
  have box := Aside0.mk (blk_new w (.cells #[.int .i64 a, .int .i64 b] 26))
  have HB := Aside0.mk (below_alloc (Below.refl w.heap.size w) (.cells #[.int .i64 a, .int .i64 b] 26))
  rcases dec (sOk a b) with ⟨h, bh⟩ | ⟨h, bh⟩
  · have f := Aside0.mk (show STx a b = Tx.ST a b from if_pos (sOk_okS h))
    have s1 := bs_size (angT a 110 115)
    have l1 := angT_len 110 115 (okS_ab (sOk_okS h)).1
    have s2 := bs_size (angT b 101 119)
    have l2 := angT_len 101 119 (okS_ab (sOk_okS h)).2
    have k := Aside0.mk (okS_ab (sOk_okS h))
    have z1 : ¬ 9223372036854775807 < (angT a 110 115).length + 1 := by omega
    have z2 : ¬ 9223372036854775807 < (angT a 110 115).length + 1 + (angT b 101 119).length := by omega
    clear h
    have BK_0 := (blk_cell box.out 0).trans (by rfl : _ = some (Value.int .i64 a))
    have BK_1 := (blk_cell box.out 1).trans (by rfl : _ = some (Value.int .i64 b))
    have BK_l := blk_lt box.out
    have BK_n := Nat.ne_of_lt (blk_lt box.out)
    have BK_m := Nat.ne_of_gt (blk_lt box.out)
    go_enter Tryd.func16, Tryd.ntmps16
    go_wp2_with (fail)
    refine (impl_ValidSpot_c bh.out _).mono ?_
    rintro e w1 ⟨rfl, hb⟩
    clear BK_0 BK_1 BK_l BK_n BK_m
    have box := Aside0.mk (blk_below box.out (show Below _ _ w1 from below_step ( by repeat (first | (with_reducible first | exact Below.refl _ _ | apply below_alloc | apply pw_below_drewN | apply below_drew1 | (refine below_step ?_ (by assumption))) | exact Below.refl _ _) ) hb))
    have HB := Aside0.mk (show Below w.heap.size w w1 from below_step ( by repeat (first | (with_reducible first | exact HB.out | apply below_alloc | apply pw_below_drewN | apply below_drew1) | exact HB.out) ) hb)
    clear hb
    have BK_0 := (blk_cell box.out 0).trans (by rfl : _ = some (Value.int .i64 a))
    have BK_1 := (blk_cell box.out 1).trans (by rfl : _ = some (Value.int .i64 b))
    have BK_l := blk_lt box.out
    have BK_n := Nat.ne_of_lt (blk_lt box.out)
    have BK_m := Nat.ne_of_gt (blk_lt box.out)
    have TW := Aside0.mk (Tb_on T.out HB.out)
    have BA : Below w1.heap.size w1 w1.drew := below_drew1 (Below.refl w1.heap.size _)
    have i0 : w1.drew.cell? (⟨w.heap.size, 0, none⟩) = some (.int .i64 (a)) := cell_after BA (BK_0)
    have i1 : w1.drew.cell? (⟨w.heap.size, 1, none⟩) = some (.int .i64 (b)) := cell_after BA (BK_1)
    have LB : w1.heap.size ≤ w1.drew.heap.size := by first | (simp; done) | (simp; omega) | exact Nat.le_refl _
    go_wp2_with (fail)
    go_region_held3 (fun W => W.cell? (⟨w.heap.size, 0, none⟩) = some (.int .i64 (a)) ∧ W.cell? (⟨w.heap.size, 1, none⟩) = some (.int .i64 (b)) ∧ Below w1.heap.size w1 W ∧ w1.heap.size ≤ W.heap.size) (first | ((try go_split_ands); refine ⟨?_, ?_, ?_, ?_⟩; (first | (with_reducible exact cell_after hb (by with_reducible assumption)) | (with_reducible exact cell_after hb i0) | (with_reducible exact i0) | exact cell_after hb i0 | go_keep); (first | (with_reducible exact cell_after hb (by with_reducible assumption)) | (with_reducible exact cell_after hb i1) | (with_reducible exact i1) | exact cell_after hb i1 | go_keep); (first | (with_reducible exact below_step (by with_reducible assumption) hb) | (with_reducible exact below_step BA hb) | (with_reducible exact BA) | exact below_step BA hb | go_keep); (first | (with_reducible exact LB) | (have := hb.size; omega) | (have := hb.size; simp at this; omega) | go_keep)) | go_keep) (first | (go_at_call 38; (first | (with_reducible refine (impl_angleText_c (v := a) 110 115 k.out.1 _ (Tb_on TW.out ( by repeat (first | (with_reducible first | exact Below.refl _ _ | apply below_alloc | apply pw_below_drewN | apply below_drew1 | (refine below_step ?_ (by assumption))) | exact Below.refl _ _) ))).mono ?_) | (with_reducible refine (impl_angleText_c (v := b) 101 119 k.out.2 _ (Tb_on TW.out ( by repeat (first | (with_reducible first | exact Below.refl _ _ | apply below_alloc | apply pw_below_drewN | apply below_drew1 | (refine below_step ?_ (by assumption))) | exact Below.refl _ _) ))).mono ?_)); rintro e w9 ⟨rfl, hb⟩))
    all_goals have hbb := Aside0.mk (show Below w1.heap.size w1 _ by (go_split_ands; assumption))
    go_wp2
    go_ret
    exact ⟨ret_s (by rw [f.out]; exact ST_bs _ _), below_step HB.out hbb.out⟩
  · have f := Aside0.mk (show STx a b = [] from if_neg (fun e => h (okS_sOk e)))
    clear h
    have BK_0 := (blk_cell box.out 0).trans (by rfl : _ = some (Value.int .i64 a))
    have BK_1 := (blk_cell box.out 1).trans (by rfl : _ = some (Value.int .i64 b))
    have BK_l := blk_lt box.out
    have BK_n := Nat.ne_of_lt (blk_lt box.out)
    have BK_m := Nat.ne_of_gt (blk_lt box.out)
    go_enter Tryd.func16, Tryd.ntmps16
    go_wp2_with (fail)
    refine (impl_ValidSpot_c bh.out _).mono ?_
    rintro e w1 ⟨rfl, hb⟩
    clear BK_0 BK_1 BK_l BK_n BK_m
    have box := Aside0.mk (blk_below box.out (show Below _ _ w1 from below_step ( by repeat (first | (with_reducible first | exact Below.refl _ _ | apply below_alloc | apply pw_below_drewN | apply below_drew1 | (refine below_step ?_ (by assumption))) | exact Below.refl _ _) ) hb))
    have HB := Aside0.mk (show Below w.heap.size w w1 from below_step ( by repeat (first | (with_reducible first | exact HB.out | apply below_alloc | apply pw_below_drewN | apply below_drew1) | exact HB.out) ) hb)
    clear hb
    have BK_0 := (blk_cell box.out 0).trans (by rfl : _ = some (Value.int .i64 a))
    have BK_1 := (blk_cell box.out 1).trans (by rfl : _ = some (Value.int .i64 b))
    have BK_l := blk_lt box.out
    have BK_n := Nat.ne_of_lt (blk_lt box.out)
    have BK_m := Nat.ne_of_gt (blk_lt box.out)
    go_wp2
    go_ret
    exact ⟨ret_s (by rw [f.out]), ( by repeat (first | (with_reducible first | exact HB.out | apply below_alloc | apply pw_below_drewN | apply below_drew1) | exact HB.out) )⟩
theorem spec_l00Size_t {n : Int} (w : World) (h0 : -1000000000000 ≤ n) (h1 : n ≤ 1000000000000) : Calls Tryd.prog 69 #[.int .i64 n] w fun e w' => e = .returned (.int .i64 (Tx.ab n)) ∧ Drawn0 w w' := by
  by_cases c : n < 0
  · have f := Aside0.mk (show Tx.ab n = -n from if_pos c)
    go_enter Tryd.func69, Tryd.ntmps69
    go_wp2
    go_ret
    exact ⟨ret_int f.out.symm, by repeat (first | exact Drawn0.refl _ | apply Drawn0.step)⟩
  · have f := Aside0.mk (show Tx.ab n = n from if_neg c)
    go_enter Tryd.func69, Tryd.ntmps69
    go_wp2
    go_ret
    exact ⟨ret_int f.out.symm, by repeat (first | exact Drawn0.refl _ | apply Drawn0.step)⟩
theorem spec_l02Size_c {v : Int} (h : Tx.ab v ≤ 648000) (w : World) : Calls Tryd.prog 57 #[.int .i64 v] w fun e w' => e = .returned (.string (bs (szT (Tx.ab v)))) ∧ Below w.heap.size w w' := by
  have nn := ab_nn v
  obtain ⟨u, hu⟩ : ∃ u, Tx.ab v = u := ⟨_, rfl⟩
  have v0 : -648000 ≤ v := by unfold Tx.ab at h; split at h <;> omega
  have v1 : v ≤ 648000 := by unfold Tx.ab at h; split at h <;> omega
  rw [hu] at nn h
  have hu := Aside0.mk hu
  rw [hu.out]
  have e1 : Int.tdiv u 3600 = u / 3600 := tdiv_nn nn
  have e2 : Int.tdiv u 60 = u / 60 := tdiv_nn nn
  have e3 : Int.tmod (u / 60) 60 = u / 60 % 60 := tmod_nn (by omega)
  have e4 : Int.tmod u 60 = u % 60 := tmod_nn nn
  have s1 := bs_size (itoa (u / 3600))
  have l1 := itoa_len (n := u / 3600) (by omega) (by omega)
  have s2 := bs_size (pad (u / 60 % 60))
  have l2 := pad_len (n := u / 60 % 60) (by omega) (by omega)
  have s3 := bs_size (pad (u % 60))
  have l3 := pad_len (n := u % 60) (by omega) (by omega)
  go_enter Tryd.func57, Tryd.ntmps57
  go_wp2_with (fail)
  refine (spec_l00Size_t (n := v) _ (by omega) (by omega)).mono ?_
  rintro e w' ⟨rfl, ⟨nd, rfl⟩⟩
  rw [hu.out]
  go_wp2_with (fail)
  refine (spec_l01Dec_c (n := u / 3600) (by omega) (by omega) _).mono ?_
  rintro e w1 ⟨rfl, hb⟩
  have HB := Aside0.mk (show Below w.heap.size w w1 from below_step ( by repeat (first | (with_reducible first | exact Below.refl _ _ | apply below_alloc | apply pw_below_drewN | apply below_drew1 | (refine below_step ?_ (by assumption))) | exact Below.refl _ _) ) hb)
  clear hb
  go_wp2_with (fail)
  refine (spec_l02Pair_c (n := u / 60 % 60) (by omega) (by omega) _).mono ?_
  rintro e w2 ⟨rfl, hb⟩
  have HB := Aside0.mk (show Below w.heap.size w w2 from below_step ( by repeat (first | (with_reducible first | exact HB.out | apply below_alloc | apply pw_below_drewN | apply below_drew1) | exact HB.out) ) hb)
  clear hb
  go_wp2_with (fail)
  refine (spec_l02Pair_c (n := u % 60) (by omega) (by omega) _).mono ?_
  rintro e w3 ⟨rfl, hb⟩
  have HB := Aside0.mk (show Below w.heap.size w w3 from below_step ( by repeat (first | (with_reducible first | exact HB.out | apply below_alloc | apply pw_below_drewN | apply below_drew1) | exact HB.out) ) hb)
  clear hb
  go_wp2
  go_ret
  exact ⟨ret_s (szT_bs _), ( by repeat (first | (with_reducible first | exact HB.out | apply below_alloc | apply pw_below_drewN | apply below_drew1) | exact HB.out) )⟩
set_option maxHeartbeats 1000000 in
theorem spec_l02Text_c {a b : Int} (h : sOk a b) (w : World) : Calls Tryd.prog 41 #[.agg #[.int .i64 a, .int .i64 b]] w fun e w' => e = .returned (.string (bs (Tx.ST a b))) ∧ Below w.heap.size w w' := by
  have box := Aside0.mk (blk_new w (.cells #[.int .i64 a, .int .i64 b] 26))
  have HB := Aside0.mk (below_alloc (Below.refl w.heap.size w) (.cells #[.int .i64 a, .int .i64 b] 26))
  have k := Aside0.mk (okS_ab (sOk_okS h))
  clear h
  have s1 := bs_size (szT (Tx.ab a))
  have l1 := szT_len (ab_nn a) k.out.1
  have s2 := bs_size (szT (Tx.ab b))
  have l2 := szT_len (ab_nn b) k.out.2
  have q1 := bs_size [115, 32]
  have q2 := bs_size [110, 32]
  have q3 : ([115, 32] : List UInt8).length = 2 := rfl
  have q4 : ([110, 32] : List UInt8).length = 2 := rfl
  have z1 := ByteArray.size_append (a := bs (szT (Tx.ab a))) (b := bs [115, 32])
  have z2 := ByteArray.size_append (a := bs (szT (Tx.ab a))) (b := bs [110, 32])
  by_cases ca : a < 0 <;> by_cases cb : b < 0
  · have f := Aside0.mk (show ((bs (szT (Tx.ab a)) ++ bs [115, 32]) ++ bs (szT (Tx.ab b))) ++ bs [119] = bs (Tx.ST a b) by
      rw [bs_app, bs_app, bs_app]; unfold Tx.ST angT; rw [if_pos ca, if_pos cb]; simp)
    have BK_0 := (blk_cell box.out 0).trans (by rfl : _ = some (Value.int .i64 a))
    have BK_1 := (blk_cell box.out 1).trans (by rfl : _ = some (Value.int .i64 b))
    have BK_l := blk_lt box.out
    have BK_n := Nat.ne_of_lt (blk_lt box.out)
    have BK_m := Nat.ne_of_gt (blk_lt box.out)
    go_enter Tryd.func41, Tryd.ntmps41
    go_wp2_with (fail)
    refine (spec_l02Size_c k.out.1 _).mono ?_
    rintro e w1 ⟨rfl, hb⟩
    clear BK_0 BK_1 BK_l BK_n BK_m
    have box := Aside0.mk (blk_below box.out (show Below _ _ w1 from below_step ( by repeat (first | (with_reducible first | exact Below.refl _ _ | apply below_alloc | apply pw_below_drewN | apply below_drew1 | (refine below_step ?_ (by assumption))) | exact Below.refl _ _) ) hb))
    have HB := Aside0.mk (show Below w.heap.size w w1 from below_step ( by repeat (first | (with_reducible first | exact HB.out | apply below_alloc | apply pw_below_drewN | apply below_drew1) | exact HB.out) ) hb)
    clear hb
    have BK_0 := (blk_cell box.out 0).trans (by rfl : _ = some (Value.int .i64 a))
    have BK_1 := (blk_cell box.out 1).trans (by rfl : _ = some (Value.int .i64 b))
    have BK_l := blk_lt box.out
    have BK_n := Nat.ne_of_lt (blk_lt box.out)
    have BK_m := Nat.ne_of_gt (blk_lt box.out)
    go_wp2_with (fail)
    refine (spec_l02Size_c k.out.2 _).mono ?_
    rintro e w2 ⟨rfl, hb⟩
    clear BK_0 BK_1 BK_l BK_n BK_m
    have box := Aside0.mk (blk_below box.out (show Below _ _ w2 from below_step ( by repeat (first | (with_reducible first | exact Below.refl _ _ | apply below_alloc | apply pw_below_drewN | apply below_drew1 | (refine below_step ?_ (by assumption))) | exact Below.refl _ _) ) hb))
    have HB := Aside0.mk (show Below w.heap.size w w2 from below_step ( by repeat (first | (with_reducible first | exact HB.out | apply below_alloc | apply pw_below_drewN | apply below_drew1) | exact HB.out) ) hb)
    clear hb
    have BK_0 := (blk_cell box.out 0).trans (by rfl : _ = some (Value.int .i64 a))
    have BK_1 := (blk_cell box.out 1).trans (by rfl : _ = some (Value.int .i64 b))
    have BK_l := blk_lt box.out
    have BK_n := Nat.ne_of_lt (blk_lt box.out)
    have BK_m := Nat.ne_of_gt (blk_lt box.out)
    go_wp2
    go_ret
    exact ⟨ret_s f.out, ( by repeat (first | (with_reducible first | exact HB.out | apply below_alloc | apply pw_below_drewN | apply below_drew1) | exact HB.out) )⟩
  · have f := Aside0.mk (show ((bs (szT (Tx.ab a)) ++ bs [115, 32]) ++ bs (szT (Tx.ab b))) ++ bs [101] = bs (Tx.ST a b) by
      rw [bs_app, bs_app, bs_app]; unfold Tx.ST angT; rw [if_pos ca, if_neg cb]; simp)
    have BK_0 := (blk_cell box.out 0).trans (by rfl : _ = some (Value.int .i64 a))
    have BK_1 := (blk_cell box.out 1).trans (by rfl : _ = some (Value.int .i64 b))
    have BK_l := blk_lt box.out
    have BK_n := Nat.ne_of_lt (blk_lt box.out)
    have BK_m := Nat.ne_of_gt (blk_lt box.out)
    go_enter Tryd.func41, Tryd.ntmps41
    go_wp2_with (fail)
    refine (spec_l02Size_c k.out.1 _).mono ?_
    rintro e w1 ⟨rfl, hb⟩
    clear BK_0 BK_1 BK_l BK_n BK_m
    have box := Aside0.mk (blk_below box.out (show Below _ _ w1 from below_step ( by repeat (first | (with_reducible first | exact Below.refl _ _ | apply below_alloc | apply pw_below_drewN | apply below_drew1 | (refine below_step ?_ (by assumption))) | exact Below.refl _ _) ) hb))
    have HB := Aside0.mk (show Below w.heap.size w w1 from below_step ( by repeat (first | (with_reducible first | exact HB.out | apply below_alloc | apply pw_below_drewN | apply below_drew1) | exact HB.out) ) hb)
    clear hb
    have BK_0 := (blk_cell box.out 0).trans (by rfl : _ = some (Value.int .i64 a))
    have BK_1 := (blk_cell box.out 1).trans (by rfl : _ = some (Value.int .i64 b))
    have BK_l := blk_lt box.out
    have BK_n := Nat.ne_of_lt (blk_lt box.out)
    have BK_m := Nat.ne_of_gt (blk_lt box.out)
    go_wp2_with (fail)
    refine (spec_l02Size_c k.out.2 _).mono ?_
    rintro e w2 ⟨rfl, hb⟩
    clear BK_0 BK_1 BK_l BK_n BK_m
    have box := Aside0.mk (blk_below box.out (show Below _ _ w2 from below_step ( by repeat (first | (with_reducible first | exact Below.refl _ _ | apply below_alloc | apply pw_below_drewN | apply below_drew1 | (refine below_step ?_ (by assumption))) | exact Below.refl _ _) ) hb))
    have HB := Aside0.mk (show Below w.heap.size w w2 from below_step ( by repeat (first | (with_reducible first | exact HB.out | apply below_alloc | apply pw_below_drewN | apply below_drew1) | exact HB.out) ) hb)
    clear hb
    have BK_0 := (blk_cell box.out 0).trans (by rfl : _ = some (Value.int .i64 a))
    have BK_1 := (blk_cell box.out 1).trans (by rfl : _ = some (Value.int .i64 b))
    have BK_l := blk_lt box.out
    have BK_n := Nat.ne_of_lt (blk_lt box.out)
    have BK_m := Nat.ne_of_gt (blk_lt box.out)
    go_wp2
    go_ret
    exact ⟨ret_s f.out, ( by repeat (first | (with_reducible first | exact HB.out | apply below_alloc | apply pw_below_drewN | apply below_drew1) | exact HB.out) )⟩
  · have f := Aside0.mk (show ((bs (szT (Tx.ab a)) ++ bs [110, 32]) ++ bs (szT (Tx.ab b))) ++ bs [119] = bs (Tx.ST a b) by
      rw [bs_app, bs_app, bs_app]; unfold Tx.ST angT; rw [if_neg ca, if_pos cb]; simp)
    have BK_0 := (blk_cell box.out 0).trans (by rfl : _ = some (Value.int .i64 a))
    have BK_1 := (blk_cell box.out 1).trans (by rfl : _ = some (Value.int .i64 b))
    have BK_l := blk_lt box.out
    have BK_n := Nat.ne_of_lt (blk_lt box.out)
    have BK_m := Nat.ne_of_gt (blk_lt box.out)
    go_enter Tryd.func41, Tryd.ntmps41
    go_wp2_with (fail)
    refine (spec_l02Size_c k.out.1 _).mono ?_
    rintro e w1 ⟨rfl, hb⟩
    clear BK_0 BK_1 BK_l BK_n BK_m
    have box := Aside0.mk (blk_below box.out (show Below _ _ w1 from below_step ( by repeat (first | (with_reducible first | exact Below.refl _ _ | apply below_alloc | apply pw_below_drewN | apply below_drew1 | (refine below_step ?_ (by assumption))) | exact Below.refl _ _) ) hb))
    have HB := Aside0.mk (show Below w.heap.size w w1 from below_step ( by repeat (first | (with_reducible first | exact HB.out | apply below_alloc | apply pw_below_drewN | apply below_drew1) | exact HB.out) ) hb)
    clear hb
    have BK_0 := (blk_cell box.out 0).trans (by rfl : _ = some (Value.int .i64 a))
    have BK_1 := (blk_cell box.out 1).trans (by rfl : _ = some (Value.int .i64 b))
    have BK_l := blk_lt box.out
    have BK_n := Nat.ne_of_lt (blk_lt box.out)
    have BK_m := Nat.ne_of_gt (blk_lt box.out)
    go_wp2_with (fail)
    refine (spec_l02Size_c k.out.2 _).mono ?_
    rintro e w2 ⟨rfl, hb⟩
    clear BK_0 BK_1 BK_l BK_n BK_m
    have box := Aside0.mk (blk_below box.out (show Below _ _ w2 from below_step ( by repeat (first | (with_reducible first | exact Below.refl _ _ | apply below_alloc | apply pw_below_drewN | apply below_drew1 | (refine below_step ?_ (by assumption))) | exact Below.refl _ _) ) hb))
    have HB := Aside0.mk (show Below w.heap.size w w2 from below_step ( by repeat (first | (with_reducible first | exact HB.out | apply below_alloc | apply pw_below_drewN | apply below_drew1) | exact HB.out) ) hb)
    clear hb
    have BK_0 := (blk_cell box.out 0).trans (by rfl : _ = some (Value.int .i64 a))
    have BK_1 := (blk_cell box.out 1).trans (by rfl : _ = some (Value.int .i64 b))
    have BK_l := blk_lt box.out
    have BK_n := Nat.ne_of_lt (blk_lt box.out)
    have BK_m := Nat.ne_of_gt (blk_lt box.out)
    go_wp2
    go_ret
    exact ⟨ret_s f.out, ( by repeat (first | (with_reducible first | exact HB.out | apply below_alloc | apply pw_below_drewN | apply below_drew1) | exact HB.out) )⟩
  · have f := Aside0.mk (show ((bs (szT (Tx.ab a)) ++ bs [110, 32]) ++ bs (szT (Tx.ab b))) ++ bs [101] = bs (Tx.ST a b) by
      rw [bs_app, bs_app, bs_app]; unfold Tx.ST angT; rw [if_neg ca, if_neg cb]; simp)
    have BK_0 := (blk_cell box.out 0).trans (by rfl : _ = some (Value.int .i64 a))
    have BK_1 := (blk_cell box.out 1).trans (by rfl : _ = some (Value.int .i64 b))
    have BK_l := blk_lt box.out
    have BK_n := Nat.ne_of_lt (blk_lt box.out)
    have BK_m := Nat.ne_of_gt (blk_lt box.out)
    go_enter Tryd.func41, Tryd.ntmps41
    go_wp2_with (fail)
    refine (spec_l02Size_c k.out.1 _).mono ?_
    rintro e w1 ⟨rfl, hb⟩
    clear BK_0 BK_1 BK_l BK_n BK_m
    have box := Aside0.mk (blk_below box.out (show Below _ _ w1 from below_step ( by repeat (first | (with_reducible first | exact Below.refl _ _ | apply below_alloc | apply pw_below_drewN | apply below_drew1 | (refine below_step ?_ (by assumption))) | exact Below.refl _ _) ) hb))
    have HB := Aside0.mk (show Below w.heap.size w w1 from below_step ( by repeat (first | (with_reducible first | exact HB.out | apply below_alloc | apply pw_below_drewN | apply below_drew1) | exact HB.out) ) hb)
    clear hb
    have BK_0 := (blk_cell box.out 0).trans (by rfl : _ = some (Value.int .i64 a))
    have BK_1 := (blk_cell box.out 1).trans (by rfl : _ = some (Value.int .i64 b))
    have BK_l := blk_lt box.out
    have BK_n := Nat.ne_of_lt (blk_lt box.out)
    have BK_m := Nat.ne_of_gt (blk_lt box.out)
    go_wp2_with (fail)
    refine (spec_l02Size_c k.out.2 _).mono ?_
    rintro e w2 ⟨rfl, hb⟩
    clear BK_0 BK_1 BK_l BK_n BK_m
    have box := Aside0.mk (blk_below box.out (show Below _ _ w2 from below_step ( by repeat (first | (with_reducible first | exact Below.refl _ _ | apply below_alloc | apply pw_below_drewN | apply below_drew1 | (refine below_step ?_ (by assumption))) | exact Below.refl _ _) ) hb))
    have HB := Aside0.mk (show Below w.heap.size w w2 from below_step ( by repeat (first | (with_reducible first | exact HB.out | apply below_alloc | apply pw_below_drewN | apply below_drew1) | exact HB.out) ) hb)
    clear hb
    have BK_0 := (blk_cell box.out 0).trans (by rfl : _ = some (Value.int .i64 a))
    have BK_1 := (blk_cell box.out 1).trans (by rfl : _ = some (Value.int .i64 b))
    have BK_l := blk_lt box.out
    have BK_n := Nat.ne_of_lt (blk_lt box.out)
    have BK_m := Nat.ne_of_gt (blk_lt box.out)
    go_wp2
    go_ret
    exact ⟨ret_s f.out, ( by repeat (first | (with_reducible first | exact HB.out | apply below_alloc | apply pw_below_drewN | apply below_drew1) | exact HB.out) )⟩
end Go.Proofs.YthedepnndgemeaaDoor.Con
