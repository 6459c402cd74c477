/- Contracts of the functions on texts of numbers, hours and places. Conditions: as stated; the table of powers of ten lies as its initialiser lays it. -/
import Derived.Test.YtjdceianlhenhaaDoorConTx
import Derived.IntWalk
import Derived.Deep.RegionHeld3
namespace Go.Proofs.YtjdceianlhenhaaDoor.Con
open Go.RowKit Go.Proofs.YtjdceianlhenhaaDoorW.PrintWords Go.Proofs.YtjdceianlhenhaaDoorW.PrintLast Go.Proofs.YtjdceianlhenhaaDoorW.PrintMore Go.Proofs.YtjdceianlhenhaaDoor.Mth Go.Proofs.YtjdceianlhenhaaDoor.Tx Go.Lib
attribute [local go_sem] max2_int min2_int max_two min_two max_three min_three
set_option linter.unusedVariables false
set_option linter.unusedSimpArgs false
theorem ret_s {a b : ByteArray} (h : a = b) : Ending.returned (.string a) = .returned (.string b) := by rw [h]
theorem impl_padded_c {n : Int} (h0 : 0 ≤ n) (h1 : n < 100) (w : World) (T : Tb w) : Calls Tryd.prog 21 #[.int .i64 n] w fun e w' => e = .returned (.string (bs (pad n))) ∧ Below w.heap.size w w' := by
  have T := Aside0.mk T
  have hs := bs_size (itoa n)
  have hl := itoa_len (n := n) (by omega) (by omega)
  by_cases c : n < 10
  · have f := Aside0.mk (show bs (pad n) = bs (48 :: itoa n) by unfold pad; rw [if_pos c])
    go_enter Tryd.func21, Tryd.ntmps21
    go_wp2_with (fail)
    refine (impl_Decimal_c (n := n) (by omega) (by omega) _ (Tb_on T.out ( by repeat (first | (with_reducible first | exact Below.refl _ _ | apply below_alloc | apply pw_below_drewN | apply below_drew1 | (refine below_step ?_ (by assumption))) | exact Below.refl _ _) ))).mono ?_
    rintro e w1 ⟨rfl, hb⟩
    go_wp2
    go_ret
    exact ⟨ret_s (by rw [f.out]; exact bs_app [48] (itoa n)), below_step ( by repeat (first | (with_reducible first | exact Below.refl _ _ | apply below_alloc | apply pw_below_drewN | apply below_drew1 | (refine below_step ?_ (by assumption))) | exact Below.refl _ _) ) hb⟩
  · have f := Aside0.mk (show bs (pad n) = bs (itoa n) by unfold pad; rw [if_neg c])
    go_enter Tryd.func21, Tryd.ntmps21
    go_wp2_with (fail)
    refine (impl_Decimal_c (n := n) (by omega) (by omega) _ (Tb_on T.out ( by repeat (first | (with_reducible first | exact Below.refl _ _ | apply below_alloc | apply pw_below_drewN | apply below_drew1 | (refine below_step ?_ (by assumption))) | exact Below.refl _ _) ))).mono ?_
    rintro e w1 ⟨rfl, hb⟩
    go_wp2
    go_ret
    exact ⟨ret_s f.out.symm, below_step ( by repeat (first | (with_reducible first | exact Below.refl _ _ | apply below_alloc | apply pw_below_drewN | apply below_drew1 | (refine below_step ?_ (by assumption))) | exact Below.refl _ _) ) hb⟩
def isHT (v : Int) : Prop := (0 ≤ v ∧ v ≤ 1295999) ∧ v % 900 = 0
instance (v : Int) : Decidable (isHT v) := by unfold isHT; infer_instance
def HTx (v : Int) : List UInt8 := if isHT v then HTv v else []
theorem pad_len {n : Int} (h0 : 0 ≤ n) (h1 : n < 100) : (pad n).length = 2 := by rw [pad_two n h0 h1]; rfl
theorem HT_bs (h m : Int) : ((bs (itoa h) ++ bs [104]) ++ bs (pad m)) ++ bs [109] = bs (HT h m) := by
  rw [bs_app, bs_app, bs_app]
  unfold HT
  simp
theorem impl_HourText_c {v : Int} (hv0 : -9223372036854775808 ≤ v) (hv1 : v ≤ 9223372036854775807) (w : World) (T : Tb w) : Calls Tryd.prog 10 #[.int .i64 v] w fun e w' => e = .returned (.string (bs (HTx v))) ∧ Below w.heap.size w w' := by
  have T := Aside0.mk T
  rcases dec (0 ≤ v ∧ v ≤ 1295999) with ⟨h, b⟩ | ⟨h, b⟩
  · have hm : Int.tmod v 900 = v % 900 := tmod_nn h.1
    by_cases z : v % 900 = 0
    · have f := Aside0.mk (show HTx v = HT (v / 54000) (v % 54000 / 900) from if_pos ⟨h, z⟩)
      have e1 : Int.tdiv v 54000 = v / 54000 := tdiv_nn h.1
      have e2 : Int.tmod v 54000 = v % 54000 := tmod_nn h.1
      have e3 : Int.tdiv (v % 54000) 900 = v % 54000 / 900 := tdiv_nn (by omega)
      have s1 := bs_size (itoa (v / 54000))
      have l1 := itoa_len (n := v / 54000) (by omega) (by omega)
      have s2 := bs_size (pad (v % 54000 / 900))
      have l2 := pad_len (n := v % 54000 / 900) (by omega) (by omega)
      go_enter Tryd.func10, Tryd.ntmps10
      go_wp2_with (fail)
      refine (impl_within_d _ b.out).mono ?_
      rintro e w' ⟨rfl, ⟨nd, rfl⟩⟩
      go_wp2_with (fail)
      refine (impl_Decimal_c (n := v / 54000) (by omega) (by omega) _ (Tb_on T.out ( by repeat (first | (with_reducible first | exact Below.refl _ _ | apply below_alloc | apply pw_below_drewN | apply below_drew1 | (refine below_step ?_ (by assumption))) | exact Below.refl _ _) ))).mono ?_
      rintro e w1 ⟨rfl, hb⟩
      have HB := Aside0.mk (show Below w.heap.size w w1 from below_step ( by repeat (first | (with_reducible first | exact Below.refl _ _ | apply below_alloc | apply pw_below_drewN | apply below_drew1 | (refine below_step ?_ (by assumption))) | exact Below.refl _ _) ) hb)
      clear hb
      go_wp2_with (fail)
      refine (impl_padded_c (n := v % 54000 / 900) (by omega) (by omega) _ (Tb_on T.out ( by repeat (first | (with_reducible first | exact HB.out | apply below_alloc | apply pw_below_drewN | apply below_drew1) | exact HB.out) ))).mono ?_
      rintro e w2 ⟨rfl, hb⟩
      have HB := Aside0.mk (show Below w.heap.size w w2 from below_step ( by repeat (first | (with_reducible first | exact HB.out | apply below_alloc | apply pw_below_drewN | apply below_drew1) | exact HB.out) ) hb)
      clear hb
      go_wp2
      go_ret
      exact ⟨ret_s (by rw [f.out]; exact HT_bs _ _), ( by repeat (first | (with_reducible first | exact HB.out | apply below_alloc | apply pw_below_drewN | apply below_drew1) | exact HB.out) )⟩
    · have f := Aside0.mk (show HTx v = [] from if_neg (fun e => z e.2))
      have z2 : (v % 900 == 0) = false := by simp [z]
      go_enter Tryd.func10, Tryd.ntmps10
      go_wp2_with (fail)
      refine (impl_within_d _ b.out).mono ?_
      rintro e w' ⟨rfl, ⟨nd, rfl⟩⟩
      go_wp2
      go_ret
      exact ⟨ret_s (by rw [f.out]), by repeat (first | (with_reducible first | exact Below.refl _ _ | apply below_alloc | apply pw_below_drewN | apply below_drew1 | (refine below_step ?_ (by assumption))) | exact Below.refl _ _)⟩
  · have f := Aside0.mk (show HTx v = [] from if_neg (fun e => h e.1))
    go_enter Tryd.func10, Tryd.ntmps10
    go_wp2_with (fail)
    refine (impl_within_d _ b.out).mono ?_
    rintro e w' ⟨rfl, ⟨nd, rfl⟩⟩
    go_wp2
    go_ret
    exact ⟨ret_s (by rw [f.out]), by repeat (first | (with_reducible first | exact Below.refl _ _ | apply below_alloc | apply pw_below_drewN | apply below_drew1 | (refine below_step ?_ (by assumption))) | exact Below.refl _ _)⟩
theorem spec_l02Hour_c {v : Int} (h : 0 ≤ v ∧ v ≤ 1295999) (w : World) : Calls Tryd.prog 19 #[.int .i64 v] w fun e w' => e = .returned (.string (bs (HTv v))) ∧ Below w.heap.size w w' := by
  have e1 : Int.tdiv v 54000 = v / 54000 := tdiv_nn h.1
  have e2 : Int.tmod v 54000 = v % 54000 := tmod_nn h.1
  have e3 : Int.tdiv (v % 54000) 900 = v % 54000 / 900 := tdiv_nn (by omega)
  have s1 := bs_size (itoa (v / 54000))
  have l1 := itoa_len (n := v / 54000) (by omega) (by omega)
  have s2 := bs_size (pad (v % 54000 / 900))
  have l2 := pad_len (n := v % 54000 / 900) (by omega) (by omega)
  go_enter Tryd.func19, Tryd.ntmps19
  go_wp2_with (fail)
  refine (spec_l01Dec_c (n := v / 54000) (by omega) (by omega) _).mono ?_
  rintro e w1 ⟨rfl, hb⟩
  have HB := Aside0.mk (show Below w.heap.size w w1 from below_step ( by repeat (first | (with_reducible first | exact Below.refl _ _ | apply below_alloc | apply pw_below_drewN | apply below_drew1 | (refine below_step ?_ (by assumption))) | exact Below.refl _ _) ) hb)
  clear hb
  go_wp2_with (fail)
  refine (spec_l02Pair_c (n := v % 54000 / 900) (by omega) (by omega) _).mono ?_
  rintro e w2 ⟨rfl, hb⟩
  have HB := Aside0.mk (show Below w.heap.size w w2 from below_step ( by repeat (first | (with_reducible first | exact HB.out | apply below_alloc | apply pw_below_drewN | apply below_drew1) | exact HB.out) ) hb)
  clear hb
  go_wp2
  go_ret
  exact ⟨ret_s (HT_bs _ _), ( by repeat (first | (with_reducible first | exact HB.out | apply below_alloc | apply pw_below_drewN | apply below_drew1) | exact HB.out) )⟩
theorem spec_HourText_c {v : Int} (w : World) : Calls Tryd.prog 9 #[.int .i64 v] w fun e w' => e = .returned (.string (bs (HTx v))) ∧ Below w.heap.size w w' := by
  rcases dec (0 ≤ v ∧ v ≤ 1295999) with ⟨h, b⟩ | ⟨h, b⟩
  · have hm : Int.tmod v 900 = v % 900 := tmod_nn h.1
    by_cases z : v % 900 = 0
    · have f := Aside0.mk (show HTx v = HTv v from if_pos ⟨h, z⟩)
      go_enter Tryd.func9, Tryd.ntmps9
      go_wp2_with (fail)
      refine (spec_l00In_d _ b.out).mono ?_
      rintro e w' ⟨rfl, ⟨nd, rfl⟩⟩
      go_wp2_with (fail)
      refine (spec_l02Hour_c h _).mono ?_
      rintro e w1 ⟨rfl, hb⟩
      have HB := Aside0.mk (show Below w.heap.size w w1 from below_step ( by repeat (first | (with_reducible first | exact Below.refl _ _ | apply below_alloc | apply pw_below_drewN | apply below_drew1 | (refine below_step ?_ (by assumption))) | exact Below.refl _ _) ) hb)
      clear hb
      go_wp2
      go_ret
      exact ⟨ret_s (by rw [f.out]), ( by repeat (first | (with_reducible first | exact HB.out | apply below_alloc | apply pw_below_drewN | apply below_drew1) | exact HB.out) )⟩
    · have f := Aside0.mk (show HTx v = [] from if_neg (fun e => z e.2))
      have z2 : (v % 900 == 0) = false := by simp [z]
      go_enter Tryd.func9, Tryd.ntmps9
      go_wp2_with (fail)
      refine (spec_l00In_d _ b.out).mono ?_
      rintro e w' ⟨rfl, ⟨nd, rfl⟩⟩
      go_wp2
      go_ret
      exact ⟨ret_s (by rw [f.out]), by repeat (first | (with_reducible first | exact Below.refl _ _ | apply below_alloc | apply pw_below_drewN | apply below_drew1 | (refine below_step ?_ (by assumption))) | exact Below.refl _ _)⟩
  · have f := Aside0.mk (show HTx v = [] from if_neg (fun e => h e.1))
    go_enter Tryd.func9, Tryd.ntmps9
    go_wp2_with (fail)
    refine (spec_l00In_d _ b.out).mono ?_
    rintro e w' ⟨rfl, ⟨nd, rfl⟩⟩
    go_wp2
    go_ret
    exact ⟨ret_s (by rw [f.out]), by repeat (first | (with_reducible first | exact Below.refl _ _ | apply below_alloc | apply pw_below_drewN | apply below_drew1 | (refine below_step ?_ (by assumption))) | exact Below.refl _ _)⟩
theorem spec_Decimal_c {n : Int} (h0 : -9223372036854775808 ≤ n) (h1 : n ≤ 9223372036854775807) (w : World) : Calls Tryd.prog 7 #[.int .i64 n] w fun e w' => e = .returned (.string (bs (itoa n))) ∧ Below w.heap.size w w' := by
  go_enter Tryd.func7, Tryd.ntmps7
  go_wp2_with (fail)
  refine (spec_l01Dec_c h0 h1 _).mono ?_
  rintro e w1 ⟨rfl, hb⟩
  go_wp2
  go_ret
  exact ⟨rfl, below_step ( by repeat (first | (with_reducible first | exact Below.refl _ _ | apply below_alloc | apply pw_below_drewN | apply below_drew1 | (refine below_step ?_ (by assumption))) | exact Below.refl _ _) ) hb⟩
theorem FnExactDecimal_c {n : Int} (hn : (Lit.int .i64 n).wf = true) (w : World) (T : Tb w) : Calls Tryd.prog 3 #[.int .i64 n] w fun e w' => e = .returned (.bool true) ∧ Below w.heap.size w w' := by
  obtain ⟨h0, h1⟩ := bounds_i64 hn
  have T := Aside0.mk T
  go_enter Tryd.func3, Tryd.ntmps3
  go_wp2_with (fail)
  refine (spec_Decimal_c h0 h1 _).mono ?_
  rintro e w1 ⟨rfl, hb⟩
  have HB := Aside0.mk (show Below w.heap.size w w1 from below_step ( by repeat (first | (with_reducible first | exact Below.refl _ _ | apply below_alloc | apply pw_below_drewN | apply below_drew1 | (refine below_step ?_ (by assumption))) | exact Below.refl _ _) ) hb)
  clear hb
  go_wp2_with (fail)
  refine (impl_Decimal_c h0 h1 _ (Tb_on T.out ( by repeat (first | (with_reducible first | exact HB.out | apply below_alloc | apply pw_below_drewN | apply below_drew1) | exact HB.out) ))).mono ?_
  rintro e w2 ⟨rfl, hb⟩
  have HB := Aside0.mk (show Below w.heap.size w w2 from below_step ( by repeat (first | (with_reducible first | exact HB.out | apply below_alloc | apply pw_below_drewN | apply below_drew1) | exact HB.out) ) hb)
  clear hb
  go_wp2
  go_ret
  exact ⟨rfl, ( by repeat (first | (with_reducible first | exact HB.out | apply below_alloc | apply pw_below_drewN | apply below_drew1) | exact HB.out) )⟩
theorem FnExactHourText_c {n : Int} (hn : (Lit.int .i64 n).wf = true) (w : World) (T : Tb w) : Calls Tryd.prog 4 #[.int .i64 n] w fun e w' => e = .returned (.bool true) ∧ Below w.heap.size w w' := by
  obtain ⟨h0, h1⟩ := bounds_i64 hn
  have T := Aside0.mk T
  go_enter Tryd.func4, Tryd.ntmps4
  go_wp2_with (fail)
  refine (spec_HourText_c _).mono ?_
  rintro e w1 ⟨rfl, hb⟩
  have HB := Aside0.mk (show Below w.heap.size w w1 from below_step ( by repeat (first | (with_reducible first | exact Below.refl _ _ | apply below_alloc | apply pw_below_drewN | apply below_drew1 | (refine below_step ?_ (by assumption))) | exact Below.refl _ _) ) hb)
  clear hb
  go_wp2_with (fail)
  refine (impl_HourText_c h0 h1 _ (Tb_on T.out ( by repeat (first | (with_reducible first | exact HB.out | apply below_alloc | apply pw_below_drewN | apply below_drew1) | exact HB.out) ))).mono ?_
  rintro e w2 ⟨rfl, hb⟩
  have HB := Aside0.mk (show Below w.heap.size w w2 from below_step ( by repeat (first | (with_reducible first | exact HB.out | apply below_alloc | apply pw_below_drewN | apply below_drew1) | exact HB.out) ) hb)
  clear hb
  go_wp2
  go_ret
  exact ⟨rfl, ( by repeat (first | (with_reducible first | exact HB.out | apply below_alloc | apply pw_below_drewN | apply below_drew1) | exact HB.out) )⟩
end Go.Proofs.YtjdceianlhenhaaDoor.Con
