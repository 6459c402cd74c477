/- Contracts of the functions on texts of numbers, hours and places. Conditions: as stated; the table of powers of ten lies as its initialiser lays it. -/
import Derived.Test.YthedepnndgemeaaDoorConTy
import Derived.IntWalk
import Derived.Deep.RegionHeld3
namespace Go.Proofs.YthedepnndgemeaaDoor.Con
open Go.RowKit Go.Proofs.YthedepnndgemeaaDoorW.PrintWords Go.Proofs.YthedepnndgemeaaDoorW.PrintLast Go.Proofs.YthedepnndgemeaaDoorW.PrintMore Go.Proofs.YthedepnndgemeaaDoor.Mth Go.Proofs.YthedepnndgemeaaDoor.Tx Go.Lib
attribute [local go_sem] max2_int min2_int max_two min_two max_three min_three
set_option linter.unusedVariables false
set_option linter.unusedSimpArgs false
theorem szT_len {n : Int} (h0 : 0 ≤ n) (h1 : n ≤ 648000) : (szT n).length ≤ 30 := by
  have l1 := itoa_len (n := n / 3600) (by omega) (by omega)
  have l2 := pad_len (n := n / 60 % 60) (by omega) (by omega)
  have l3 := pad_len (n := n % 60) (by omega) (by omega)
  unfold szT
  simp
  omega
theorem szT_bs (n : Int) : (((bs (itoa (n / 3600)) ++ bs [46]) ++ bs (pad (n / 60 % 60))) ++ bs [46]) ++ bs (pad (n % 60)) = bs (szT n) := by
  rw [bs_app, bs_app, bs_app, bs_app]
  unfold szT
  simp
theorem impl_ValidSpot_c {a b : Int} {r : Bool} (hr : decide (sOk a b) = r) (w : World) : Calls Tryd.prog 37 #[.agg #[.int .i64 a, .int .i64 b]] w fun e w' => e = .returned (.bool r) ∧ Below w.heap.size w w' := by
  rcases dec (-324000 ≤ a ∧ a ≤ 324000) with ⟨h, bh⟩ | ⟨h, bh⟩ <;> rcases dec (-648000 ≤ b ∧ b ≤ 647999) with ⟨k, bk⟩ | ⟨k, bk⟩
  · have f := Aside0.mk (show r = true by rw [← hr]; exact decide_eq_true ⟨h, k⟩)
    clear hr h k
    go_enter Tryd.func37, Tryd.ntmps37
    go_wp2_with (first | (go_at_call 31; (with_reducible refine (impl_within_d _ (by first | exact bh.out | exact bk.out)).mono ?_); rintro e w' ⟨rfl, ⟨nd, rfl⟩⟩))
    repeat (go_quiet (first | (go_at_call 31; first | exact quiet0 (impl_within_d _ (by first | exact bh.out | exact bk.out)) | exact quiet1 (impl_within_d _ (by first | exact bh.out | exact bk.out)))); try go_wp2_with (first | (go_at_call 31; (with_reducible refine (impl_within_d _ (by first | exact bh.out | exact bk.out)).mono ?_); rintro e w' ⟨rfl, ⟨nd, rfl⟩⟩)))
    go_ret
    exact ⟨by rw [f.out]; rfl, by repeat (first | (with_reducible exact Below.refl _ _) | apply below_alloc | apply pw_below_drewN | apply below_drew | exact Below.refl _ _)⟩
  all_goals
    have f := Aside0.mk (show r = false by rw [← hr]; exact decide_eq_false (fun e => by first | exact h e.1 | exact k e.2))
    clear hr h k
    go_enter Tryd.func37, Tryd.ntmps37
    go_wp2_with (first | (go_at_call 31; (with_reducible refine (impl_within_d _ (by first | exact bh.out | exact bk.out)).mono ?_); rintro e w' ⟨rfl, ⟨nd, rfl⟩⟩))
    repeat (go_quiet (first | (go_at_call 31; first | exact quiet0 (impl_within_d _ (by first | exact bh.out | exact bk.out)) | exact quiet1 (impl_within_d _ (by first | exact bh.out | exact bk.out)))); try go_wp2_with (first | (go_at_call 31; (with_reducible refine (impl_within_d _ (by first | exact bh.out | exact bk.out)).mono ?_); rintro e w' ⟨rfl, ⟨nd, rfl⟩⟩)))
    go_ret
    exact ⟨by rw [f.out]; rfl, by repeat (first | (with_reducible exact Below.refl _ _) | apply below_alloc | apply pw_below_drewN | apply below_drew | exact Below.refl _ _)⟩
theorem spec_l02Ok_c {a b : Int} {r : Bool} (hr : decide (sOk a b) = r) (w : World) : Calls Tryd.prog 33 #[.agg #[.int .i64 a, .int .i64 b]] w fun e w' => e = .returned (.bool r) ∧ Below w.heap.size w w' := by
  rcases dec (-324000 ≤ a ∧ a ≤ 324000) with ⟨h, bh⟩ | ⟨h, bh⟩ <;> rcases dec (-648000 ≤ b ∧ b ≤ 647999) with ⟨k, bk⟩ | ⟨k, bk⟩
  · have f := Aside0.mk (show r = true by rw [← hr]; exact decide_eq_true ⟨h, k⟩)
    clear hr h k
    go_enter Tryd.func33, Tryd.ntmps33
    go_wp2_with (first | (go_at_call 27; (with_reducible refine (spec_l00In_d _ (by first | exact bh.out | exact bk.out)).mono ?_); rintro e w' ⟨rfl, ⟨nd, rfl⟩⟩))
    repeat (go_quiet (first | (go_at_call 27; first | exact quiet0 (spec_l00In_d _ (by first | exact bh.out | exact bk.out)) | exact quiet1 (spec_l00In_d _ (by first | exact bh.out | exact bk.out)))); try go_wp2_with (first | (go_at_call 27; (with_reducible refine (spec_l00In_d _ (by first | exact bh.out | exact bk.out)).mono ?_); rintro e w' ⟨rfl, ⟨nd, rfl⟩⟩)))
    go_ret
    exact ⟨by rw [f.out]; rfl, by repeat (first | (with_reducible exact Below.refl _ _) | apply below_alloc | apply pw_below_drewN | apply below_drew | exact Below.refl _ _)⟩
  all_goals
    have f := Aside0.mk (show r = false by rw [← hr]; exact decide_eq_false (fun e => by first | exact h e.1 | exact k e.2))
    clear hr h k
    go_enter Tryd.func33, Tryd.ntmps33
    go_wp2_with (first | (go_at_call 27; (with_reducible refine (spec_l00In_d _ (by first | exact bh.out | exact bk.out)).mono ?_); rintro e w' ⟨rfl, ⟨nd, rfl⟩⟩))
    repeat (go_quiet (first | (go_at_call 27; first | exact quiet0 (spec_l00In_d _ (by first | exact bh.out | exact bk.out)) | exact quiet1 (spec_l00In_d _ (by first | exact bh.out | exact bk.out)))); try go_wp2_with (first | (go_at_call 27; (with_reducible refine (spec_l00In_d _ (by first | exact bh.out | exact bk.out)).mono ?_); rintro e w' ⟨rfl, ⟨nd, rfl⟩⟩)))
    go_ret
    exact ⟨by rw [f.out]; rfl, by repeat (first | (with_reducible exact Below.refl _ _) | apply below_alloc | apply pw_below_drewN | apply below_drew | exact Below.refl _ _)⟩
theorem impl_angleText_c {v : Int} (p q : UInt8) (h : Tx.ab v ≤ 648000) (w : World) (T : Tb w) : Calls Tryd.prog 38 #[.int .i64 v, .string (bs [p]), .string (bs [q])] w fun e w' => e = .returned (.string (bs (angT v p q))) ∧ Below w.heap.size w w' := by
  have T := Aside0.mk T
  have nn := ab_nn v
  obtain ⟨u, hu⟩ : ∃ u, Tx.ab v = u := ⟨_, rfl⟩
  rw [hu] at nn h
  have e1 : Int.tdiv u 3600 = u / 3600 := tdiv_nn nn
  have e2 : Int.tdiv u 60 = u / 60 := tdiv_nn nn
  have e3 : Int.tmod (u / 60) 60 = u / 60 % 60 := tmod_nn (by omega)
  have e4 : Int.tmod u 60 = u % 60 := tmod_nn nn
  have s1 := bs_size (itoa (u / 3600))
  have l1 := itoa_len (n := u / 3600) (by omega) (by omega)
  have s2 := bs_size (pad (u / 60 % 60))
  have l2 := pad_len (n := u / 60 % 60) (by omega) (by omega)
  have s3 := bs_size (pad (u % 60))
  have l3 := pad_len (n := u % 60) (by omega) (by omega)
  have sp := bs_size [p]
  have sq := bs_size [q]
  have ep : ([p] : List UInt8).length = 1 := rfl
  have eq : ([q] : List UInt8).length = 1 := rfl
  by_cases c : v < 0
  · have hv : -v = u := by rw [← hu]; exact (if_pos c).symm
    have f := Aside0.mk (show (((((bs (itoa (u / 3600)) ++ bs [46]) ++ bs (pad (u / 60 % 60))) ++ bs [46]) ++ bs (pad (u % 60))) ++ bs [q]) = bs (angT v p q) by
      rw [szT_bs, bs_app]; unfold angT; rw [hu, if_pos c])
    have hv := Aside0.mk hv
    have hm : wrap64 (-v) = u := by rw [hv.out]; exact w64 (by omega) (by omega)
    clear hu
    go_enter Tryd.func38, Tryd.ntmps38
    go_wp2_with (fail)
    refine (impl_Decimal_c (n := u / 3600) (by omega) (by omega) _ (Tb_on T.out ( by repeat (first | (with_reducible first | exact Below.refl _ _ | apply below_alloc | apply pw_below_drewN | apply below_drew1 | (refine below_step ?_ (by assumption))) | exact Below.refl _ _) ))).mono ?_
    rintro e w1 ⟨rfl, hb⟩
    have HB := Aside0.mk (show Below w.heap.size w w1 from below_step ( by repeat (first | (with_reducible first | exact Below.refl _ _ | apply below_alloc | apply pw_below_drewN | apply below_drew1 | (refine below_step ?_ (by assumption))) | exact Below.refl _ _) ) hb)
    clear hb
    go_wp2_with (fail)
    refine (impl_padded_c (n := u / 60 % 60) (by omega) (by omega) _ (Tb_on T.out ( by repeat (first | (with_reducible first | exact HB.out | apply below_alloc | apply pw_below_drewN | apply below_drew1) | exact HB.out) ))).mono ?_
    rintro e w2 ⟨rfl, hb⟩
    have HB := Aside0.mk (show Below w.heap.size w w2 from below_step ( by repeat (first | (with_reducible first | exact HB.out | apply below_alloc | apply pw_below_drewN | apply below_drew1) | exact HB.out) ) hb)
    clear hb
    go_wp2_with (fail)
    refine (impl_padded_c (n := u % 60) (by omega) (by omega) _ (Tb_on T.out ( by repeat (first | (with_reducible first | exact HB.out | apply below_alloc | apply pw_below_drewN | apply below_drew1) | exact HB.out) ))).mono ?_
    rintro e w3 ⟨rfl, hb⟩
    have HB := Aside0.mk (show Below w.heap.size w w3 from below_step ( by repeat (first | (with_reducible first | exact HB.out | apply below_alloc | apply pw_below_drewN | apply below_drew1) | exact HB.out) ) hb)
    clear hb
    go_wp2
    go_ret
    exact ⟨ret_s f.out, ( by repeat (first | (with_reducible first | exact HB.out | apply below_alloc | apply pw_below_drewN | apply below_drew1) | exact HB.out) )⟩
  · have hv : v = u := by rw [← hu]; exact (if_neg c).symm
    subst hv
    have f := Aside0.mk (show (((((bs (itoa (v / 3600)) ++ bs [46]) ++ bs (pad (v / 60 % 60))) ++ bs [46]) ++ bs (pad (v % 60))) ++ bs [p]) = bs (angT v p q) by
      rw [szT_bs, bs_app]; unfold angT; rw [hu, if_neg c])
    clear hu
    go_enter Tryd.func38, Tryd.ntmps38
    go_wp2_with (fail)
    refine (impl_Decimal_c (n := v / 3600) (by omega) (by omega) _ (Tb_on T.out ( by repeat (first | (with_reducible first | exact Below.refl _ _ | apply below_alloc | apply pw_below_drewN | apply below_drew1 | (refine below_step ?_ (by assumption))) | exact Below.refl _ _) ))).mono ?_
    rintro e w1 ⟨rfl, hb⟩
    have HB := Aside0.mk (show Below w.heap.size w w1 from below_step ( by repeat (first | (with_reducible first | exact Below.refl _ _ | apply below_alloc | apply pw_below_drewN | apply below_drew1 | (refine below_step ?_ (by assumption))) | exact Below.refl _ _) ) hb)
    clear hb
    go_wp2_with (fail)
    refine (impl_padded_c (n := v / 60 % 60) (by omega) (by omega) _ (Tb_on T.out ( by repeat (first | (with_reducible first | exact HB.out | apply below_alloc | apply pw_below_drewN | apply below_drew1) | exact HB.out) ))).mono ?_
    rintro e w2 ⟨rfl, hb⟩
    have HB := Aside0.mk (show Below w.heap.size w w2 from below_step ( by repeat (first | (with_reducible first | exact HB.out | apply below_alloc | apply pw_below_drewN | apply below_drew1) | exact HB.out) ) hb)
    clear hb
    go_wp2_with (fail)
    refine (impl_padded_c (n := v % 60) (by omega) (by omega) _ (Tb_on T.out ( by repeat (first | (with_reducible first | exact HB.out | apply below_alloc | apply pw_below_drewN | apply below_drew1) | exact HB.out) ))).mono ?_
    rintro e w3 ⟨rfl, hb⟩
    have HB := Aside0.mk (show Below w.heap.size w w3 from below_step ( by repeat (first | (with_reducible first | exact HB.out | apply below_alloc | apply pw_below_drewN | apply below_drew1) | exact HB.out) ) hb)
    clear hb
    go_wp2
    go_ret
    exact ⟨ret_s f.out, ( by repeat (first | (with_reducible first | exact HB.out | apply below_alloc | apply pw_below_drewN | apply below_drew1) | exact HB.out) )⟩
end Go.Proofs.YthedepnndgemeaaDoor.Con
