/- Contracts of the functions on texts of numbers, hours and places. Conditions: as stated; the table of powers of ten lies as its initialiser lays it. -/
import Derived.Test.YthedepnndgemeaaDoorConTx
import Derived.IntWalk
import Derived.Deep.RegionHeld3
namespace Go.Proofs.YthedepnndgemeaaDoor.Con
open Go.RowKit Go.Proofs.YthedepnndgemeaaDoorW.PrintWords Go.Proofs.YthedepnndgemeaaDoorW.PrintLast Go.Proofs.YthedepnndgemeaaDoorW.PrintMore Go.Proofs.YthedepnndgemeaaDoor.Mth Go.Proofs.YthedepnndgemeaaDoor.Tx Go.Lib
attribute [local go_sem] max2_int min2_int max_two min_two max_three min_three
set_option linter.unusedVariables false
set_option linter.unusedSimpArgs false
theorem ret_s {a b : ByteArray} (h : a = b) : Ending.returned (.string a) = .returned (.string b) := by rw [h]
theorem impl_padded_c {n : Int} (h0 : 0 ≤ n) (h1 : n < 100) (w : World) (T : Tb w) : Calls Tryd.prog 39 #[.int .i64 n] w fun e w' => e = .returned (.string (bs (pad n))) ∧ Below w.heap.size w w' := by
  have T := Aside0.mk T
  have hs := bs_size (itoa n)
  have hl := itoa_len (n := n) (by omega) (by omega)
  by_cases c : n < 10
  · have f := Aside0.mk (show bs (pad n) = bs (48 :: itoa n) by unfold pad; rw [if_pos c])
    go_enter Tryd.func39, Tryd.ntmps39
    go_wp2_with (fail)
    refine (impl_Decimal_c (n := n) (by omega) (by omega) _ (Tb_on T.out ( by repeat (first | (with_reducible first | exact Below.refl _ _ | apply below_alloc | apply pw_below_drewN | apply below_drew1 | (refine below_step ?_ (by assumption))) | exact Below.refl _ _) ))).mono ?_
    rintro e w1 ⟨rfl, hb⟩
    go_wp2
    go_ret
    exact ⟨ret_s (by rw [f.out]; exact bs_app [48] (itoa n)), below_step ( by repeat (first | (with_reducible first | exact Below.refl _ _ | apply below_alloc | apply pw_below_drewN | apply below_drew1 | (refine below_step ?_ (by assumption))) | exact Below.refl _ _) ) hb⟩
  · have f := Aside0.mk (show bs (pad n) = bs (itoa n) by unfold pad; rw [if_neg c])
    go_enter Tryd.func39, Tryd.ntmps39
    go_wp2_with (fail)
    refine (impl_Decimal_c (n := n) (by omega) (by omega) _ (Tb_on T.out ( by repeat (first | (with_reducible first | exact Below.refl _ _ | apply below_alloc | apply pw_below_drewN | apply below_drew1 | (refine below_step ?_ (by assumption))) | exact Below.refl _ _) ))).mono ?_
    rintro e w1 ⟨rfl, hb⟩
    go_wp2
    go_ret
    exact ⟨ret_s f.out.symm, below_step ( by repeat (first | (with_reducible first | exact Below.refl _ _ | apply below_alloc | apply pw_below_drewN | apply below_drew1 | (refine below_step ?_ (by assumption))) | exact Below.refl _ _) ) hb⟩
def isHT (v : Int) : Prop := (0 ≤ v ∧ v ≤ 1295999) ∧ v % 900 = 0
instance (v : Int) : Decidable (isHT v) := by unfold isHT; infer_instance
def HTx (v : Int) : List UInt8 := if isHT v then HTv v else []
theorem pad_len {n : Int} (h0 : 0 ≤ n) (h1 : n < 100) : (pad n).length = 2 := by rw [pad_two n h0 h1]; rfl
theorem HT_bs (h m : Int) : ((bs (itoa h) ++ bs [104]) ++ bs (pad m)) ++ bs [109] = bs (HT h m) := by
  rw [bs_app, bs_app, bs_app]
  unfold HT
  simp
theorem impl_HourText_c {v : Int} (hv0 : -9223372036854775808 ≤ v) (hv1 : v ≤ 9223372036854775807) (w : World) (T : Tb w) : Calls Tryd.prog 18 #[.int .i64 v] w fun e w' => e = .returned (.string (bs (HTx v))) ∧ Below w.heap.size w w' := by
  have T := Aside0.mk T
  rcases dec (0 ≤ v ∧ v ≤ 1295999) with ⟨h, b⟩ | ⟨h, b⟩
  · have hm : Int.tmod v 900 = v % 900 := tmod_nn h.1
    by_cases z : v % 900 = 0
    · have f := Aside0.mk (show HTx v = HT (v / 54000) (v % 54000 / 900) from if_pos ⟨h, z⟩)
      have e1 : Int.tdiv v 54000 = v / 54000 := tdiv_nn h.1
      have e2 : Int.tmod v 54000 = v % 54000 := tmod_nn h.1
      have e3 : Int.tdiv (v % 54000) 900 = v % 54000 / 900 := tdiv_nn (by omega)
      have s1 := bs_size (itoa (v / 54000))
      have l1 := itoa_len (n := v / 54000) (by omega) (by omega)
      have s2 := bs_size (pad (v % 54000 / 900))
      have l2 := pad_len (n := v % 54000 / 900) (by omega) (by omega)
      go_enter Tryd.func18, Tryd.ntmps18
      go_wp2_with (fail)
      refine (impl_within_d _ b.out).mono ?_
      rintro e w' ⟨rfl, ⟨nd, rfl⟩⟩
      go_wp2_with (fail)
      refine (impl_Decimal_c (n := v / 54000) (by omega) (by omega) _ (Tb_on T.out ( by repeat (first | (with_reducible first | exact Below.refl _ _ | apply below_alloc | apply pw_below_drewN | apply below_drew1 | (refine below_step ?_ (by assumption))) | exact Below.refl _ _) ))).mono ?_
      rintro e w1 ⟨rfl, hb⟩
      have HB := Aside0.mk (show Below w.heap.size w w1 from below_step ( by repeat (first | (with_reducible first | exact Below.refl _ _ | apply below_alloc | apply pw_below_drewN | apply below_drew1 | (refine below_step ?_ (by assumption))) | exact Below.refl _ _) ) hb)
      clear hb
      go_wp2_with (fail)
      refine (impl_padded_c (n := v % 54000 / 900) (by omega) (by omega) _ (Tb_on T.out ( by repeat (first | (with_reducible first | exact HB.out | apply below_alloc | apply pw_below_drewN | apply below_drew1) | exact HB.out) ))).mono ?_
      rintro e w2 ⟨rfl, hb⟩
      have HB := Aside0.mk (show Below w.heap.size w w2 from below_step ( by repeat (first | (with_reducible first | exact HB.out | apply below_alloc | apply pw_below_drewN | apply below_drew1) | exact HB.out) ) hb)
      clear hb
      go_wp2
      go_ret
      exact ⟨ret_s (by rw [f.out]; exact HT_bs _ _), ( by repeat (first | (with_reducible first | exact HB.out | apply below_alloc | apply pw_below_drewN | apply below_drew1) | exact HB.out) )⟩
    · have f := Aside0.mk (show HTx v = [] from if_neg (fun e => z e.2))
      have z2 : (v % 900 == 0) = false := by simp [z]
      go_enter Tryd.func18, Tryd.ntmps18
      go_wp2_with (fail)
      refine (impl_within_d _ b.out).mono ?_
      rintro e w' ⟨rfl, ⟨nd, rfl⟩⟩
      go_wp2
      go_ret
      exact ⟨ret_s (by rw [f.out]), by repeat (first | (with_reducible first | exact Below.refl _ _ | apply below_alloc | apply pw_below_drewN | apply below_drew1 | (refine below_step ?_ (by assumption))) | exact Below.refl _ _)⟩
  · have f := Aside0.mk (show HTx v = [] from if_neg (fun e => h e.1))
    go_enter Tryd.func18, Tryd.ntmps18
    go_wp2_with (fail)
    refine (impl_within_d _ b.out).mono ?_
    rintro e w' ⟨rfl, ⟨nd, rfl⟩⟩
    go_wp2
    go_ret
    exact ⟨ret_s (by rw [f.out]), by repeat (first | (with_reducible first | exact Below.refl _ _ | apply below_alloc | apply pw_below_drewN | apply below_drew1 | (refine below_step ?_ (by assumption))) | exact Below.refl _ _)⟩
end Go.Proofs.YthedepnndgemeaaDoor.Con
