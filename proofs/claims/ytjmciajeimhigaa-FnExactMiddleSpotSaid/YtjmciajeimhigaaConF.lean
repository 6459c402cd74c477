/- Contracts of the program's functions on places. Conditions: as stated. -/
import Derived.Test.YtjmciajeimhigaaConB
import Derived.Test.YtjmciajeimhigaaConE
import Derived.Test.YtjmciajeimhigaaMdi
import Derived.IntWalk
import Derived.Deep.RegionHeld3
namespace Go.Proofs.Ytjmciajeimhigaa.Con
open Go.RowKit Go.Proofs.YtjmciajeimhigaaW.PrintWords Go.Proofs.YtjmciajeimhigaaW.PrintLast Go.Proofs.YtjmciajeimhigaaW.PrintMore Go.Proofs.Ytjmciajeimhigaa.Mth
attribute [local go_sem] max2_int min2_int max_two min_two max_three min_three
set_option linter.unusedVariables false
set_option linter.unusedSimpArgs false
theorem bcell {W w1 : World} (hb : Below W.heap.size W w1) : (∀ b o, b < W.heap.size → w1.cell? ⟨b, o, none⟩ = W.cell? ⟨b, o, none⟩) ∧ (∀ b o, b < W.heap.size → w1.frozen? ⟨b, o, none⟩ = W.frozen? ⟨b, o, none⟩) :=
  ⟨fun b o h => hb.cell (p := ⟨b, o, none⟩) h, fun b o h => hb.frozen (p := ⟨b, o, none⟩) h⟩
theorem quiet1 {P : Program} {f : FuncId} {args : Array Value} {w : World} {a n : Nat} {v : Value}
    (h : Calls P f args (w.drewN (a + n)) fun e w' => e = .returned v ∧ Drawn0 (w.drewN (a + n)) w') : Calls P f args (w.drewN (a + n)) fun e w'' => e = .returned v ∧ ∃ m, w'' = w.drewN (a + m) :=
  h.mono fun _ _ ⟨he, ⟨m, hm⟩⟩ => ⟨he, n + m, by rw [hm, World.drewN_drewN, Nat.add_assoc]⟩
theorem impl_ValidSpot_c {a b : Int} {r : Bool} (hr : decide (sOk a b) = r) (w : World) : Calls Try.prog 89 #[.agg #[.int .i64 a, .int .i64 b]] w fun e w' => e = .returned (.bool r) ∧ Below w.heap.size w w' := by
  rcases dec (-324000 ≤ a ∧ a ≤ 324000) with ⟨h, bh⟩ | ⟨h, bh⟩ <;> rcases dec (-648000 ≤ b ∧ b ≤ 647999) with ⟨k, bk⟩ | ⟨k, bk⟩
  · have f := Aside0.mk (show r = true by rw [← hr]; exact decide_eq_true ⟨h, k⟩)
    clear hr h k
    go_enter Try.func89, Try.ntmps89
    go_wp2_with (first | (go_at_call 58; (with_reducible refine (impl_within_d _ (by first | exact bh.out | exact bk.out)).mono ?_); rintro e w' ⟨rfl, ⟨nd, rfl⟩⟩))
    repeat (go_quiet (first | (go_at_call 58; first | exact quiet0 (impl_within_d _ (by first | exact bh.out | exact bk.out)) | exact quiet1 (impl_within_d _ (by first | exact bh.out | exact bk.out)))); try go_wp2_with (first | (go_at_call 58; (with_reducible refine (impl_within_d _ (by first | exact bh.out | exact bk.out)).mono ?_); rintro e w' ⟨rfl, ⟨nd, rfl⟩⟩)))
    go_ret
    exact ⟨by rw [f.out]; rfl, by repeat (first | (with_reducible exact Below.refl _ _) | apply below_alloc | apply pw_below_drewN | apply below_drew | exact Below.refl _ _)⟩
  all_goals
    have f := Aside0.mk (show r = false by rw [← hr]; exact decide_eq_false (fun e => by first | exact h e.1 | exact k e.2))
    clear hr h k
    go_enter Try.func89, Try.ntmps89
    go_wp2_with (first | (go_at_call 58; (with_reducible refine (impl_within_d _ (by first | exact bh.out | exact bk.out)).mono ?_); rintro e w' ⟨rfl, ⟨nd, rfl⟩⟩))
    repeat (go_quiet (first | (go_at_call 58; first | exact quiet0 (impl_within_d _ (by first | exact bh.out | exact bk.out)) | exact quiet1 (impl_within_d _ (by first | exact bh.out | exact bk.out)))); try go_wp2_with (first | (go_at_call 58; (with_reducible refine (impl_within_d _ (by first | exact bh.out | exact bk.out)).mono ?_); rintro e w' ⟨rfl, ⟨nd, rfl⟩⟩)))
    go_ret
    exact ⟨by rw [f.out]; rfl, by repeat (first | (with_reducible exact Below.refl _ _) | apply below_alloc | apply pw_below_drewN | apply below_drew | exact Below.refl _ _)⟩
theorem spec_l02Ok_c {a b : Int} {r : Bool} (hr : decide (sOk a b) = r) (w : World) : Calls Try.prog 81 #[.agg #[.int .i64 a, .int .i64 b]] w fun e w' => e = .returned (.bool r) ∧ Below w.heap.size w w' := by
  rcases dec (-324000 ≤ a ∧ a ≤ 324000) with ⟨h, bh⟩ | ⟨h, bh⟩ <;> rcases dec (-648000 ≤ b ∧ b ≤ 647999) with ⟨k, bk⟩ | ⟨k, bk⟩
  · have f := Aside0.mk (show r = true by rw [← hr]; exact decide_eq_true ⟨h, k⟩)
    clear hr h k
    go_enter Try.func81, Try.ntmps81
    go_wp2_with (first | (go_at_call 92; (with_reducible refine (spec_l00In_d _ (by first | exact bh.out | exact bk.out)).mono ?_); rintro e w' ⟨rfl, ⟨nd, rfl⟩⟩))
    repeat (go_quiet (first | (go_at_call 92; first | exact quiet0 (spec_l00In_d _ (by first | exact bh.out | exact bk.out)) | exact quiet1 (spec_l00In_d _ (by first | exact bh.out | exact bk.out)))); try go_wp2_with (first | (go_at_call 92; (with_reducible refine (spec_l00In_d _ (by first | exact bh.out | exact bk.out)).mono ?_); rintro e w' ⟨rfl, ⟨nd, rfl⟩⟩)))
    go_ret
    exact ⟨by rw [f.out]; rfl, by repeat (first | (with_reducible exact Below.refl _ _) | apply below_alloc | apply pw_below_drewN | apply below_drew | exact Below.refl _ _)⟩
  all_goals
    have f := Aside0.mk (show r = false by rw [← hr]; exact decide_eq_false (fun e => by first | exact h e.1 | exact k e.2))
    clear hr h k
    go_enter Try.func81, Try.ntmps81
    go_wp2_with (first | (go_at_call 92; (with_reducible refine (spec_l00In_d _ (by first | exact bh.out | exact bk.out)).mono ?_); rintro e w' ⟨rfl, ⟨nd, rfl⟩⟩))
    repeat (go_quiet (first | (go_at_call 92; first | exact quiet0 (spec_l00In_d _ (by first | exact bh.out | exact bk.out)) | exact quiet1 (spec_l00In_d _ (by first | exact bh.out | exact bk.out)))); try go_wp2_with (first | (go_at_call 92; (with_reducible refine (spec_l00In_d _ (by first | exact bh.out | exact bk.out)).mono ?_); rintro e w' ⟨rfl, ⟨nd, rfl⟩⟩)))
    go_ret
    exact ⟨by rw [f.out]; rfl, by repeat (first | (with_reducible exact Below.refl _ _) | apply below_alloc | apply pw_below_drewN | apply below_drew | exact Below.refl _ _)⟩
theorem laws_toSpot_c {a b : Int} (w : World) : Calls Try.prog 42 #[.agg #[.int .i64 a, .int .i64 b]] w fun e w' => e = .returned (.agg #[.int .i64 a, .int .i64 b]) ∧ Below w.heap.size w w' := by
  go_enter Try.func42, Try.ntmps42
  go_wp2
  exact bodyPost_ret (v := .agg #[.int .i64 a, .int .i64 b]) (by simp [results, Try.results42, go_sem]) rfl ⟨rfl, by repeat (first | (with_reducible exact Below.refl _ _) | apply below_alloc | apply pw_below_drewN | apply below_drew | exact Below.refl _ _)⟩
theorem spec_l00Max_v {a b : Int} (w : World) : Calls Try.prog 79 #[.int .i64 a, .int .i64 b] w fun e w' => e = .returned (.int .i64 (mxD a b)) ∧ Drawn0 w w' := spec_l00Max_c w rfl
theorem spec_l00Min_v {a b : Int} (w : World) : Calls Try.prog 112 #[.int .i64 a, .int .i64 b] w fun e w' => e = .returned (.int .i64 (mnD a b)) ∧ Drawn0 w w' := spec_l00Min_c w rfl
theorem impl_cosDistance_c {a b c d : Int} (h1 : sOk a b) (h2 : sOk c d) (w : World) : Calls Try.prog 108 #[.agg #[.int .i64 a, .int .i64 b], .agg #[.int .i64 c, .int .i64 d]] w fun e w' => e = .returned (.int .i64 (cosD a b c d)) ∧ Below w.heap.size w w' := by
  have sa := S_bd a
  have sc := S_bd c
  have ca := Co_bd a
  have cc := Co_bd c
  have cd := Co_bd (d - b)
  obtain ⟨p0, p1⟩ := mul_bd (x := S a) (y := S c) sa sc
  obtain ⟨q0, q1⟩ := mul_bd (x := Co a) (y := Co c) ca cc
  obtain ⟨r0, r1⟩ := mul_bd (x := Co a * Co c) (y := Co (d - b)) (X := 1000000000000) (Y := 1000000) (by omega) cd
  clear sa sc ca cc cd
  have k0 : IntKind.i64.wrap (d - b) = d - b := IntWalk.i64_in _ (by omega)
  have k1 : IntKind.i64.wrap (S a * S c) = S a * S c := IntWalk.i64_in _ (by omega)
  have k2 : IntKind.i64.wrap (S a * S c * 1000000) = S a * S c * 1000000 := IntWalk.i64_in _ (by omega)
  have k3 : IntKind.i64.wrap (Co a * Co c) = Co a * Co c := IntWalk.i64_in _ (by omega)
  have k4 : IntKind.i64.wrap (Co a * Co c * Co (d - b)) = Co a * Co c * Co (d - b) := IntWalk.i64_in _ (by omega)
  have k5 : IntKind.i64.wrap (S a * S c * 1000000 + Co a * Co c * Co (d - b)) = S a * S c * 1000000 + Co a * Co c * Co (d - b) := IntWalk.i64_in _ (by omega)
  go_enter Try.func108, Try.ntmps108
  go_wp2_with (first | (go_at_call 59; (with_reducible refine (impl_sine_c _).mono ?_); rintro e w' ⟨rfl, ⟨nd, rfl⟩⟩) | (go_at_call 64; (with_reducible refine (impl_cosine_c _ (by omega) (by omega)).mono ?_); rintro e w' ⟨rfl, ⟨nd, rfl⟩⟩) | (go_at_call 62; (with_reducible refine (impl_floorDiv_c _ (by omega) (by omega) (by omega)).mono ?_); rintro e w' ⟨rfl, ⟨nd, rfl⟩⟩))
  repeat (go_quiet (first | (go_at_call 59; first | exact quiet0 (impl_sine_c _) | exact quiet1 (impl_sine_c _)) | (go_at_call 64; first | exact quiet0 (impl_cosine_c _ (by omega) (by omega)) | exact quiet1 (impl_cosine_c _ (by omega) (by omega))) | (go_at_call 62; first | exact quiet0 (impl_floorDiv_c _ (by omega) (by omega) (by omega)) | exact quiet1 (impl_floorDiv_c _ (by omega) (by omega) (by omega)))); try go_wp2_with (first | (go_at_call 59; (with_reducible refine (impl_sine_c _).mono ?_); rintro e w' ⟨rfl, ⟨nd, rfl⟩⟩) | (go_at_call 64; (with_reducible refine (impl_cosine_c _ (by omega) (by omega)).mono ?_); rintro e w' ⟨rfl, ⟨nd, rfl⟩⟩) | (go_at_call 62; (with_reducible refine (impl_floorDiv_c _ (by omega) (by omega) (by omega)).mono ?_); rintro e w' ⟨rfl, ⟨nd, rfl⟩⟩)))
  all_goals go_ret
  all_goals exact ⟨ret_int (by (try unfold mxD mnD); unfold cosD mx mn cosV; (repeat' split) <;> omega), by repeat (first | (with_reducible exact Below.refl _ _) | apply below_alloc | apply pw_below_drewN | apply below_drew | exact Below.refl _ _)⟩
theorem spec_l05Cos_c {a b c d : Int} (h1 : sOk a b) (h2 : sOk c d) (w : World) : Calls Try.prog 106 #[.agg #[.int .i64 a, .int .i64 b], .agg #[.int .i64 c, .int .i64 d]] w fun e w' => e = .returned (.int .i64 (cosD a b c d)) ∧ Below w.heap.size w w' := by
  have sa := S_bd a
  have sc := S_bd c
  have ca := Co_bd a
  have cc := Co_bd c
  have cd := Co_bd (d - b)
  obtain ⟨p0, p1⟩ := mul_bd (x := S a) (y := S c) sa sc
  obtain ⟨q0, q1⟩ := mul_bd (x := Co a) (y := Co c) ca cc
  obtain ⟨r0, r1⟩ := mul_bd (x := Co a * Co c) (y := Co (d - b)) (X := 1000000000000) (Y := 1000000) (by omega) cd
  clear sa sc ca cc cd
  have k0 : IntKind.i64.wrap (d - b) = d - b := IntWalk.i64_in _ (by omega)
  have k1 : IntKind.i64.wrap (S a * S c) = S a * S c := IntWalk.i64_in _ (by omega)
  have k2 : IntKind.i64.wrap (S a * S c * 1000000) = S a * S c * 1000000 := IntWalk.i64_in _ (by omega)
  have k3 : IntKind.i64.wrap (Co a * Co c) = Co a * Co c := IntWalk.i64_in _ (by omega)
  have k4 : IntKind.i64.wrap (Co a * Co c * Co (d - b)) = Co a * Co c * Co (d - b) := IntWalk.i64_in _ (by omega)
  have k5 : IntKind.i64.wrap (S a * S c * 1000000 + Co a * Co c * Co (d - b)) = S a * S c * 1000000 + Co a * Co c * Co (d - b) := IntWalk.i64_in _ (by omega)
  go_enter Try.func106, Try.ntmps106
  go_wp2_with (first | (go_at_call 66; (with_reducible refine (spec_l03Sine_c _).mono ?_); rintro e w' ⟨rfl, ⟨nd, rfl⟩⟩) | (go_at_call 102; (with_reducible refine (spec_l03Cosine_c _ (by omega) (by omega)).mono ?_); rintro e w' ⟨rfl, ⟨nd, rfl⟩⟩) | (go_at_call 110; (with_reducible refine (spec_l00Floor_c _ (by omega) (by omega) (by omega)).mono ?_); rintro e w' ⟨rfl, ⟨nd, rfl⟩⟩) | (go_at_call 112; (with_reducible refine (spec_l00Min_v _).mono ?_); rintro e w' ⟨rfl, ⟨nd, rfl⟩⟩) | (go_at_call 79; (with_reducible refine (spec_l00Max_v _).mono ?_); rintro e w' ⟨rfl, ⟨nd, rfl⟩⟩))
  repeat (go_quiet (first | (go_at_call 66; first | exact quiet0 (spec_l03Sine_c _) | exact quiet1 (spec_l03Sine_c _)) | (go_at_call 102; first | exact quiet0 (spec_l03Cosine_c _ (by omega) (by omega)) | exact quiet1 (spec_l03Cosine_c _ (by omega) (by omega))) | (go_at_call 110; first | exact quiet0 (spec_l00Floor_c _ (by omega) (by omega) (by omega)) | exact quiet1 (spec_l00Floor_c _ (by omega) (by omega) (by omega))) | (go_at_call 112; first | exact quiet0 (spec_l00Min_v _) | exact quiet1 (spec_l00Min_v _)) | (go_at_call 79; first | exact quiet0 (spec_l00Max_v _) | exact quiet1 (spec_l00Max_v _))); try go_wp2_with (first | (go_at_call 66; (with_reducible refine (spec_l03Sine_c _).mono ?_); rintro e w' ⟨rfl, ⟨nd, rfl⟩⟩) | (go_at_call 102; (with_reducible refine (spec_l03Cosine_c _ (by omega) (by omega)).mono ?_); rintro e w' ⟨rfl, ⟨nd, rfl⟩⟩) | (go_at_call 110; (with_reducible refine (spec_l00Floor_c _ (by omega) (by omega) (by omega)).mono ?_); rintro e w' ⟨rfl, ⟨nd, rfl⟩⟩) | (go_at_call 112; (with_reducible refine (spec_l00Min_v _).mono ?_); rintro e w' ⟨rfl, ⟨nd, rfl⟩⟩) | (go_at_call 79; (with_reducible refine (spec_l00Max_v _).mono ?_); rintro e w' ⟨rfl, ⟨nd, rfl⟩⟩)))
  all_goals go_ret
  all_goals exact ⟨ret_int (by (try unfold mxD mnD); unfold cosD mx mn cosV; (repeat' split) <;> omega), by repeat (first | (with_reducible exact Below.refl _ _) | apply below_alloc | apply pw_below_drewN | apply below_drew | exact Below.refl _ _)⟩
end Go.Proofs.Ytjmciajeimhigaa.Con
