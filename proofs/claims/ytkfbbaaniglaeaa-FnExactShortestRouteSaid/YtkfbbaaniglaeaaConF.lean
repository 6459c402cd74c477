/- Contracts of the program's functions on places. Conditions: as stated. -/
import Derived.Test.YtkfbbaaniglaeaaConB
import Derived.Test.YtkfbbaaniglaeaaConE
import Derived.Test.YtkfbbaaniglaeaaMdi
import Derived.IntWalk
import Derived.Deep.RegionHeld3
namespace Go.Proofs.Ytkfbbaaniglaeaa.Con
open Go.RowKit Go.Proofs.YtkfbbaaniglaeaaW.PrintWords Go.Proofs.YtkfbbaaniglaeaaW.PrintLast Go.Proofs.YtkfbbaaniglaeaaW.PrintMore Go.Proofs.Ytkfbbaaniglaeaa.Mth
attribute [local go_sem] max2_int min2_int max_two min_two max_three min_three
set_option linter.unusedVariables false
set_option linter.unusedSimpArgs false
theorem bcell {W w1 : World} (hb : Below W.heap.size W w1) : (∀ b o, b < W.heap.size → w1.cell? ⟨b, o, none⟩ = W.cell? ⟨b, o, none⟩) ∧ (∀ b o, b < W.heap.size → w1.frozen? ⟨b, o, none⟩ = W.frozen? ⟨b, o, none⟩) :=
  ⟨fun b o h => hb.cell (p := ⟨b, o, none⟩) h, fun b o h => hb.frozen (p := ⟨b, o, none⟩) h⟩
theorem quiet1 {P : Program} {f : FuncId} {args : Array Value} {w : World} {a n : Nat} {v : Value}
    (h : Calls P f args (w.drewN (a + n)) fun e w' => e = .returned v ∧ Drawn0 (w.drewN (a + n)) w') : Calls P f args (w.drewN (a + n)) fun e w'' => e = .returned v ∧ ∃ m, w'' = w.drewN (a + m) :=
  h.mono fun _ _ ⟨he, ⟨m, hm⟩⟩ => ⟨he, n + m, by rw [hm, World.drewN_drewN, Nat.add_assoc]⟩
theorem impl_ValidSpot_c {a b : Int} {r : Bool} (hr : decide (sOk a b) = r) (w : World) : Calls Try.prog 133 #[.agg #[.int .i64 a, .int .i64 b]] w fun e w' => e = .returned (.bool r) ∧ Below w.heap.size w w' := by
  rcases dec (-324000 ≤ a ∧ a ≤ 324000) with ⟨h, bh⟩ | ⟨h, bh⟩ <;> rcases dec (-648000 ≤ b ∧ b ≤ 647999) with ⟨k, bk⟩ | ⟨k, bk⟩
  · have f := Aside0.mk (show r = true by rw [← hr]; exact decide_eq_true ⟨h, k⟩)
    clear hr h k
    go_enter Try.func133, Try.ntmps133
    go_wp2_with (first | (go_at_call 136; (with_reducible refine (impl_within_d _ (by first | exact bh.out | exact bk.out)).mono ?_); rintro e w' ⟨rfl, ⟨nd, rfl⟩⟩))
    repeat (go_quiet (first | (go_at_call 136; first | exact quiet0 (impl_within_d _ (by first | exact bh.out | exact bk.out)) | exact quiet1 (impl_within_d _ (by first | exact bh.out | exact bk.out)))); try go_wp2_with (first | (go_at_call 136; (with_reducible refine (impl_within_d _ (by first | exact bh.out | exact bk.out)).mono ?_); rintro e w' ⟨rfl, ⟨nd, rfl⟩⟩)))
    go_ret
    exact ⟨by rw [f.out]; rfl, by repeat (first | (with_reducible exact Below.refl _ _) | apply below_alloc | apply pw_below_drewN | apply below_drew | exact Below.refl _ _)⟩
  all_goals
    have f := Aside0.mk (show r = false by rw [← hr]; exact decide_eq_false (fun e => by first | exact h e.1 | exact k e.2))
    clear hr h k
    go_enter Try.func133, Try.ntmps133
    go_wp2_with (first | (go_at_call 136; (with_reducible refine (impl_within_d _ (by first | exact bh.out | exact bk.out)).mono ?_); rintro e w' ⟨rfl, ⟨nd, rfl⟩⟩))
    repeat (go_quiet (first | (go_at_call 136; first | exact quiet0 (impl_within_d _ (by first | exact bh.out | exact bk.out)) | exact quiet1 (impl_within_d _ (by first | exact bh.out | exact bk.out)))); try go_wp2_with (first | (go_at_call 136; (with_reducible refine (impl_within_d _ (by first | exact bh.out | exact bk.out)).mono ?_); rintro e w' ⟨rfl, ⟨nd, rfl⟩⟩)))
    go_ret
    exact ⟨by rw [f.out]; rfl, by repeat (first | (with_reducible exact Below.refl _ _) | apply below_alloc | apply pw_below_drewN | apply below_drew | exact Below.refl _ _)⟩
theorem spec_l02Ok_c {a b : Int} {r : Bool} (hr : decide (sOk a b) = r) (w : World) : Calls Try.prog 106 #[.agg #[.int .i64 a, .int .i64 b]] w fun e w' => e = .returned (.bool r) ∧ Below w.heap.size w w' := by
  rcases dec (-324000 ≤ a ∧ a ≤ 324000) with ⟨h, bh⟩ | ⟨h, bh⟩ <;> rcases dec (-648000 ≤ b ∧ b ≤ 647999) with ⟨k, bk⟩ | ⟨k, bk⟩
  · have f := Aside0.mk (show r = true by rw [← hr]; exact decide_eq_true ⟨h, k⟩)
    clear hr h k
    go_enter Try.func106, Try.ntmps106
    go_wp2_with (first | (go_at_call 144; (with_reducible refine (spec_l00In_d _ (by first | exact bh.out | exact bk.out)).mono ?_); rintro e w' ⟨rfl, ⟨nd, rfl⟩⟩))
    repeat (go_quiet (first | (go_at_call 144; first | exact quiet0 (spec_l00In_d _ (by first | exact bh.out | exact bk.out)) | exact quiet1 (spec_l00In_d _ (by first | exact bh.out | exact bk.out)))); try go_wp2_with (first | (go_at_call 144; (with_reducible refine (spec_l00In_d _ (by first | exact bh.out | exact bk.out)).mono ?_); rintro e w' ⟨rfl, ⟨nd, rfl⟩⟩)))
    go_ret
    exact ⟨by rw [f.out]; rfl, by repeat (first | (with_reducible exact Below.refl _ _) | apply below_alloc | apply pw_below_drewN | apply below_drew | exact Below.refl _ _)⟩
  all_goals
    have f := Aside0.mk (show r = false by rw [← hr]; exact decide_eq_false (fun e => by first | exact h e.1 | exact k e.2))
    clear hr h k
    go_enter Try.func106, Try.ntmps106
    go_wp2_with (first | (go_at_call 144; (with_reducible refine (spec_l00In_d _ (by first | exact bh.out | exact bk.out)).mono ?_); rintro e w' ⟨rfl, ⟨nd, rfl⟩⟩))
    repeat (go_quiet (first | (go_at_call 144; first | exact quiet0 (spec_l00In_d _ (by first | exact bh.out | exact bk.out)) | exact quiet1 (spec_l00In_d _ (by first | exact bh.out | exact bk.out)))); try go_wp2_with (first | (go_at_call 144; (with_reducible refine (spec_l00In_d _ (by first | exact bh.out | exact bk.out)).mono ?_); rintro e w' ⟨rfl, ⟨nd, rfl⟩⟩)))
    go_ret
    exact ⟨by rw [f.out]; rfl, by repeat (first | (with_reducible exact Below.refl _ _) | apply below_alloc | apply pw_below_drewN | apply below_drew | exact Below.refl _ _)⟩
theorem laws_toSpot_c {a b : Int} (w : World) : Calls Try.prog 109 #[.agg #[.int .i64 a, .int .i64 b]] w fun e w' => e = .returned (.agg #[.int .i64 a, .int .i64 b]) ∧ Below w.heap.size w w' := by
  go_enter Try.func109, Try.ntmps109
  go_wp2
  exact bodyPost_ret (v := .agg #[.int .i64 a, .int .i64 b]) (by simp [results, Try.results109, go_sem]) rfl ⟨rfl, by repeat (first | (with_reducible exact Below.refl _ _) | apply below_alloc | apply pw_below_drewN | apply below_drew | exact Below.refl _ _)⟩
theorem impl_goreOf_c {g a b : Int} (hg : gOk g) (hb : -648000 ≤ b ∧ b ≤ 647999) (w : World) : Calls Try.prog 127 #[.int .i64 g, .agg #[.int .i64 a, .int .i64 b]] w fun e w' => e = .returned (.int .i64 (gore g b)) ∧ Below w.heap.size w w' := by
  obtain ⟨s0, s1, _⟩ := gOk_span hg
  have g0 : 6 ≤ g := hg.1.1
  have g1 : g ≤ 48 := hg.1.2
  have hz : (g == 0) = false := by simp; omega
  have hq : Int.tdiv 1296000 g = 1296000 / g := tdiv_nn (by decide)
  have hz2 : (1296000 / g == 0) = false := by simp; omega
  have c0 : 0 ≤ gore g b := Int.ediv_nonneg (by omega) (by omega)
  have c1 : gore g b ≤ 1296000 := Int.le_trans (Int.ediv_le_self _ (by omega)) (by omega)
  unfold gore at c0 c1
  have r0 : 0 ≤ b % 1296000 := by omega
  have r1 : b % 1296000 < 1296000 := by omega
  go_enter Try.func127, Try.ntmps127
  go_wp2_with (first | (go_at_call 178; (with_reducible refine (impl_around_c _).mono ?_); rintro e w' ⟨rfl, ⟨nd, rfl⟩⟩))
  repeat (go_quiet (first | (go_at_call 178; first | exact quiet0 (impl_around_c _) | exact quiet1 (impl_around_c _))); try go_wp2_with (first | (go_at_call 178; (with_reducible refine (impl_around_c _).mono ?_); rintro e w' ⟨rfl, ⟨nd, rfl⟩⟩)))
  go_ret
  exact ⟨rfl, by repeat (first | (with_reducible exact Below.refl _ _) | apply below_alloc | apply pw_below_drewN | apply below_drew | exact Below.refl _ _)⟩
theorem spec_l04Gore_c {g a b : Int} (hg : gOk g) (hb : -648000 ≤ b ∧ b ≤ 647999) (w : World) : Calls Try.prog 125 #[.int .i64 g, .agg #[.int .i64 a, .int .i64 b]] w fun e w' => e = .returned (.int .i64 (gore g b)) ∧ Below w.heap.size w w' := by
  obtain ⟨s0, s1, _⟩ := gOk_span hg
  have g0 : 6 ≤ g := hg.1.1
  have g1 : g ≤ 48 := hg.1.2
  have hz : (g == 0) = false := by simp; omega
  have hq : Int.tdiv 1296000 g = 1296000 / g := tdiv_nn (by decide)
  have hz2 : (1296000 / g == 0) = false := by simp; omega
  have c0 : 0 ≤ gore g b := Int.ediv_nonneg (by omega) (by omega)
  have c1 : gore g b ≤ 1296000 := Int.le_trans (Int.ediv_le_self _ (by omega)) (by omega)
  unfold gore at c0 c1
  by_cases z : b < 0
  · have e : b % 1296000 = b + 1296000 := by omega
    rw [e] at c0 c1
    have f := Aside0.mk (show gore g b = (b + 1296000) / (1296000 / g) by unfold gore; rw [e])
    clear e
    go_enter Try.func125, Try.ntmps125
    go_wp2_with (first | (fail))
    repeat (go_quiet (first | (fail)); try go_wp2_with (first | (fail)))
    go_ret
    exact ⟨ret_int f.out.symm, by repeat (first | (with_reducible exact Below.refl _ _) | apply below_alloc | apply pw_below_drewN | apply below_drew | exact Below.refl _ _)⟩
  · have e : b % 1296000 = b := by omega
    rw [e] at c0 c1
    have f := Aside0.mk (show gore g b = b / (1296000 / g) by unfold gore; rw [e])
    clear e
    go_enter Try.func125, Try.ntmps125
    go_wp2_with (first | (fail))
    repeat (go_quiet (first | (fail)); try go_wp2_with (first | (fail)))
    go_ret
    exact ⟨ret_int f.out.symm, by repeat (first | (with_reducible exact Below.refl _ _) | apply below_alloc | apply pw_below_drewN | apply below_drew | exact Below.refl _ _)⟩
theorem spec_l00Max_v {a b : Int} (w : World) : Calls Try.prog 145 #[.int .i64 a, .int .i64 b] w fun e w' => e = .returned (.int .i64 (mxD a b)) ∧ Drawn0 w w' := spec_l00Max_c w rfl
theorem spec_l00Min_v {a b : Int} (w : World) : Calls Try.prog 196 #[.int .i64 a, .int .i64 b] w fun e w' => e = .returned (.int .i64 (mnD a b)) ∧ Drawn0 w w' := spec_l00Min_c w rfl
theorem impl_cosDistance_c {a b c d : Int} (h1 : sOk a b) (h2 : sOk c d) (w : World) : Calls Try.prog 183 #[.agg #[.int .i64 a, .int .i64 b], .agg #[.int .i64 c, .int .i64 d]] w fun e w' => e = .returned (.int .i64 (cosD a b c d)) ∧ Below w.heap.size w w' := by
  have sa := S_bd a
  have sc := S_bd c
  have ca := Co_bd a
  have cc := Co_bd c
  have cd := Co_bd (d - b)
  obtain ⟨p0, p1⟩ := mul_bd (x := S a) (y := S c) sa sc
  obtain ⟨q0, q1⟩ := mul_bd (x := Co a) (y := Co c) ca cc
  obtain ⟨r0, r1⟩ := mul_bd (x := Co a * Co c) (y := Co (d - b)) (X := 1000000000000) (Y := 1000000) (by omega) cd
  clear sa sc ca cc cd
  have k0 : IntKind.i64.wrap (d - b) = d - b := IntWalk.i64_in _ (by omega)
  have k1 : IntKind.i64.wrap (S a * S c) = S a * S c := IntWalk.i64_in _ (by omega)
  have k2 : IntKind.i64.wrap (S a * S c * 1000000) = S a * S c * 1000000 := IntWalk.i64_in _ (by omega)
  have k3 : IntKind.i64.wrap (Co a * Co c) = Co a * Co c := IntWalk.i64_in _ (by omega)
  have k4 : IntKind.i64.wrap (Co a * Co c * Co (d - b)) = Co a * Co c * Co (d - b) := IntWalk.i64_in _ (by omega)
  have k5 : IntKind.i64.wrap (S a * S c * 1000000 + Co a * Co c * Co (d - b)) = S a * S c * 1000000 + Co a * Co c * Co (d - b) := IntWalk.i64_in _ (by omega)
  go_enter Try.func183, Try.ntmps183
  go_wp2_with (first | (go_at_call 198; (with_reducible refine (impl_sine_c _).mono ?_); rintro e w' ⟨rfl, ⟨nd, rfl⟩⟩) | (go_at_call 190; (with_reducible refine (impl_cosine_c _ (by omega) (by omega)).mono ?_); rintro e w' ⟨rfl, ⟨nd, rfl⟩⟩) | (go_at_call 172; (with_reducible refine (impl_floorDiv_c _ (by omega) (by omega) (by omega)).mono ?_); rintro e w' ⟨rfl, ⟨nd, rfl⟩⟩))
  repeat (go_quiet (first | (go_at_call 198; first | exact quiet0 (impl_sine_c _) | exact quiet1 (impl_sine_c _)) | (go_at_call 190; first | exact quiet0 (impl_cosine_c _ (by omega) (by omega)) | exact quiet1 (impl_cosine_c _ (by omega) (by omega))) | (go_at_call 172; first | exact quiet0 (impl_floorDiv_c _ (by omega) (by omega) (by omega)) | exact quiet1 (impl_floorDiv_c _ (by omega) (by omega) (by omega)))); try go_wp2_with (first | (go_at_call 198; (with_reducible refine (impl_sine_c _).mono ?_); rintro e w' ⟨rfl, ⟨nd, rfl⟩⟩) | (go_at_call 190; (with_reducible refine (impl_cosine_c _ (by omega) (by omega)).mono ?_); rintro e w' ⟨rfl, ⟨nd, rfl⟩⟩) | (go_at_call 172; (with_reducible refine (impl_floorDiv_c _ (by omega) (by omega) (by omega)).mono ?_); rintro e w' ⟨rfl, ⟨nd, rfl⟩⟩)))
  all_goals go_ret
  all_goals exact ⟨ret_int (by (try unfold mxD mnD); unfold cosD mx mn cosV; (repeat' split) <;> omega), by repeat (first | (with_reducible exact Below.refl _ _) | apply below_alloc | apply pw_below_drewN | apply below_drew | exact Below.refl _ _)⟩
theorem spec_l05Cos_c {a b c d : Int} (h1 : sOk a b) (h2 : sOk c d) (w : World) : Calls Try.prog 181 #[.agg #[.int .i64 a, .int .i64 b], .agg #[.int .i64 c, .int .i64 d]] w fun e w' => e = .returned (.int .i64 (cosD a b c d)) ∧ Below w.heap.size w w' := by
  have sa := S_bd a
  have sc := S_bd c
  have ca := Co_bd a
  have cc := Co_bd c
  have cd := Co_bd (d - b)
  obtain ⟨p0, p1⟩ := mul_bd (x := S a) (y := S c) sa sc
  obtain ⟨q0, q1⟩ := mul_bd (x := Co a) (y := Co c) ca cc
  obtain ⟨r0, r1⟩ := mul_bd (x := Co a * Co c) (y := Co (d - b)) (X := 1000000000000) (Y := 1000000) (by omega) cd
  clear sa sc ca cc cd
  have k0 : IntKind.i64.wrap (d - b) = d - b := IntWalk.i64_in _ (by omega)
  have k1 : IntKind.i64.wrap (S a * S c) = S a * S c := IntWalk.i64_in _ (by omega)
  have k2 : IntKind.i64.wrap (S a * S c * 1000000) = S a * S c * 1000000 := IntWalk.i64_in _ (by omega)
  have k3 : IntKind.i64.wrap (Co a * Co c) = Co a * Co c := IntWalk.i64_in _ (by omega)
  have k4 : IntKind.i64.wrap (Co a * Co c * Co (d - b)) = Co a * Co c * Co (d - b) := IntWalk.i64_in _ (by omega)
  have k5 : IntKind.i64.wrap (S a * S c * 1000000 + Co a * Co c * Co (d - b)) = S a * S c * 1000000 + Co a * Co c * Co (d - b) := IntWalk.i64_in _ (by omega)
  go_enter Try.func181, Try.ntmps181
  go_wp2_with (first | (go_at_call 195; (with_reducible refine (spec_l03Sine_c _).mono ?_); rintro e w' ⟨rfl, ⟨nd, rfl⟩⟩) | (go_at_call 188; (with_reducible refine (spec_l03Cosine_c _ (by omega) (by omega)).mono ?_); rintro e w' ⟨rfl, ⟨nd, rfl⟩⟩) | (go_at_call 197; (with_reducible refine (spec_l00Floor_c _ (by omega) (by omega) (by omega)).mono ?_); rintro e w' ⟨rfl, ⟨nd, rfl⟩⟩) | (go_at_call 196; (with_reducible refine (spec_l00Min_v _).mono ?_); rintro e w' ⟨rfl, ⟨nd, rfl⟩⟩) | (go_at_call 145; (with_reducible refine (spec_l00Max_v _).mono ?_); rintro e w' ⟨rfl, ⟨nd, rfl⟩⟩))
  repeat (go_quiet (first | (go_at_call 195; first | exact quiet0 (spec_l03Sine_c _) | exact quiet1 (spec_l03Sine_c _)) | (go_at_call 188; first | exact quiet0 (spec_l03Cosine_c _ (by omega) (by omega)) | exact quiet1 (spec_l03Cosine_c _ (by omega) (by omega))) | (go_at_call 197; first | exact quiet0 (spec_l00Floor_c _ (by omega) (by omega) (by omega)) | exact quiet1 (spec_l00Floor_c _ (by omega) (by omega) (by omega))) | (go_at_call 196; first | exact quiet0 (spec_l00Min_v _) | exact quiet1 (spec_l00Min_v _)) | (go_at_call 145; first | exact quiet0 (spec_l00Max_v _) | exact quiet1 (spec_l00Max_v _))); try go_wp2_with (first | (go_at_call 195; (with_reducible refine (spec_l03Sine_c _).mono ?_); rintro e w' ⟨rfl, ⟨nd, rfl⟩⟩) | (go_at_call 188; (with_reducible refine (spec_l03Cosine_c _ (by omega) (by omega)).mono ?_); rintro e w' ⟨rfl, ⟨nd, rfl⟩⟩) | (go_at_call 197; (with_reducible refine (spec_l00Floor_c _ (by omega) (by omega) (by omega)).mono ?_); rintro e w' ⟨rfl, ⟨nd, rfl⟩⟩) | (go_at_call 196; (with_reducible refine (spec_l00Min_v _).mono ?_); rintro e w' ⟨rfl, ⟨nd, rfl⟩⟩) | (go_at_call 145; (with_reducible refine (spec_l00Max_v _).mono ?_); rintro e w' ⟨rfl, ⟨nd, rfl⟩⟩)))
  all_goals go_ret
  all_goals exact ⟨ret_int (by (try unfold mxD mnD); unfold cosD mx mn cosV; (repeat' split) <;> omega), by repeat (first | (with_reducible exact Below.refl _ _) | apply below_alloc | apply pw_below_drewN | apply below_drew | exact Below.refl _ _)⟩
theorem spec_GoreOf_c {g a b : Int} (w : World) : Calls Try.prog 90 #[.int .i64 g, .agg #[.int .i64 a, .int .i64 b]] w fun e w' => e = .returned (.tuple #[.int .i64 (RGoreOf g a b).1, .int .i64 (RGoreOf g a b).2]) ∧ Below w.heap.size w w' := by
  rcases dec (gOk g) with ⟨hg, bg⟩ | ⟨hg, bg⟩
  · rcases dec (sOk a b) with ⟨h1, b1⟩ | ⟨h1, b1⟩
    · have f := Aside0.mk (show RGoreOf g a b = (gore g b, 0) from if_pos ⟨hg, h1⟩)
      go_enter Try.func90, Try.ntmps90
      go_wp2_with (first | (go_at_call 123; (with_reducible refine (spec_l04Ok_c _ bg.out).mono ?_); rintro e w' ⟨rfl, ⟨nd, rfl⟩⟩) | (go_at_call 106; (with_reducible refine (spec_l02Ok_c b1.out _).mono ?_); rintro e w1 ⟨rfl, hb⟩; obtain ⟨hc, hf⟩ := bcell hb; have hz := hb.size; (try simp at hz); (try have hz1 := Nat.lt_of_succ_le hz); (try have hz2 := Nat.lt_of_succ_lt hz1)) | (go_at_call 125; (with_reducible refine (spec_l04Gore_c hg h1.2 _).mono ?_); rintro e w1 ⟨rfl, hb⟩; obtain ⟨hc, hf⟩ := bcell hb; have hz := hb.size; (try simp at hz); (try have hz1 := Nat.lt_of_succ_le hz); (try have hz2 := Nat.lt_of_succ_lt hz1)))
      go_ret2
      exact ⟨pair_eq f.out, by repeat (first | (with_reducible first | exact Below.refl _ _ | apply below_alloc | apply pw_below_drewN | apply below_drew1 | (refine below_step ?_ (by assumption))) | exact Below.refl _ _)⟩
    · have f := Aside0.mk (show RGoreOf g a b = (0, 1) from if_neg (fun e => h1 e.2))
      clear hg h1
      go_enter Try.func90, Try.ntmps90
      go_wp2_with (first | (go_at_call 123; (with_reducible refine (spec_l04Ok_c _ bg.out).mono ?_); rintro e w' ⟨rfl, ⟨nd, rfl⟩⟩) | (go_at_call 106; (with_reducible refine (spec_l02Ok_c b1.out _).mono ?_); rintro e w1 ⟨rfl, hb⟩; obtain ⟨hc, hf⟩ := bcell hb; have hz := hb.size; (try simp at hz); (try have hz1 := Nat.lt_of_succ_le hz); (try have hz2 := Nat.lt_of_succ_lt hz1)))
      go_ret2
      exact ⟨pair_eq f.out, by repeat (first | (with_reducible first | exact Below.refl _ _ | apply below_alloc | apply pw_below_drewN | apply below_drew1 | (refine below_step ?_ (by assumption))) | exact Below.refl _ _)⟩
  · have f := Aside0.mk (show RGoreOf g a b = (0, 1) from if_neg (fun e => hg e.1))
    clear hg
    go_enter Try.func90, Try.ntmps90
    go_wp2_with (first | (go_at_call 123; (with_reducible refine (spec_l04Ok_c _ bg.out).mono ?_); rintro e w' ⟨rfl, ⟨nd, rfl⟩⟩))
    go_ret2
    exact ⟨pair_eq f.out, by repeat (first | (with_reducible first | exact Below.refl _ _ | apply below_alloc | apply pw_below_drewN | apply below_drew1 | (refine below_step ?_ (by assumption))) | exact Below.refl _ _)⟩
theorem impl_GoreOf_c {g a b : Int} (w : World) : Calls Try.prog 89 #[.int .i64 g, .agg #[.int .i64 a, .int .i64 b]] w fun e w' => e = .returned (.tuple #[.int .i64 (RGoreOf g a b).1, .int .i64 (RGoreOf g a b).2]) ∧ Below w.heap.size w w' := by
  rcases dec (gOk g) with ⟨hg, bg⟩ | ⟨hg, bg⟩
  · rcases dec (sOk a b) with ⟨h1, b1⟩ | ⟨h1, b1⟩
    · have f := Aside0.mk (show RGoreOf g a b = (gore g b, 0) from if_pos ⟨hg, h1⟩)
      go_enter Try.func89, Try.ntmps89
      go_wp2_with (first | (go_at_call 100; (with_reducible refine (impl_ValidGores_c _ bg.out).mono ?_); rintro e w' ⟨rfl, ⟨nd, rfl⟩⟩) | (go_at_call 133; (with_reducible refine (impl_ValidSpot_c b1.out _).mono ?_); rintro e w1 ⟨rfl, hb⟩; obtain ⟨hc, hf⟩ := bcell hb; have hz := hb.size; (try simp at hz); (try have hz1 := Nat.lt_of_succ_le hz); (try have hz2 := Nat.lt_of_succ_lt hz1)) | (go_at_call 126; (with_reducible refine (impl_check_tt _).mono ?_); rintro e w' ⟨rfl, ⟨nd, rfl⟩⟩) | (go_at_call 126; (with_reducible refine (impl_check_tf _).mono ?_); rintro e w' ⟨rfl, ⟨nd, rfl⟩⟩) | (go_at_call 126; (with_reducible refine (impl_check_f _).mono ?_); rintro e w' ⟨rfl, ⟨nd, rfl⟩⟩) | (go_at_call 127; (with_reducible refine (impl_goreOf_c hg h1.2 _).mono ?_); rintro e w1 ⟨rfl, hb⟩; obtain ⟨hc, hf⟩ := bcell hb; have hz := hb.size; (try simp at hz); (try have hz1 := Nat.lt_of_succ_le hz); (try have hz2 := Nat.lt_of_succ_lt hz1)))
      go_ret2
      exact ⟨pair_eq f.out, by repeat (first | (with_reducible first | exact Below.refl _ _ | apply below_alloc | apply pw_below_drewN | apply below_drew1 | (refine below_step ?_ (by assumption))) | exact Below.refl _ _)⟩
    · have f := Aside0.mk (show RGoreOf g a b = (0, 1) from if_neg (fun e => h1 e.2))
      clear hg h1
      go_enter Try.func89, Try.ntmps89
      go_wp2_with (first | (go_at_call 100; (with_reducible refine (impl_ValidGores_c _ bg.out).mono ?_); rintro e w' ⟨rfl, ⟨nd, rfl⟩⟩) | (go_at_call 133; (with_reducible refine (impl_ValidSpot_c b1.out _).mono ?_); rintro e w1 ⟨rfl, hb⟩; obtain ⟨hc, hf⟩ := bcell hb; have hz := hb.size; (try simp at hz); (try have hz1 := Nat.lt_of_succ_le hz); (try have hz2 := Nat.lt_of_succ_lt hz1)) | (go_at_call 126; (with_reducible refine (impl_check_tt _).mono ?_); rintro e w' ⟨rfl, ⟨nd, rfl⟩⟩) | (go_at_call 126; (with_reducible refine (impl_check_tf _).mono ?_); rintro e w' ⟨rfl, ⟨nd, rfl⟩⟩) | (go_at_call 126; (with_reducible refine (impl_check_f _).mono ?_); rintro e w' ⟨rfl, ⟨nd, rfl⟩⟩))
      go_ret2
      exact ⟨pair_eq f.out, by repeat (first | (with_reducible first | exact Below.refl _ _ | apply below_alloc | apply pw_below_drewN | apply below_drew1 | (refine below_step ?_ (by assumption))) | exact Below.refl _ _)⟩
  · have f := Aside0.mk (show RGoreOf g a b = (0, 1) from if_neg (fun e => hg e.1))
    clear hg
    go_enter Try.func89, Try.ntmps89
    go_wp2_with (first | (go_at_call 100; (with_reducible refine (impl_ValidGores_c _ bg.out).mono ?_); rintro e w' ⟨rfl, ⟨nd, rfl⟩⟩) | (go_at_call 126; (with_reducible refine (impl_check_tt _).mono ?_); rintro e w' ⟨rfl, ⟨nd, rfl⟩⟩) | (go_at_call 126; (with_reducible refine (impl_check_tf _).mono ?_); rintro e w' ⟨rfl, ⟨nd, rfl⟩⟩) | (go_at_call 126; (with_reducible refine (impl_check_f _).mono ?_); rintro e w' ⟨rfl, ⟨nd, rfl⟩⟩))
    go_ret2
    exact ⟨pair_eq f.out, by repeat (first | (with_reducible first | exact Below.refl _ _ | apply below_alloc | apply pw_below_drewN | apply below_drew1 | (refine below_step ?_ (by assumption))) | exact Below.refl _ _)⟩
end Go.Proofs.Ytkfbbaaniglaeaa.Con
