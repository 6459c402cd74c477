/- Contracts of the program's functions on places. Conditions: as stated. -/
import Derived.Test.YtckbhiphmdpjnaaConB
import Derived.Test.YtckbhiphmdpjnaaConE
import Derived.Test.YtckbhiphmdpjnaaMdi
import Derived.IntWalk
import Derived.Deep.RegionHeld3
namespace Go.Proofs.Ytckbhiphmdpjnaa.Con
open Go.RowKit Go.Proofs.YtckbhiphmdpjnaaW.PrintWords Go.Proofs.YtckbhiphmdpjnaaW.PrintLast Go.Proofs.YtckbhiphmdpjnaaW.PrintMore Go.Proofs.Ytckbhiphmdpjnaa.Mth
attribute [local go_sem] max2_int min2_int max_two min_two max_three min_three
set_option linter.unusedVariables false
set_option linter.unusedSimpArgs false
theorem bcell {W w1 : World} (hb : Below W.heap.size W w1) : (∀ b o, b < W.heap.size → w1.cell? ⟨b, o, none⟩ = W.cell? ⟨b, o, none⟩) ∧ (∀ b o, b < W.heap.size → w1.frozen? ⟨b, o, none⟩ = W.frozen? ⟨b, o, none⟩) :=
  ⟨fun b o h => hb.cell (p := ⟨b, o, none⟩) h, fun b o h => hb.frozen (p := ⟨b, o, none⟩) h⟩
theorem quiet1 {P : Program} {f : FuncId} {args : Array Value} {w : World} {a n : Nat} {v : Value}
    (h : Calls P f args (w.drewN (a + n)) fun e w' => e = .returned v ∧ Drawn0 (w.drewN (a + n)) w') : Calls P f args (w.drewN (a + n)) fun e w'' => e = .returned v ∧ ∃ m, w'' = w.drewN (a + m) :=
  h.mono fun _ _ ⟨he, ⟨m, hm⟩⟩ => ⟨he, n + m, by rw [hm, World.drewN_drewN, Nat.add_assoc]⟩
theorem impl_ValidSpot_c {a b : Int} {r : Bool} (hr : decide (sOk a b) = r) (w : World) : Calls Try.prog 49 #[.agg #[.int .i64 a, .int .i64 b]] w fun e w' => e = .returned (.bool r) ∧ Below w.heap.size w w' := by
  rcases dec (-324000 ≤ a ∧ a ≤ 324000) with ⟨h, bh⟩ | ⟨h, bh⟩ <;> rcases dec (-648000 ≤ b ∧ b ≤ 647999) with ⟨k, bk⟩ | ⟨k, bk⟩
  · have f := Aside0.mk (show r = true by rw [← hr]; exact decide_eq_true ⟨h, k⟩)
    clear hr h k
    go_enter Try.func49, Try.ntmps49
    go_wp2_with (first | (go_at_call 59; (with_reducible refine (impl_within_d _ (by first | exact bh.out | exact bk.out)).mono ?_); rintro e w' ⟨rfl, ⟨nd, rfl⟩⟩))
    repeat (go_quiet (first | (go_at_call 59; first | exact quiet0 (impl_within_d _ (by first | exact bh.out | exact bk.out)) | exact quiet1 (impl_within_d _ (by first | exact bh.out | exact bk.out)))); try go_wp2_with (first | (go_at_call 59; (with_reducible refine (impl_within_d _ (by first | exact bh.out | exact bk.out)).mono ?_); rintro e w' ⟨rfl, ⟨nd, rfl⟩⟩)))
    go_ret
    exact ⟨by rw [f.out]; rfl, by repeat (first | (with_reducible exact Below.refl _ _) | apply below_alloc | apply pw_below_drewN | apply below_drew | exact Below.refl _ _)⟩
  all_goals
    have f := Aside0.mk (show r = false by rw [← hr]; exact decide_eq_false (fun e => by first | exact h e.1 | exact k e.2))
    clear hr h k
    go_enter Try.func49, Try.ntmps49
    go_wp2_with (first | (go_at_call 59; (with_reducible refine (impl_within_d _ (by first | exact bh.out | exact bk.out)).mono ?_); rintro e w' ⟨rfl, ⟨nd, rfl⟩⟩))
    repeat (go_quiet (first | (go_at_call 59; first | exact quiet0 (impl_within_d _ (by first | exact bh.out | exact bk.out)) | exact quiet1 (impl_within_d _ (by first | exact bh.out | exact bk.out)))); try go_wp2_with (first | (go_at_call 59; (with_reducible refine (impl_within_d _ (by first | exact bh.out | exact bk.out)).mono ?_); rintro e w' ⟨rfl, ⟨nd, rfl⟩⟩)))
    go_ret
    exact ⟨by rw [f.out]; rfl, by repeat (first | (with_reducible exact Below.refl _ _) | apply below_alloc | apply pw_below_drewN | apply below_drew | exact Below.refl _ _)⟩
theorem spec_l02Ok_c {a b : Int} {r : Bool} (hr : decide (sOk a b) = r) (w : World) : Calls Try.prog 45 #[.agg #[.int .i64 a, .int .i64 b]] w fun e w' => e = .returned (.bool r) ∧ Below w.heap.size w w' := by
  rcases dec (-324000 ≤ a ∧ a ≤ 324000) with ⟨h, bh⟩ | ⟨h, bh⟩ <;> rcases dec (-648000 ≤ b ∧ b ≤ 647999) with ⟨k, bk⟩ | ⟨k, bk⟩
  · have f := Aside0.mk (show r = true by rw [← hr]; exact decide_eq_true ⟨h, k⟩)
    clear hr h k
    go_enter Try.func45, Try.ntmps45
    go_wp2_with (first | (go_at_call 65; (with_reducible refine (spec_l00In_d _ (by first | exact bh.out | exact bk.out)).mono ?_); rintro e w' ⟨rfl, ⟨nd, rfl⟩⟩))
    repeat (go_quiet (first | (go_at_call 65; first | exact quiet0 (spec_l00In_d _ (by first | exact bh.out | exact bk.out)) | exact quiet1 (spec_l00In_d _ (by first | exact bh.out | exact bk.out)))); try go_wp2_with (first | (go_at_call 65; (with_reducible refine (spec_l00In_d _ (by first | exact bh.out | exact bk.out)).mono ?_); rintro e w' ⟨rfl, ⟨nd, rfl⟩⟩)))
    go_ret
    exact ⟨by rw [f.out]; rfl, by repeat (first | (with_reducible exact Below.refl _ _) | apply below_alloc | apply pw_below_drewN | apply below_drew | exact Below.refl _ _)⟩
  all_goals
    have f := Aside0.mk (show r = false by rw [← hr]; exact decide_eq_false (fun e => by first | exact h e.1 | exact k e.2))
    clear hr h k
    go_enter Try.func45, Try.ntmps45
    go_wp2_with (first | (go_at_call 65; (with_reducible refine (spec_l00In_d _ (by first | exact bh.out | exact bk.out)).mono ?_); rintro e w' ⟨rfl, ⟨nd, rfl⟩⟩))
    repeat (go_quiet (first | (go_at_call 65; first | exact quiet0 (spec_l00In_d _ (by first | exact bh.out | exact bk.out)) | exact quiet1 (spec_l00In_d _ (by first | exact bh.out | exact bk.out)))); try go_wp2_with (first | (go_at_call 65; (with_reducible refine (spec_l00In_d _ (by first | exact bh.out | exact bk.out)).mono ?_); rintro e w' ⟨rfl, ⟨nd, rfl⟩⟩)))
    go_ret
    exact ⟨by rw [f.out]; rfl, by repeat (first | (with_reducible exact Below.refl _ _) | apply below_alloc | apply pw_below_drewN | apply below_drew | exact Below.refl _ _)⟩
theorem laws_toSpot_c {a b : Int} (w : World) : Calls Try.prog 16 #[.agg #[.int .i64 a, .int .i64 b]] w fun e w' => e = .returned (.agg #[.int .i64 a, .int .i64 b]) ∧ Below w.heap.size w w' := by
  go_enter Try.func16, Try.ntmps16
  go_wp2
  exact bodyPost_ret (v := .agg #[.int .i64 a, .int .i64 b]) (by simp [results, Try.results16, go_sem]) rfl ⟨rfl, by repeat (first | (with_reducible exact Below.refl _ _) | apply below_alloc | apply pw_below_drewN | apply below_drew | exact Below.refl _ _)⟩
theorem impl_goreOf_c {g a b : Int} (hg : gOk g) (hb : -648000 ≤ b ∧ b ≤ 647999) (w : World) : Calls Try.prog 50 #[.int .i64 g, .agg #[.int .i64 a, .int .i64 b]] w fun e w' => e = .returned (.int .i64 (gore g b)) ∧ Below w.heap.size w w' := by
  obtain ⟨s0, s1, _⟩ := gOk_span hg
  have g0 : 6 ≤ g := hg.1.1
  have g1 : g ≤ 48 := hg.1.2
  have hz : (g == 0) = false := by simp; omega
  have hq : Int.tdiv 1296000 g = 1296000 / g := tdiv_nn (by decide)
  have hz2 : (1296000 / g == 0) = false := by simp; omega
  have c0 : 0 ≤ gore g b := Int.ediv_nonneg (by omega) (by omega)
  have c1 : gore g b ≤ 1296000 := Int.le_trans (Int.ediv_le_self _ (by omega)) (by omega)
  unfold gore at c0 c1
  have r0 : 0 ≤ b % 1296000 := by omega
  have r1 : b % 1296000 < 1296000 := by omega
  go_enter Try.func50, Try.ntmps50
  go_wp2_with (first | (go_at_call 79; (with_reducible refine (impl_around_c _).mono ?_); rintro e w' ⟨rfl, ⟨nd, rfl⟩⟩))
  repeat (go_quiet (first | (go_at_call 79; first | exact quiet0 (impl_around_c _) | exact quiet1 (impl_around_c _))); try go_wp2_with (first | (go_at_call 79; (with_reducible refine (impl_around_c _).mono ?_); rintro e w' ⟨rfl, ⟨nd, rfl⟩⟩)))
  go_ret
  exact ⟨rfl, by repeat (first | (with_reducible exact Below.refl _ _) | apply below_alloc | apply pw_below_drewN | apply below_drew | exact Below.refl _ _)⟩
theorem spec_l04Gore_c {g a b : Int} (hg : gOk g) (hb : -648000 ≤ b ∧ b ≤ 647999) (w : World) : Calls Try.prog 46 #[.int .i64 g, .agg #[.int .i64 a, .int .i64 b]] w fun e w' => e = .returned (.int .i64 (gore g b)) ∧ Below w.heap.size w w' := by
  obtain ⟨s0, s1, _⟩ := gOk_span hg
  have g0 : 6 ≤ g := hg.1.1
  have g1 : g ≤ 48 := hg.1.2
  have hz : (g == 0) = false := by simp; omega
  have hq : Int.tdiv 1296000 g = 1296000 / g := tdiv_nn (by decide)
  have hz2 : (1296000 / g == 0) = false := by simp; omega
  have c0 : 0 ≤ gore g b := Int.ediv_nonneg (by omega) (by omega)
  have c1 : gore g b ≤ 1296000 := Int.le_trans (Int.ediv_le_self _ (by omega)) (by omega)
  unfold gore at c0 c1
  by_cases z : b < 0
  · have e : b % 1296000 = b + 1296000 := by omega
    rw [e] at c0 c1
    have f := Aside0.mk (show gore g b = (b + 1296000) / (1296000 / g) by unfold gore; rw [e])
    clear e
    go_enter Try.func46, Try.ntmps46
    go_wp2_with (first | (fail))
    repeat (go_quiet (first | (fail)); try go_wp2_with (first | (fail)))
    go_ret
    exact ⟨ret_int f.out.symm, by repeat (first | (with_reducible exact Below.refl _ _) | apply below_alloc | apply pw_below_drewN | apply below_drew | exact Below.refl _ _)⟩
  · have e : b % 1296000 = b := by omega
    rw [e] at c0 c1
    have f := Aside0.mk (show gore g b = b / (1296000 / g) by unfold gore; rw [e])
    clear e
    go_enter Try.func46, Try.ntmps46
    go_wp2_with (first | (fail))
    repeat (go_quiet (first | (fail)); try go_wp2_with (first | (fail)))
    go_ret
    exact ⟨ret_int f.out.symm, by repeat (first | (with_reducible exact Below.refl _ _) | apply below_alloc | apply pw_below_drewN | apply below_drew | exact Below.refl _ _)⟩
theorem spec_GoreOf_c {g a b : Int} (w : World) : Calls Try.prog 15 #[.int .i64 g, .agg #[.int .i64 a, .int .i64 b]] w fun e w' => e = .returned (.tuple #[.int .i64 (RGoreOf g a b).1, .int .i64 (RGoreOf g a b).2]) ∧ Below w.heap.size w w' := by
  rcases dec (gOk g) with ⟨hg, bg⟩ | ⟨hg, bg⟩
  · rcases dec (sOk a b) with ⟨h1, b1⟩ | ⟨h1, b1⟩
    · have f := Aside0.mk (show RGoreOf g a b = (gore g b, 0) from if_pos ⟨hg, h1⟩)
      go_enter Try.func15, Try.ntmps15
      go_wp2_with (first | (go_at_call 44; (with_reducible refine (spec_l04Ok_c _ bg.out).mono ?_); rintro e w' ⟨rfl, ⟨nd, rfl⟩⟩) | (go_at_call 45; (with_reducible refine (spec_l02Ok_c b1.out _).mono ?_); rintro e w1 ⟨rfl, hb⟩; obtain ⟨hc, hf⟩ := bcell hb; have hz := hb.size; (try simp at hz); (try have hz1 := Nat.lt_of_succ_le hz); (try have hz2 := Nat.lt_of_succ_lt hz1)) | (go_at_call 46; (with_reducible refine (spec_l04Gore_c hg h1.2 _).mono ?_); rintro e w1 ⟨rfl, hb⟩; obtain ⟨hc, hf⟩ := bcell hb; have hz := hb.size; (try simp at hz); (try have hz1 := Nat.lt_of_succ_le hz); (try have hz2 := Nat.lt_of_succ_lt hz1)))
      go_ret2
      exact ⟨pair_eq f.out, by repeat (first | (with_reducible first | exact Below.refl _ _ | apply below_alloc | apply pw_below_drewN | apply below_drew1 | (refine below_step ?_ (by assumption))) | exact Below.refl _ _)⟩
    · have f := Aside0.mk (show RGoreOf g a b = (0, 1) from if_neg (fun e => h1 e.2))
      clear hg h1
      go_enter Try.func15, Try.ntmps15
      go_wp2_with (first | (go_at_call 44; (with_reducible refine (spec_l04Ok_c _ bg.out).mono ?_); rintro e w' ⟨rfl, ⟨nd, rfl⟩⟩) | (go_at_call 45; (with_reducible refine (spec_l02Ok_c b1.out _).mono ?_); rintro e w1 ⟨rfl, hb⟩; obtain ⟨hc, hf⟩ := bcell hb; have hz := hb.size; (try simp at hz); (try have hz1 := Nat.lt_of_succ_le hz); (try have hz2 := Nat.lt_of_succ_lt hz1)))
      go_ret2
      exact ⟨pair_eq f.out, by repeat (first | (with_reducible first | exact Below.refl _ _ | apply below_alloc | apply pw_below_drewN | apply below_drew1 | (refine below_step ?_ (by assumption))) | exact Below.refl _ _)⟩
  · have f := Aside0.mk (show RGoreOf g a b = (0, 1) from if_neg (fun e => hg e.1))
    clear hg
    go_enter Try.func15, Try.ntmps15
    go_wp2_with (first | (go_at_call 44; (with_reducible refine (spec_l04Ok_c _ bg.out).mono ?_); rintro e w' ⟨rfl, ⟨nd, rfl⟩⟩))
    go_ret2
    exact ⟨pair_eq f.out, by repeat (first | (with_reducible first | exact Below.refl _ _ | apply below_alloc | apply pw_below_drewN | apply below_drew1 | (refine below_step ?_ (by assumption))) | exact Below.refl _ _)⟩
theorem impl_GoreOf_c {g a b : Int} (w : World) : Calls Try.prog 17 #[.int .i64 g, .agg #[.int .i64 a, .int .i64 b]] w fun e w' => e = .returned (.tuple #[.int .i64 (RGoreOf g a b).1, .int .i64 (RGoreOf g a b).2]) ∧ Below w.heap.size w w' := by
  rcases dec (gOk g) with ⟨hg, bg⟩ | ⟨hg, bg⟩
  · rcases dec (sOk a b) with ⟨h1, b1⟩ | ⟨h1, b1⟩
    · have f := Aside0.mk (show RGoreOf g a b = (gore g b, 0) from if_pos ⟨hg, h1⟩)
      go_enter Try.func17, Try.ntmps17
      go_wp2_with (first | (go_at_call 48; (with_reducible refine (impl_ValidGores_c _ bg.out).mono ?_); rintro e w' ⟨rfl, ⟨nd, rfl⟩⟩) | (go_at_call 49; (with_reducible refine (impl_ValidSpot_c b1.out _).mono ?_); rintro e w1 ⟨rfl, hb⟩; obtain ⟨hc, hf⟩ := bcell hb; have hz := hb.size; (try simp at hz); (try have hz1 := Nat.lt_of_succ_le hz); (try have hz2 := Nat.lt_of_succ_lt hz1)) | (go_at_call 47; (with_reducible refine (impl_check_tt _).mono ?_); rintro e w' ⟨rfl, ⟨nd, rfl⟩⟩) | (go_at_call 47; (with_reducible refine (impl_check_tf _).mono ?_); rintro e w' ⟨rfl, ⟨nd, rfl⟩⟩) | (go_at_call 47; (with_reducible refine (impl_check_f _).mono ?_); rintro e w' ⟨rfl, ⟨nd, rfl⟩⟩) | (go_at_call 50; (with_reducible refine (impl_goreOf_c hg h1.2 _).mono ?_); rintro e w1 ⟨rfl, hb⟩; obtain ⟨hc, hf⟩ := bcell hb; have hz := hb.size; (try simp at hz); (try have hz1 := Nat.lt_of_succ_le hz); (try have hz2 := Nat.lt_of_succ_lt hz1)))
      go_ret2
      exact ⟨pair_eq f.out, by repeat (first | (with_reducible first | exact Below.refl _ _ | apply below_alloc | apply pw_below_drewN | apply below_drew1 | (refine below_step ?_ (by assumption))) | exact Below.refl _ _)⟩
    · have f := Aside0.mk (show RGoreOf g a b = (0, 1) from if_neg (fun e => h1 e.2))
      clear hg h1
      go_enter Try.func17, Try.ntmps17
      go_wp2_with (first | (go_at_call 48; (with_reducible refine (impl_ValidGores_c _ bg.out).mono ?_); rintro e w' ⟨rfl, ⟨nd, rfl⟩⟩) | (go_at_call 49; (with_reducible refine (impl_ValidSpot_c b1.out _).mono ?_); rintro e w1 ⟨rfl, hb⟩; obtain ⟨hc, hf⟩ := bcell hb; have hz := hb.size; (try simp at hz); (try have hz1 := Nat.lt_of_succ_le hz); (try have hz2 := Nat.lt_of_succ_lt hz1)) | (go_at_call 47; (with_reducible refine (impl_check_tt _).mono ?_); rintro e w' ⟨rfl, ⟨nd, rfl⟩⟩) | (go_at_call 47; (with_reducible refine (impl_check_tf _).mono ?_); rintro e w' ⟨rfl, ⟨nd, rfl⟩⟩) | (go_at_call 47; (with_reducible refine (impl_check_f _).mono ?_); rintro e w' ⟨rfl, ⟨nd, rfl⟩⟩))
      go_ret2
      exact ⟨pair_eq f.out, by repeat (first | (with_reducible first | exact Below.refl _ _ | apply below_alloc | apply pw_below_drewN | apply below_drew1 | (refine below_step ?_ (by assumption))) | exact Below.refl _ _)⟩
  · have f := Aside0.mk (show RGoreOf g a b = (0, 1) from if_neg (fun e => hg e.1))
    clear hg
    go_enter Try.func17, Try.ntmps17
    go_wp2_with (first | (go_at_call 48; (with_reducible refine (impl_ValidGores_c _ bg.out).mono ?_); rintro e w' ⟨rfl, ⟨nd, rfl⟩⟩) | (go_at_call 47; (with_reducible refine (impl_check_tt _).mono ?_); rintro e w' ⟨rfl, ⟨nd, rfl⟩⟩) | (go_at_call 47; (with_reducible refine (impl_check_tf _).mono ?_); rintro e w' ⟨rfl, ⟨nd, rfl⟩⟩) | (go_at_call 47; (with_reducible refine (impl_check_f _).mono ?_); rintro e w' ⟨rfl, ⟨nd, rfl⟩⟩))
    go_ret2
    exact ⟨pair_eq f.out, by repeat (first | (with_reducible first | exact Below.refl _ _ | apply below_alloc | apply pw_below_drewN | apply below_drew1 | (refine below_step ?_ (by assumption))) | exact Below.refl _ _)⟩
theorem FnExactGoreOf_c (g a b : Int) (w : World) (_ : (Lit.int .i64 g).wf = true) (_ : (Lit.int .i64 a).wf = true) (_ : (Lit.int .i64 b).wf = true) : Calls Try.prog 3 #[.int .i64 g, .agg #[.int .i64 a, .int .i64 b]] w fun e w' => e = .returned (.bool true) ∧ Below w.heap.size w w' := by
  go_enter Try.func3, Try.ntmps3
  go_wp2_with (first | (go_at_call 16; (with_reducible refine (laws_toSpot_c _).mono ?_); rintro e w1 ⟨rfl, hb⟩; obtain ⟨hc, hf⟩ := bcell hb; have hz := hb.size; (try simp at hz); (try have hz1 := Nat.lt_of_succ_le hz); (try have hz2 := Nat.lt_of_succ_lt hz1)) | (go_at_call 15; (with_reducible refine (spec_GoreOf_c _).mono ?_); rintro e w1 ⟨rfl, hb⟩; obtain ⟨hc, hf⟩ := bcell hb; have hz := hb.size; (try simp at hz); (try have hz1 := Nat.lt_of_succ_le hz); (try have hz2 := Nat.lt_of_succ_lt hz1)) | (go_at_call 17; (with_reducible refine (impl_GoreOf_c _).mono ?_); rintro e w1 ⟨rfl, hb⟩; obtain ⟨hc, hf⟩ := bcell hb; have hz := hb.size; (try simp at hz); (try have hz1 := Nat.lt_of_succ_le hz); (try have hz2 := Nat.lt_of_succ_lt hz1)))
  go_ret
  exact ⟨rfl, by repeat (first | (with_reducible first | exact Below.refl _ _ | apply below_alloc | apply pw_below_drewN | apply below_drew1 | (refine below_step ?_ (by assumption))) | exact Below.refl _ _)⟩
end Go.Proofs.Ytckbhiphmdpjnaa.Con
