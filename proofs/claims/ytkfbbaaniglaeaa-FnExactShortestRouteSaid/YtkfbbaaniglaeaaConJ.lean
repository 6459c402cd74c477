/- Contracts of the program's functions on distances. Conditions: as stated. -/
import Derived.Test.YtkfbbaaniglaeaaConF
namespace Go.Proofs.Ytkfbbaaniglaeaa.Con
open Go.RowKit Go.Proofs.YtkfbbaaniglaeaaW.PrintWords Go.Proofs.YtkfbbaaniglaeaaW.PrintLast Go.Proofs.YtkfbbaaniglaeaaW.PrintMore Go.Proofs.Ytkfbbaaniglaeaa.Mth
attribute [local go_sem] max2_int min2_int max_two min_two max_three min_three
set_option linter.unusedVariables false
set_option linter.unusedSimpArgs false
theorem spec_l00Max_n {a b : Int} (w : World) : Calls Try.prog 145 #[.int .i64 a, .int .i64 b] w fun e w' => e = .returned (.int .i64 (mx a b)) ∧ Drawn0 w w' := spec_l00Max_c w (by unfold mx; split <;> split <;> omega)
theorem impl_distance_c {a b c d : Int} (h1 : sOk a b) (h2 : sOk c d) (w : World) : Calls Try.prog 134 #[.agg #[.int .i64 a, .int .i64 b], .agg #[.int .i64 c, .int .i64 d]] w fun e w' => e = .returned (.int .i64 (dist a b c d)) ∧ Below w.heap.size w w' := by
  by_cases hac : a = c
  · subst hac
    by_cases hbd : b = d
    · subst hbd
      have f := Aside0.mk (show 0 = dist a b a b by unfold dist; rw [if_pos ⟨rfl, rfl⟩])
      go_enter Try.func134, Try.ntmps134
      go_wp2_with (first | (go_at_call 183; (with_reducible refine (impl_cosDistance_c h1 h2 _).mono ?_); rintro e w1 ⟨rfl, hb⟩; obtain ⟨hc, hf⟩ := bcell hb; have hz := hb.size; (try simp at hz); (try have hz1 := Nat.lt_of_succ_le hz); (try have hz2 := Nat.lt_of_succ_lt hz1)))
      go_ret
      exact ⟨ret_int f.out, by repeat (first | (with_reducible first | exact Below.refl _ _ | apply below_alloc | apply pw_below_drewN | apply below_drew1 | (refine below_step ?_ (by assumption))) | exact Below.refl _ _)⟩
    · have q1 : (b == d) = false := by simp [hbd]
      have dn : ¬ (a = a ∧ b = d) := fun e => hbd e.2
      obtain ⟨v0, v1⟩ := cosD_bd a b a d
      by_cases z : cosD a b a d < 0
      · obtain ⟨r0, r1⟩ := Ar_bd (s := -cosD a b a d) (by omega) (by omega)
        have f := Aside0.mk (show 324000 + Ar (-cosD a b a d) = dist a b a d by unfold dist; rw [if_neg dn, if_pos z])
        clear dn
        go_enter Try.func134, Try.ntmps134
        go_wp2_with (first | (go_at_call 183; (with_reducible refine (impl_cosDistance_c h1 h2 _).mono ?_); rintro e w1 ⟨rfl, hb⟩; obtain ⟨hc, hf⟩ := bcell hb; have hz := hb.size; (try simp at hz); (try have hz1 := Nat.lt_of_succ_le hz); (try have hz2 := Nat.lt_of_succ_lt hz1)) | (go_at_call 184; (with_reducible refine (impl_arc_c _ (by omega) (by omega)).mono ?_); rintro e w' ⟨rfl, ⟨nd, rfl⟩⟩))
        go_ret
        exact ⟨ret_int f.out, by repeat (first | (with_reducible first | exact Below.refl _ _ | apply below_alloc | apply pw_below_drewN | apply below_drew1 | (refine below_step ?_ (by assumption))) | exact Below.refl _ _)⟩
      · obtain ⟨r0, r1⟩ := Ar_bd (s := cosD a b a d) (by omega) (by omega)
        by_cases y : 1 < 324000 - Ar (cosD a b a d)
        · have f := Aside0.mk (show 324000 - Ar (cosD a b a d) = dist a b a d by unfold dist mx; rw [if_neg dn, if_neg z, if_pos y])
          have hm : mx 1 (324000 - Ar (cosD a b a d)) = 324000 - Ar (cosD a b a d) := if_pos y
          clear dn
          go_enter Try.func134, Try.ntmps134
          go_wp2_with (first | (go_at_call 183; (with_reducible refine (impl_cosDistance_c h1 h2 _).mono ?_); rintro e w1 ⟨rfl, hb⟩; obtain ⟨hc, hf⟩ := bcell hb; have hz := hb.size; (try simp at hz); (try have hz1 := Nat.lt_of_succ_le hz); (try have hz2 := Nat.lt_of_succ_lt hz1)) | (go_at_call 184; (with_reducible refine (impl_arc_c _ (by omega) (by omega)).mono ?_); rintro e w' ⟨rfl, ⟨nd, rfl⟩⟩))
          go_ret
          exact ⟨ret_int f.out, by repeat (first | (with_reducible first | exact Below.refl _ _ | apply below_alloc | apply pw_below_drewN | apply below_drew1 | (refine below_step ?_ (by assumption))) | exact Below.refl _ _)⟩
        · have f := Aside0.mk (show 1 = dist a b a d by unfold dist mx; rw [if_neg dn, if_neg z, if_neg y])
          have hm : mx 1 (324000 - Ar (cosD a b a d)) = 1 := if_neg y
          clear dn
          go_enter Try.func134, Try.ntmps134
          go_wp2_with (first | (go_at_call 183; (with_reducible refine (impl_cosDistance_c h1 h2 _).mono ?_); rintro e w1 ⟨rfl, hb⟩; obtain ⟨hc, hf⟩ := bcell hb; have hz := hb.size; (try simp at hz); (try have hz1 := Nat.lt_of_succ_le hz); (try have hz2 := Nat.lt_of_succ_lt hz1)) | (go_at_call 184; (with_reducible refine (impl_arc_c _ (by omega) (by omega)).mono ?_); rintro e w' ⟨rfl, ⟨nd, rfl⟩⟩))
          go_ret
          exact ⟨ret_int f.out, by repeat (first | (with_reducible first | exact Below.refl _ _ | apply below_alloc | apply pw_below_drewN | apply below_drew1 | (refine below_step ?_ (by assumption))) | exact Below.refl _ _)⟩
  · have q1 : (a == c) = false := by simp [hac]
    have dn : ¬ (a = c ∧ b = d) := fun e => hac e.1
    obtain ⟨v0, v1⟩ := cosD_bd a b c d
    by_cases z : cosD a b c d < 0
    · obtain ⟨r0, r1⟩ := Ar_bd (s := -cosD a b c d) (by omega) (by omega)
      have f := Aside0.mk (show 324000 + Ar (-cosD a b c d) = dist a b c d by unfold dist; rw [if_neg dn, if_pos z])
      clear dn
      go_enter Try.func134, Try.ntmps134
      go_wp2_with (first | (go_at_call 183; (with_reducible refine (impl_cosDistance_c h1 h2 _).mono ?_); rintro e w1 ⟨rfl, hb⟩; obtain ⟨hc, hf⟩ := bcell hb; have hz := hb.size; (try simp at hz); (try have hz1 := Nat.lt_of_succ_le hz); (try have hz2 := Nat.lt_of_succ_lt hz1)) | (go_at_call 184; (with_reducible refine (impl_arc_c _ (by omega) (by omega)).mono ?_); rintro e w' ⟨rfl, ⟨nd, rfl⟩⟩))
      go_ret
      exact ⟨ret_int f.out, by repeat (first | (with_reducible first | exact Below.refl _ _ | apply below_alloc | apply pw_below_drewN | apply below_drew1 | (refine below_step ?_ (by assumption))) | exact Below.refl _ _)⟩
    · obtain ⟨r0, r1⟩ := Ar_bd (s := cosD a b c d) (by omega) (by omega)
      by_cases y : 1 < 324000 - Ar (cosD a b c d)
      · have f := Aside0.mk (show 324000 - Ar (cosD a b c d) = dist a b c d by unfold dist mx; rw [if_neg dn, if_neg z, if_pos y])
        have hm : mx 1 (324000 - Ar (cosD a b c d)) = 324000 - Ar (cosD a b c d) := if_pos y
        clear dn
        go_enter Try.func134, Try.ntmps134
        go_wp2_with (first | (go_at_call 183; (with_reducible refine (impl_cosDistance_c h1 h2 _).mono ?_); rintro e w1 ⟨rfl, hb⟩; obtain ⟨hc, hf⟩ := bcell hb; have hz := hb.size; (try simp at hz); (try have hz1 := Nat.lt_of_succ_le hz); (try have hz2 := Nat.lt_of_succ_lt hz1)) | (go_at_call 184; (with_reducible refine (impl_arc_c _ (by omega) (by omega)).mono ?_); rintro e w' ⟨rfl, ⟨nd, rfl⟩⟩))
        go_ret
        exact ⟨ret_int f.out, by repeat (first | (with_reducible first | exact Below.refl _ _ | apply below_alloc | apply pw_below_drewN | apply below_drew1 | (refine below_step ?_ (by assumption))) | exact Below.refl _ _)⟩
      · have f := Aside0.mk (show 1 = dist a b c d by unfold dist mx; rw [if_neg dn, if_neg z, if_neg y])
        have hm : mx 1 (324000 - Ar (cosD a b c d)) = 1 := if_neg y
        clear dn
        go_enter Try.func134, Try.ntmps134
        go_wp2_with (first | (go_at_call 183; (with_reducible refine (impl_cosDistance_c h1 h2 _).mono ?_); rintro e w1 ⟨rfl, hb⟩; obtain ⟨hc, hf⟩ := bcell hb; have hz := hb.size; (try simp at hz); (try have hz1 := Nat.lt_of_succ_le hz); (try have hz2 := Nat.lt_of_succ_lt hz1)) | (go_at_call 184; (with_reducible refine (impl_arc_c _ (by omega) (by omega)).mono ?_); rintro e w' ⟨rfl, ⟨nd, rfl⟩⟩))
        go_ret
        exact ⟨ret_int f.out, by repeat (first | (with_reducible first | exact Below.refl _ _ | apply below_alloc | apply pw_below_drewN | apply below_drew1 | (refine below_step ?_ (by assumption))) | exact Below.refl _ _)⟩
theorem spec_l05Distance_c {a b c d : Int} (h1 : sOk a b) (h2 : sOk c d) (w : World) : Calls Try.prog 131 #[.agg #[.int .i64 a, .int .i64 b], .agg #[.int .i64 c, .int .i64 d]] w fun e w' => e = .returned (.int .i64 (dist a b c d)) ∧ Below w.heap.size w w' := by
  by_cases hac : a = c
  · subst hac
    by_cases hbd : b = d
    · subst hbd
      have f := Aside0.mk (show 0 = dist a b a b by unfold dist; rw [if_pos ⟨rfl, rfl⟩])
      go_enter Try.func131, Try.ntmps131
      go_wp2_with (first | (go_at_call 181; (with_reducible refine (spec_l05Cos_c h1 h2 _).mono ?_); rintro e w1 ⟨rfl, hb⟩; obtain ⟨hc, hf⟩ := bcell hb; have hz := hb.size; (try simp at hz); (try have hz1 := Nat.lt_of_succ_le hz); (try have hz2 := Nat.lt_of_succ_lt hz1)))
      go_ret
      exact ⟨ret_int f.out, by repeat (first | (with_reducible first | exact Below.refl _ _ | apply below_alloc | apply pw_below_drewN | apply below_drew1 | (refine below_step ?_ (by assumption))) | exact Below.refl _ _)⟩
    · have q1 : (b == d) = false := by simp [hbd]
      have dn : ¬ (a = a ∧ b = d) := fun e => hbd e.2
      obtain ⟨v0, v1⟩ := cosD_bd a b a d
      by_cases z : cosD a b a d < 0
      · obtain ⟨r0, r1⟩ := Ar_bd (s := -cosD a b a d) (by omega) (by omega)
        have f := Aside0.mk (show 324000 + Ar (-cosD a b a d) = dist a b a d by unfold dist; rw [if_neg dn, if_pos z])
        clear dn
        go_enter Try.func131, Try.ntmps131
        go_wp2_with (first | (go_at_call 181; (with_reducible refine (spec_l05Cos_c h1 h2 _).mono ?_); rintro e w1 ⟨rfl, hb⟩; obtain ⟨hc, hf⟩ := bcell hb; have hz := hb.size; (try simp at hz); (try have hz1 := Nat.lt_of_succ_le hz); (try have hz2 := Nat.lt_of_succ_lt hz1)) | (go_at_call 182; (with_reducible refine (spec_l03Arc_c _ (by omega) (by omega)).mono ?_); rintro e w' ⟨rfl, ⟨nd, rfl⟩⟩) | (go_at_call 145; (with_reducible refine (spec_l00Max_n _).mono ?_); rintro e w' ⟨rfl, ⟨nd, rfl⟩⟩))
        go_ret
        exact ⟨ret_int f.out, by repeat (first | (with_reducible first | exact Below.refl _ _ | apply below_alloc | apply pw_below_drewN | apply below_drew1 | (refine below_step ?_ (by assumption))) | exact Below.refl _ _)⟩
      · obtain ⟨r0, r1⟩ := Ar_bd (s := cosD a b a d) (by omega) (by omega)
        by_cases y : 1 < 324000 - Ar (cosD a b a d)
        · have f := Aside0.mk (show 324000 - Ar (cosD a b a d) = dist a b a d by unfold dist mx; rw [if_neg dn, if_neg z, if_pos y])
          have hm : mx 1 (324000 - Ar (cosD a b a d)) = 324000 - Ar (cosD a b a d) := if_pos y
          clear dn
          go_enter Try.func131, Try.ntmps131
          go_wp2_with (first | (go_at_call 181; (with_reducible refine (spec_l05Cos_c h1 h2 _).mono ?_); rintro e w1 ⟨rfl, hb⟩; obtain ⟨hc, hf⟩ := bcell hb; have hz := hb.size; (try simp at hz); (try have hz1 := Nat.lt_of_succ_le hz); (try have hz2 := Nat.lt_of_succ_lt hz1)) | (go_at_call 182; (with_reducible refine (spec_l03Arc_c _ (by omega) (by omega)).mono ?_); rintro e w' ⟨rfl, ⟨nd, rfl⟩⟩) | (go_at_call 145; (with_reducible refine (spec_l00Max_n _).mono ?_); rintro e w' ⟨rfl, ⟨nd, rfl⟩⟩))
          go_ret
          exact ⟨ret_int f.out, by repeat (first | (with_reducible first | exact Below.refl _ _ | apply below_alloc | apply pw_below_drewN | apply below_drew1 | (refine below_step ?_ (by assumption))) | exact Below.refl _ _)⟩
        · have f := Aside0.mk (show 1 = dist a b a d by unfold dist mx; rw [if_neg dn, if_neg z, if_neg y])
          have hm : mx 1 (324000 - Ar (cosD a b a d)) = 1 := if_neg y
          clear dn
          go_enter Try.func131, Try.ntmps131
          go_wp2_with (first | (go_at_call 181; (with_reducible refine (spec_l05Cos_c h1 h2 _).mono ?_); rintro e w1 ⟨rfl, hb⟩; obtain ⟨hc, hf⟩ := bcell hb; have hz := hb.size; (try simp at hz); (try have hz1 := Nat.lt_of_succ_le hz); (try have hz2 := Nat.lt_of_succ_lt hz1)) | (go_at_call 182; (with_reducible refine (spec_l03Arc_c _ (by omega) (by omega)).mono ?_); rintro e w' ⟨rfl, ⟨nd, rfl⟩⟩) | (go_at_call 145; (with_reducible refine (spec_l00Max_n _).mono ?_); rintro e w' ⟨rfl, ⟨nd, rfl⟩⟩))
          go_ret
          exact ⟨ret_int f.out, by repeat (first | (with_reducible first | exact Below.refl _ _ | apply below_alloc | apply pw_below_drewN | apply below_drew1 | (refine below_step ?_ (by assumption))) | exact Below.refl _ _)⟩
  · have q1 : (a == c) = false := by simp [hac]
    have dn : ¬ (a = c ∧ b = d) := fun e => hac e.1
    obtain ⟨v0, v1⟩ := cosD_bd a b c d
    by_cases z : cosD a b c d < 0
    · obtain ⟨r0, r1⟩ := Ar_bd (s := -cosD a b c d) (by omega) (by omega)
      have f := Aside0.mk (show 324000 + Ar (-cosD a b c d) = dist a b c d by unfold dist; rw [if_neg dn, if_pos z])
      clear dn
      go_enter Try.func131, Try.ntmps131
      go_wp2_with (first | (go_at_call 181; (with_reducible refine (spec_l05Cos_c h1 h2 _).mono ?_); rintro e w1 ⟨rfl, hb⟩; obtain ⟨hc, hf⟩ := bcell hb; have hz := hb.size; (try simp at hz); (try have hz1 := Nat.lt_of_succ_le hz); (try have hz2 := Nat.lt_of_succ_lt hz1)) | (go_at_call 182; (with_reducible refine (spec_l03Arc_c _ (by omega) (by omega)).mono ?_); rintro e w' ⟨rfl, ⟨nd, rfl⟩⟩) | (go_at_call 145; (with_reducible refine (spec_l00Max_n _).mono ?_); rintro e w' ⟨rfl, ⟨nd, rfl⟩⟩))
      go_ret
      exact ⟨ret_int f.out, by repeat (first | (with_reducible first | exact Below.refl _ _ | apply below_alloc | apply pw_below_drewN | apply below_drew1 | (refine below_step ?_ (by assumption))) | exact Below.refl _ _)⟩
    · obtain ⟨r0, r1⟩ := Ar_bd (s := cosD a b c d) (by omega) (by omega)
      by_cases y : 1 < 324000 - Ar (cosD a b c d)
      · have f := Aside0.mk (show 324000 - Ar (cosD a b c d) = dist a b c d by unfold dist mx; rw [if_neg dn, if_neg z, if_pos y])
        have hm : mx 1 (324000 - Ar (cosD a b c d)) = 324000 - Ar (cosD a b c d) := if_pos y
        clear dn
        go_enter Try.func131, Try.ntmps131
        go_wp2_with (first | (go_at_call 181; (with_reducible refine (spec_l05Cos_c h1 h2 _).mono ?_); rintro e w1 ⟨rfl, hb⟩; obtain ⟨hc, hf⟩ := bcell hb; have hz := hb.size; (try simp at hz); (try have hz1 := Nat.lt_of_succ_le hz); (try have hz2 := Nat.lt_of_succ_lt hz1)) | (go_at_call 182; (with_reducible refine (spec_l03Arc_c _ (by omega) (by omega)).mono ?_); rintro e w' ⟨rfl, ⟨nd, rfl⟩⟩) | (go_at_call 145; (with_reducible refine (spec_l00Max_n _).mono ?_); rintro e w' ⟨rfl, ⟨nd, rfl⟩⟩))
        go_ret
        exact ⟨ret_int f.out, by repeat (first | (with_reducible first | exact Below.refl _ _ | apply below_alloc | apply pw_below_drewN | apply below_drew1 | (refine below_step ?_ (by assumption))) | exact Below.refl _ _)⟩
      · have f := Aside0.mk (show 1 = dist a b c d by unfold dist mx; rw [if_neg dn, if_neg z, if_neg y])
        have hm : mx 1 (324000 - Ar (cosD a b c d)) = 1 := if_neg y
        clear dn
        go_enter Try.func131, Try.ntmps131
        go_wp2_with (first | (go_at_call 181; (with_reducible refine (spec_l05Cos_c h1 h2 _).mono ?_); rintro e w1 ⟨rfl, hb⟩; obtain ⟨hc, hf⟩ := bcell hb; have hz := hb.size; (try simp at hz); (try have hz1 := Nat.lt_of_succ_le hz); (try have hz2 := Nat.lt_of_succ_lt hz1)) | (go_at_call 182; (with_reducible refine (spec_l03Arc_c _ (by omega) (by omega)).mono ?_); rintro e w' ⟨rfl, ⟨nd, rfl⟩⟩) | (go_at_call 145; (with_reducible refine (spec_l00Max_n _).mono ?_); rintro e w' ⟨rfl, ⟨nd, rfl⟩⟩))
        go_ret
        exact ⟨ret_int f.out, by repeat (first | (with_reducible first | exact Below.refl _ _ | apply below_alloc | apply pw_below_drewN | apply below_drew1 | (refine below_step ?_ (by assumption))) | exact Below.refl _ _)⟩
theorem spec_DistanceOf_c {a b c d : Int} (w : World) : Calls Try.prog 35 #[.agg #[.int .i64 a, .int .i64 b], .agg #[.int .i64 c, .int .i64 d]] w fun e w' => e = .returned (.tuple #[.int .i64 (RDistanceOf a b c d).1, .int .i64 (RDistanceOf a b c d).2]) ∧ Below w.heap.size w w' := by
  rcases dec (sOk a b) with ⟨h1, b1⟩ | ⟨h1, b1⟩
  · rcases dec (sOk c d) with ⟨h2, b2⟩ | ⟨h2, b2⟩
    · have f := Aside0.mk (show RDistanceOf a b c d = (dist a b c d, 0) from if_pos ⟨h1, h2⟩)
      go_enter Try.func35, Try.ntmps35
      go_wp2_with (first | (go_at_call 106; (with_reducible refine (spec_l02Ok_c (by first | exact b1.out | exact b2.out) _).mono ?_); rintro e w1 ⟨rfl, hb⟩; obtain ⟨hc, hf⟩ := bcell hb; have hz := hb.size; (try simp at hz); (try have hz1 := Nat.lt_of_succ_le hz); (try have hz2 := Nat.lt_of_succ_lt hz1)) | (go_at_call 131; (with_reducible refine (spec_l05Distance_c h1 h2 _).mono ?_); rintro e w1 ⟨rfl, hb⟩; obtain ⟨hc, hf⟩ := bcell hb; have hz := hb.size; (try simp at hz); (try have hz1 := Nat.lt_of_succ_le hz); (try have hz2 := Nat.lt_of_succ_lt hz1)))
      go_ret2
      exact ⟨pair_eq f.out, by repeat (first | (with_reducible first | exact Below.refl _ _ | apply below_alloc | apply pw_below_drewN | apply below_drew1 | (refine below_step ?_ (by assumption))) | exact Below.refl _ _)⟩
    · have f := Aside0.mk (show RDistanceOf a b c d = (0, 1) from if_neg (fun e => h2 e.2))
      clear h1 h2
      go_enter Try.func35, Try.ntmps35
      go_wp2_with (first | (go_at_call 106; (with_reducible refine (spec_l02Ok_c (by first | exact b1.out | exact b2.out) _).mono ?_); rintro e w1 ⟨rfl, hb⟩; obtain ⟨hc, hf⟩ := bcell hb; have hz := hb.size; (try simp at hz); (try have hz1 := Nat.lt_of_succ_le hz); (try have hz2 := Nat.lt_of_succ_lt hz1)))
      go_ret2
      exact ⟨pair_eq f.out, by repeat (first | (with_reducible first | exact Below.refl _ _ | apply below_alloc | apply pw_below_drewN | apply below_drew1 | (refine below_step ?_ (by assumption))) | exact Below.refl _ _)⟩
  · have f := Aside0.mk (show RDistanceOf a b c d = (0, 1) from if_neg (fun e => h1 e.1))
    clear h1
    go_enter Try.func35, Try.ntmps35
    go_wp2_with (first | (go_at_call 106; (with_reducible refine (spec_l02Ok_c b1.out _).mono ?_); rintro e w1 ⟨rfl, hb⟩; obtain ⟨hc, hf⟩ := bcell hb; have hz := hb.size; (try simp at hz); (try have hz1 := Nat.lt_of_succ_le hz); (try have hz2 := Nat.lt_of_succ_lt hz1)))
    go_ret2
    exact ⟨pair_eq f.out, by repeat (first | (with_reducible first | exact Below.refl _ _ | apply below_alloc | apply pw_below_drewN | apply below_drew1 | (refine below_step ?_ (by assumption))) | exact Below.refl _ _)⟩
end Go.Proofs.Ytkfbbaaniglaeaa.Con
