/- What the statement rests on, part 3: of the texts that this work built, what the statement uses. Conditions: as stated at each. -/
import Derived.Test.YtkfbbaaniglaeaaZ2
import Derived.Below
import Derived.Deep.Draws
import Derived.Deep.AppendLies
import Derived.Maps.AppendAt
import Derived.OwnWalk
import Derived.Laws.BytesArg
import Derived.Laws.MakeOwn
import Derived.Laws.OwnMore
import Derived.Deep.OwnRows
import Derived.Tactics
import Derived.Lib.ConvBytes
import Derived.Laws.Slices
import Derived.WalkKit
import Derived.KernelRfl
import Derived.RowKit3
import Derived.Deep.LoopGhost
import Derived.Deep.QuietTactic
import Derived.BigQuiet
import Derived.WideLaws
import Derived.Deep.DeepCutAuto
import Derived.Deep.CutBlock
import Derived.Deep.RegionHeld3
import Derived.Laws.Rows
import Derived.Lib.AppendStr
import Derived.ArgAppend
import Derived.Laws.IdiomCopy
import Derived.RowKit
import Derived.OrdersHeld
import Derived.Laws.BitsLemmas
import Derived.Laws.StructEq
import Derived.OpenShut
import Derived.Test.YtkfbbaaniglaeaaProg
import Derived.WalkSpells
import Derived.Outline
import Derived.Laws.Bits64b
import Derived.IntWalk
import Derived.LoopTactic
section
namespace Go.Proofs.Ytkfbbaaniglaeaa.Con
open Go.RowKit Go.Proofs.YtkfbbaaniglaeaaW.PrintWords Go.Proofs.YtkfbbaaniglaeaaW.PrintLast Go.Proofs.YtkfbbaaniglaeaaW.PrintMore Go.Proofs.Ytkfbbaaniglaeaa.Mth
attribute [local go_sem] max2_int min2_int max_two min_two max_three min_three
set_option linter.unusedVariables false
set_option linter.unusedSimpArgs false
theorem spec_l00Max_n {a b : Int} (w : World) : Calls Try.prog 145 #[.int .i64 a, .int .i64 b] w fun e w' => e = .returned (.int .i64 (mx a b)) ∧ Drawn0 w w' := spec_l00Max_c w (by unfold mx; split <;> split <;> omega)
theorem impl_distance_c {a b c d : Int} (h1 : sOk a b) (h2 : sOk c d) (w : World) : Calls Try.prog 134 #[.agg #[.int .i64 a, .int .i64 b], .agg #[.int .i64 c, .int .i64 d]] w fun e w' => e = .returned (.int .i64 (dist a b c d)) ∧ Below w.heap.size w w' := by
  by_cases hac : a = c
  · subst hac
    by_cases hbd : b = d
    · subst hbd
      have f := Aside0.mk (show 0 = dist a b a b by unfold dist; rw [if_pos ⟨rfl, rfl⟩])
      go_enter Try.func134, Try.ntmps134
      go_wp2_with (first | (go_at_call 183; (with_reducible refine (impl_cosDistance_c h1 h2 _).mono ?_); rintro e w1 ⟨rfl, hb⟩; obtain ⟨hc, hf⟩ := bcell hb; have hz := hb.size; (try simp at hz); (try have hz1 := Nat.lt_of_succ_le hz); (try have hz2 := Nat.lt_of_succ_lt hz1)))
      go_ret
      exact ⟨ret_int f.out, by repeat (first | (with_reducible first | exact Below.refl _ _ | apply below_alloc | apply pw_below_drewN | apply below_drew1 | (refine below_step ?_ (by assumption))) | exact Below.refl _ _)⟩
    · have q1 : (b == d) = false := by simp [hbd]
      have dn : ¬ (a = a ∧ b = d) := fun e => hbd e.2
      obtain ⟨v0, v1⟩ := cosD_bd a b a d
      by_cases z : cosD a b a d < 0
      · obtain ⟨r0, r1⟩ := Ar_bd (s := -cosD a b a d) (by omega) (by omega)
        have f := Aside0.mk (show 324000 + Ar (-cosD a b a d) = dist a b a d by unfold dist; rw [if_neg dn, if_pos z])
        clear dn
        go_enter Try.func134, Try.ntmps134
        go_wp2_with (first | (go_at_call 183; (with_reducible refine (impl_cosDistance_c h1 h2 _).mono ?_); rintro e w1 ⟨rfl, hb⟩; obtain ⟨hc, hf⟩ := bcell hb; have hz := hb.size; (try simp at hz); (try have hz1 := Nat.lt_of_succ_le hz); (try have hz2 := Nat.lt_of_succ_lt hz1)) | (go_at_call 184; (with_reducible refine (impl_arc_c _ (by omega) (by omega)).mono ?_); rintro e w' ⟨rfl, ⟨nd, rfl⟩⟩))
        go_ret
        exact ⟨ret_int f.out, by repeat (first | (with_reducible first | exact Below.refl _ _ | apply below_alloc | apply pw_below_drewN | apply below_drew1 | (refine below_step ?_ (by assumption))) | exact Below.refl _ _)⟩
      · obtain ⟨r0, r1⟩ := Ar_bd (s := cosD a b a d) (by omega) (by omega)
        by_cases y : 1 < 324000 - Ar (cosD a b a d)
        · have f := Aside0.mk (show 324000 - Ar (cosD a b a d) = dist a b a d by unfold dist mx; rw [if_neg dn, if_neg z, if_pos y])
          have hm : mx 1 (324000 - Ar (cosD a b a d)) = 324000 - Ar (cosD a b a d) := if_pos y
          clear dn
          go_enter Try.func134, Try.ntmps134
          go_wp2_with (first | (go_at_call 183; (with_reducible refine (impl_cosDistance_c h1 h2 _).mono ?_); rintro e w1 ⟨rfl, hb⟩; obtain ⟨hc, hf⟩ := bcell hb; have hz := hb.size; (try simp at hz); (try have hz1 := Nat.lt_of_succ_le hz); (try have hz2 := Nat.lt_of_succ_lt hz1)) | (go_at_call 184; (with_reducible refine (impl_arc_c _ (by omega) (by omega)).mono ?_); rintro e w' ⟨rfl, ⟨nd, rfl⟩⟩))
          go_ret
          exact ⟨ret_int f.out, by repeat (first | (with_reducible first | exact Below.refl _ _ | apply below_alloc | apply pw_below_drewN | apply below_drew1 | (refine below_step ?_ (by assumption))) | exact Below.refl _ _)⟩
        · have f := Aside0.mk (show 1 = dist a b a d by unfold dist mx; rw [if_neg dn, if_neg z, if_neg y])
          have hm : mx 1 (324000 - Ar (cosD a b a d)) = 1 := if_neg y
          clear dn
          go_enter Try.func134, Try.ntmps134
          go_wp2_with (first | (go_at_call 183; (with_reducible refine (impl_cosDistance_c h1 h2 _).mono ?_); rintro e w1 ⟨rfl, hb⟩; obtain ⟨hc, hf⟩ := bcell hb; have hz := hb.size; (try simp at hz); (try have hz1 := Nat.lt_of_succ_le hz); (try have hz2 := Nat.lt_of_succ_lt hz1)) | (go_at_call 184; (with_reducible refine (impl_arc_c _ (by omega) (by omega)).mono ?_); rintro e w' ⟨rfl, ⟨nd, rfl⟩⟩))
          go_ret
          exact ⟨ret_int f.out, by repeat (first | (with_reducible first | exact Below.refl _ _ | apply below_alloc | apply pw_below_drewN | apply below_drew1 | (refine below_step ?_ (by assumption))) | exact Below.refl _ _)⟩
  · have q1 : (a == c) = false := by simp [hac]
    have dn : ¬ (a = c ∧ b = d) := fun e => hac e.1
    obtain ⟨v0, v1⟩ := cosD_bd a b c d
    by_cases z : cosD a b c d < 0
    · obtain ⟨r0, r1⟩ := Ar_bd (s := -cosD a b c d) (by omega) (by omega)
      have f := Aside0.mk (show 324000 + Ar (-cosD a b c d) = dist a b c d by unfold dist; rw [if_neg dn, if_pos z])
      clear dn
      go_enter Try.func134, Try.ntmps134
      go_wp2_with (first | (go_at_call 183; (with_reducible refine (impl_cosDistance_c h1 h2 _).mono ?_); rintro e w1 ⟨rfl, hb⟩; obtain ⟨hc, hf⟩ := bcell hb; have hz := hb.size; (try simp at hz); (try have hz1 := Nat.lt_of_succ_le hz); (try have hz2 := Nat.lt_of_succ_lt hz1)) | (go_at_call 184; (with_reducible refine (impl_arc_c _ (by omega) (by omega)).mono ?_); rintro e w' ⟨rfl, ⟨nd, rfl⟩⟩))
      go_ret
      exact ⟨ret_int f.out, by repeat (first | (with_reducible first | exact Below.refl _ _ | apply below_alloc | apply pw_below_drewN | apply below_drew1 | (refine below_step ?_ (by assumption))) | exact Below.refl _ _)⟩
    · obtain ⟨r0, r1⟩ := Ar_bd (s := cosD a b c d) (by omega) (by omega)
      by_cases y : 1 < 324000 - Ar (cosD a b c d)
      · have f := Aside0.mk (show 324000 - Ar (cosD a b c d) = dist a b c d by unfold dist mx; rw [if_neg dn, if_neg z, if_pos y])
        have hm : mx 1 (324000 - Ar (cosD a b c d)) = 324000 - Ar (cosD a b c d) := if_pos y
        clear dn
        go_enter Try.func134, Try.ntmps134
        go_wp2_with (first | (go_at_call 183; (with_reducible refine (impl_cosDistance_c h1 h2 _).mono ?_); rintro e w1 ⟨rfl, hb⟩; obtain ⟨hc, hf⟩ := bcell hb; have hz := hb.size; (try simp at hz); (try have hz1 := Nat.lt_of_succ_le hz); (try have hz2 := Nat.lt_of_succ_lt hz1)) | (go_at_call 184; (with_reducible refine (impl_arc_c _ (by omega) (by omega)).mono ?_); rintro e w' ⟨rfl, ⟨nd, rfl⟩⟩))
        go_ret
        exact ⟨ret_int f.out, by repeat (first | (with_reducible first | exact Below.refl _ _ | apply below_alloc | apply pw_below_drewN | apply below_drew1 | (refine below_step ?_ (by assumption))) | exact Below.refl _ _)⟩
      · have f := Aside0.mk (show 1 = dist a b c d by unfold dist mx; rw [if_neg dn, if_neg z, if_neg y])
        have hm : mx 1 (324000 - Ar (cosD a b c d)) = 1 := if_neg y
        clear dn
        go_enter Try.func134, Try.ntmps134
        go_wp2_with (first | (go_at_call 183; (with_reducible refine (impl_cosDistance_c h1 h2 _).mono ?_); rintro e w1 ⟨rfl, hb⟩; obtain ⟨hc, hf⟩ := bcell hb; have hz := hb.size; (try simp at hz); (try have hz1 := Nat.lt_of_succ_le hz); (try have hz2 := Nat.lt_of_succ_lt hz1)) | (go_at_call 184; (with_reducible refine (impl_arc_c _ (by omega) (by omega)).mono ?_); rintro e w' ⟨rfl, ⟨nd, rfl⟩⟩))
        go_ret
        exact ⟨ret_int f.out, by repeat (first | (with_reducible first | exact Below.refl _ _ | apply below_alloc | apply pw_below_drewN | apply below_drew1 | (refine below_step ?_ (by assumption))) | exact Below.refl _ _)⟩
theorem spec_l05Distance_c {a b c d : Int} (h1 : sOk a b) (h2 : sOk c d) (w : World) : Calls Try.prog 131 #[.agg #[.int .i64 a, .int .i64 b], .agg #[.int .i64 c, .int .i64 d]] w fun e w' => e = .returned (.int .i64 (dist a b c d)) ∧ Below w.heap.size w w' := by
  by_cases hac : a = c
  · subst hac
    by_cases hbd : b = d
    · subst hbd
      have f := Aside0.mk (show 0 = dist a b a b by unfold dist; rw [if_pos ⟨rfl, rfl⟩])
      go_enter Try.func131, Try.ntmps131
      go_wp2_with (first | (go_at_call 181; (with_reducible refine (spec_l05Cos_c h1 h2 _).mono ?_); rintro e w1 ⟨rfl, hb⟩; obtain ⟨hc, hf⟩ := bcell hb; have hz := hb.size; (try simp at hz); (try have hz1 := Nat.lt_of_succ_le hz); (try have hz2 := Nat.lt_of_succ_lt hz1)))
      go_ret
      exact ⟨ret_int f.out, by repeat (first | (with_reducible first | exact Below.refl _ _ | apply below_alloc | apply pw_below_drewN | apply below_drew1 | (refine below_step ?_ (by assumption))) | exact Below.refl _ _)⟩
    · have q1 : (b == d) = false := by simp [hbd]
      have dn : ¬ (a = a ∧ b = d) := fun e => hbd e.2
      obtain ⟨v0, v1⟩ := cosD_bd a b a d
      by_cases z : cosD a b a d < 0
      · obtain ⟨r0, r1⟩ := Ar_bd (s := -cosD a b a d) (by omega) (by omega)
        have f := Aside0.mk (show 324000 + Ar (-cosD a b a d) = dist a b a d by unfold dist; rw [if_neg dn, if_pos z])
        clear dn
        go_enter Try.func131, Try.ntmps131
        go_wp2_with (first | (go_at_call 181; (with_reducible refine (spec_l05Cos_c h1 h2 _).mono ?_); rintro e w1 ⟨rfl, hb⟩; obtain ⟨hc, hf⟩ := bcell hb; have hz := hb.size; (try simp at hz); (try have hz1 := Nat.lt_of_succ_le hz); (try have hz2 := Nat.lt_of_succ_lt hz1)) | (go_at_call 182; (with_reducible refine (spec_l03Arc_c _ (by omega) (by omega)).mono ?_); rintro e w' ⟨rfl, ⟨nd, rfl⟩⟩) | (go_at_call 145; (with_reducible refine (spec_l00Max_n _).mono ?_); rintro e w' ⟨rfl, ⟨nd, rfl⟩⟩))
        go_ret
        exact ⟨ret_int f.out, by repeat (first | (with_reducible first | exact Below.refl _ _ | apply below_alloc | apply pw_below_drewN | apply below_drew1 | (refine below_step ?_ (by assumption))) | exact Below.refl _ _)⟩
      · obtain ⟨r0, r1⟩ := Ar_bd (s := cosD a b a d) (by omega) (by omega)
        by_cases y : 1 < 324000 - Ar (cosD a b a d)
        · have f := Aside0.mk (show 324000 - Ar (cosD a b a d) = dist a b a d by unfold dist mx; rw [if_neg dn, if_neg z, if_pos y])
          have hm : mx 1 (324000 - Ar (cosD a b a d)) = 324000 - Ar (cosD a b a d) := if_pos y
          clear dn
          go_enter Try.func131, Try.ntmps131
          go_wp2_with (first | (go_at_call 181; (with_reducible refine (spec_l05Cos_c h1 h2 _).mono ?_); rintro e w1 ⟨rfl, hb⟩; obtain ⟨hc, hf⟩ := bcell hb; have hz := hb.size; (try simp at hz); (try have hz1 := Nat.lt_of_succ_le hz); (try have hz2 := Nat.lt_of_succ_lt hz1)) | (go_at_call 182; (with_reducible refine (spec_l03Arc_c _ (by omega) (by omega)).mono ?_); rintro e w' ⟨rfl, ⟨nd, rfl⟩⟩) | (go_at_call 145; (with_reducible refine (spec_l00Max_n _).mono ?_); rintro e w' ⟨rfl, ⟨nd, rfl⟩⟩))
          go_ret
          exact ⟨ret_int f.out, by repeat (first | (with_reducible first | exact Below.refl _ _ | apply below_alloc | apply pw_below_drewN | apply below_drew1 | (refine below_step ?_ (by assumption))) | exact Below.refl _ _)⟩
        · have f := Aside0.mk (show 1 = dist a b a d by unfold dist mx; rw [if_neg dn, if_neg z, if_neg y])
          have hm : mx 1 (324000 - Ar (cosD a b a d)) = 1 := if_neg y
          clear dn
          go_enter Try.func131, Try.ntmps131
          go_wp2_with (first | (go_at_call 181; (with_reducible refine (spec_l05Cos_c h1 h2 _).mono ?_); rintro e w1 ⟨rfl, hb⟩; obtain ⟨hc, hf⟩ := bcell hb; have hz := hb.size; (try simp at hz); (try have hz1 := Nat.lt_of_succ_le hz); (try have hz2 := Nat.lt_of_succ_lt hz1)) | (go_at_call 182; (with_reducible refine (spec_l03Arc_c _ (by omega) (by omega)).mono ?_); rintro e w' ⟨rfl, ⟨nd, rfl⟩⟩) | (go_at_call 145; (with_reducible refine (spec_l00Max_n _).mono ?_); rintro e w' ⟨rfl, ⟨nd, rfl⟩⟩))
          go_ret
          exact ⟨ret_int f.out, by repeat (first | (with_reducible first | exact Below.refl _ _ | apply below_alloc | apply pw_below_drewN | apply below_drew1 | (refine below_step ?_ (by assumption))) | exact Below.refl _ _)⟩
  · have q1 : (a == c) = false := by simp [hac]
    have dn : ¬ (a = c ∧ b = d) := fun e => hac e.1
    obtain ⟨v0, v1⟩ := cosD_bd a b c d
    by_cases z : cosD a b c d < 0
    · obtain ⟨r0, r1⟩ := Ar_bd (s := -cosD a b c d) (by omega) (by omega)
      have f := Aside0.mk (show 324000 + Ar (-cosD a b c d) = dist a b c d by unfold dist; rw [if_neg dn, if_pos z])
      clear dn
      go_enter Try.func131, Try.ntmps131
      go_wp2_with (first | (go_at_call 181; (with_reducible refine (spec_l05Cos_c h1 h2 _).mono ?_); rintro e w1 ⟨rfl, hb⟩; obtain ⟨hc, hf⟩ := bcell hb; have hz := hb.size; (try simp at hz); (try have hz1 := Nat.lt_of_succ_le hz); (try have hz2 := Nat.lt_of_succ_lt hz1)) | (go_at_call 182; (with_reducible refine (spec_l03Arc_c _ (by omega) (by omega)).mono ?_); rintro e w' ⟨rfl, ⟨nd, rfl⟩⟩) | (go_at_call 145; (with_reducible refine (spec_l00Max_n _).mono ?_); rintro e w' ⟨rfl, ⟨nd, rfl⟩⟩))
      go_ret
      exact ⟨ret_int f.out, by repeat (first | (with_reducible first | exact Below.refl _ _ | apply below_alloc | apply pw_below_drewN | apply below_drew1 | (refine below_step ?_ (by assumption))) | exact Below.refl _ _)⟩
    · obtain ⟨r0, r1⟩ := Ar_bd (s := cosD a b c d) (by omega) (by omega)
      by_cases y : 1 < 324000 - Ar (cosD a b c d)
      · have f := Aside0.mk (show 324000 - Ar (cosD a b c d) = dist a b c d by unfold dist mx; rw [if_neg dn, if_neg z, if_pos y])
        have hm : mx 1 (324000 - Ar (cosD a b c d)) = 324000 - Ar (cosD a b c d) := if_pos y
        clear dn
        go_enter Try.func131, Try.ntmps131
        go_wp2_with (first | (go_at_call 181; (with_reducible refine (spec_l05Cos_c h1 h2 _).mono ?_); rintro e w1 ⟨rfl, hb⟩; obtain ⟨hc, hf⟩ := bcell hb; have hz := hb.size; (try simp at hz); (try have hz1 := Nat.lt_of_succ_le hz); (try have hz2 := Nat.lt_of_succ_lt hz1)) | (go_at_call 182; (with_reducible refine (spec_l03Arc_c _ (by omega) (by omega)).mono ?_); rintro e w' ⟨rfl, ⟨nd, rfl⟩⟩) | (go_at_call 145; (with_reducible refine (spec_l00Max_n _).mono ?_); rintro e w' ⟨rfl, ⟨nd, rfl⟩⟩))
        go_ret
        exact ⟨ret_int f.out, by repeat (first | (with_reducible first | exact Below.refl _ _ | apply below_alloc | apply pw_below_drewN | apply below_drew1 | (refine below_step ?_ (by assumption))) | exact Below.refl _ _)⟩
      · have f := Aside0.mk (show 1 = dist a b c d by unfold dist mx; rw [if_neg dn, if_neg z, if_neg y])
        have hm : mx 1 (324000 - Ar (cosD a b c d)) = 1 := if_neg y
        clear dn
        go_enter Try.func131, Try.ntmps131
        go_wp2_with (first | (go_at_call 181; (with_reducible refine (spec_l05Cos_c h1 h2 _).mono ?_); rintro e w1 ⟨rfl, hb⟩; obtain ⟨hc, hf⟩ := bcell hb; have hz := hb.size; (try simp at hz); (try have hz1 := Nat.lt_of_succ_le hz); (try have hz2 := Nat.lt_of_succ_lt hz1)) | (go_at_call 182; (with_reducible refine (spec_l03Arc_c _ (by omega) (by omega)).mono ?_); rintro e w' ⟨rfl, ⟨nd, rfl⟩⟩) | (go_at_call 145; (with_reducible refine (spec_l00Max_n _).mono ?_); rintro e w' ⟨rfl, ⟨nd, rfl⟩⟩))
        go_ret
        exact ⟨ret_int f.out, by repeat (first | (with_reducible first | exact Below.refl _ _ | apply below_alloc | apply pw_below_drewN | apply below_drew1 | (refine below_step ?_ (by assumption))) | exact Below.refl _ _)⟩
theorem spec_DistanceOf_c {a b c d : Int} (w : World) : Calls Try.prog 35 #[.agg #[.int .i64 a, .int .i64 b], .agg #[.int .i64 c, .int .i64 d]] w fun e w' => e = .returned (.tuple #[.int .i64 (RDistanceOf a b c d).1, .int .i64 (RDistanceOf a b c d).2]) ∧ Below w.heap.size w w' := by
  rcases dec (sOk a b) with ⟨h1, b1⟩ | ⟨h1, b1⟩
  · rcases dec (sOk c d) with ⟨h2, b2⟩ | ⟨h2, b2⟩
    · have f := Aside0.mk (show RDistanceOf a b c d = (dist a b c d, 0) from if_pos ⟨h1, h2⟩)
      go_enter Try.func35, Try.ntmps35
      go_wp2_with (first | (go_at_call 106; (with_reducible refine (spec_l02Ok_c (by first | exact b1.out | exact b2.out) _).mono ?_); rintro e w1 ⟨rfl, hb⟩; obtain ⟨hc, hf⟩ := bcell hb; have hz := hb.size; (try simp at hz); (try have hz1 := Nat.lt_of_succ_le hz); (try have hz2 := Nat.lt_of_succ_lt hz1)) | (go_at_call 131; (with_reducible refine (spec_l05Distance_c h1 h2 _).mono ?_); rintro e w1 ⟨rfl, hb⟩; obtain ⟨hc, hf⟩ := bcell hb; have hz := hb.size; (try simp at hz); (try have hz1 := Nat.lt_of_succ_le hz); (try have hz2 := Nat.lt_of_succ_lt hz1)))
      go_ret2
      exact ⟨pair_eq f.out, by repeat (first | (with_reducible first | exact Below.refl _ _ | apply below_alloc | apply pw_below_drewN | apply below_drew1 | (refine below_step ?_ (by assumption))) | exact Below.refl _ _)⟩
    · have f := Aside0.mk (show RDistanceOf a b c d = (0, 1) from if_neg (fun e => h2 e.2))
      clear h1 h2
      go_enter Try.func35, Try.ntmps35
      go_wp2_with (first | (go_at_call 106; (with_reducible refine (spec_l02Ok_c (by first | exact b1.out | exact b2.out) _).mono ?_); rintro e w1 ⟨rfl, hb⟩; obtain ⟨hc, hf⟩ := bcell hb; have hz := hb.size; (try simp at hz); (try have hz1 := Nat.lt_of_succ_le hz); (try have hz2 := Nat.lt_of_succ_lt hz1)))
      go_ret2
      exact ⟨pair_eq f.out, by repeat (first | (with_reducible first | exact Below.refl _ _ | apply below_alloc | apply pw_below_drewN | apply below_drew1 | (refine below_step ?_ (by assumption))) | exact Below.refl _ _)⟩
  · have f := Aside0.mk (show RDistanceOf a b c d = (0, 1) from if_neg (fun e => h1 e.1))
    clear h1
    go_enter Try.func35, Try.ntmps35
    go_wp2_with (first | (go_at_call 106; (with_reducible refine (spec_l02Ok_c b1.out _).mono ?_); rintro e w1 ⟨rfl, hb⟩; obtain ⟨hc, hf⟩ := bcell hb; have hz := hb.size; (try simp at hz); (try have hz1 := Nat.lt_of_succ_le hz); (try have hz2 := Nat.lt_of_succ_lt hz1)))
    go_ret2
    exact ⟨pair_eq f.out, by repeat (first | (with_reducible first | exact Below.refl _ _ | apply below_alloc | apply pw_below_drewN | apply below_drew1 | (refine below_step ?_ (by assumption))) | exact Below.refl _ _)⟩
end Go.Proofs.Ytkfbbaaniglaeaa.Con
end
section
namespace Go.Proofs.Ytkfbbaaniglaeaa.PFnExactUnderCap
open Go.RowKit Go.Proofs.YtkfbbaaniglaeaaW.PrintWords Go.Proofs.YtkfbbaaniglaeaaW.PrintLast Go.Proofs.YtkfbbaaniglaeaaW.PrintMore
attribute [local go_sem] max2_int min2_int max_two min_two max_three min_three max_four min_four -- for this text's walks alone
set_option linter.unusedVariables false
set_option linter.unusedSimpArgs false
theorem info2 : (Try.prog.info? 2).map (fun i => (i.zero, i.size, i.bytes)) = some (some (.int .i64 0), 1, 8) := by kernel_rfl
theorem info52 : (Try.prog.info? 52).map (fun i => (i.zero, i.size, i.bytes)) = some (some (.agg #[(.int .i64 0), (.int .i64 0)]), 2, 16) := by kernel_rfl
structure S52 where
  f0 : Int
  f1 : Int
def z52 : S52 := ⟨(0 : Int), (0 : Int)⟩
def k52 : Kd S52 := Kd.iso (Kd.pair (Kd.int .i64) (Kd.int .i64)) (fun x : S52 => (x.f0, x.f1))
theorem k52_open {w : World} {x : S52} {cs : List Value} (h : k52.K w x cs) : cs = [.int .i64 x.f0, .int .i64 x.f1] := by
  obtain ⟨_, _, rfl, rfl, rfl⟩ := h
  exact rfl
theorem k52_mk (w : World) (x : S52)  : k52.K w x [.int .i64 x.f0, .int .i64 x.f1] := ⟨[.int .i64 x.f0], [.int .i64 x.f1], rfl, rfl, rfl⟩
theorem k52_mkM (w : World) (base : Nat) (ok : Nat → Prop) (x : S52)  : k52.M w base ok x [.int .i64 x.f0, .int .i64 x.f1] := ⟨[.int .i64 x.f0], [.int .i64 x.f1], rfl, rfl, rfl⟩
def rd_T52 (xs : List S52) (i : Int) : S52 := xs.getD i.toNat z52
theorem at_T52 {w : World} {A : Option Addr} {n : Nat} {xs : List S52} (h : Kd.C k52 w A n xs) (i : Int) (h0 : 0 ≤ i) (h1 : i < n) : ∃ ad , A = some ad ∧ w.cell? (ad.add (i.toNat * 2)) = some (.int .i64 (rd_T52 xs i).f0) ∧ w.cell? ⟨(ad.add (i.toNat * 2)).block, (ad.add (i.toNat * 2)).off + 1, none⟩ = some (.int .i64 (rd_T52 xs i).f1) := by
  obtain ⟨ad, c, e, _, hK, hc0⟩ := Kd.C_get h z52 i h0 h1
  have hc : ∀ j u, c[j]? = some u → w.cell? (ad.add (i.toNat * 2 + j)) = some u := hc0
  obtain rfl := k52_open hK
  exact ⟨ad, e, hc 0 _ rfl, by rw [← add_field _ _ 1 (by omega)]; exact hc 1 _ rfl⟩

end Go.Proofs.Ytkfbbaaniglaeaa.PFnExactUnderCap
end
section
namespace Go.Proofs.Ytkfbbaaniglaeaa.Con
open Go.RowKit Go.Proofs.YtkfbbaaniglaeaaW.PrintWords Go.Proofs.YtkfbbaaniglaeaaW.PrintLast Go.Proofs.YtkfbbaaniglaeaaW.PrintMore Go.Proofs.Ytkfbbaaniglaeaa.Mth
attribute [local go_sem] max2_int min2_int max_two min_two max_three min_three
set_option linter.unusedVariables false
set_option linter.unusedSimpArgs false
abbrev Sp := PFnExactUnderCap.S52
abbrev kSp : Kd Sp := PFnExactUnderCap.k52
abbrev rdS (xs : List Sp) (i : Int) : Sp := PFnExactUnderCap.rd_T52 xs i
theorem rdS_eq (xs : List Sp) {i : Nat} (h : i < xs.length) : rdS xs (i : Int) = xs[i] := by
  unfold rdS PFnExactUnderCap.rd_T52
  rw [List.getD_eq_getElem?_getD, Int.toNat_natCast, List.getElem?_eq_getElem h]; rfl
def okL (xs : List Sp) : Prop := ∀ x ∈ xs, sOk x.f0 x.f1
instance (xs : List Sp) : Decidable (okL xs) := by unfold okL; infer_instance
theorem okL_iff (xs : List Sp) : okL xs ↔ ∀ i : Nat, i < xs.length → sOk (rdS xs i).f0 (rdS xs i).f1 := by
  constructor
  · intro h i hi; rw [rdS_eq xs hi]; exact h _ (List.getElem_mem hi)
  · intro h x hx
    obtain ⟨i, hi, rfl⟩ := List.getElem_of_mem hx
    have := h i hi; rwa [rdS_eq xs hi] at this
def FoundB (w : World) (p : Prop) (e : Ending) (w' : World) : Prop := ∃ i : Int, e = .returned (.int .i64 i) ∧ -1 ≤ i ∧ i ≤ 9223372036854775807 ∧ (i < 0 ↔ p) ∧ Below w.heap.size w w'
theorem notSpot_c {a b : Int} {r : Bool} (hr : decide (sOk a b) = r) (w : World) : Calls Try.prog 174 #[.agg #[.int .i64 a, .int .i64 b]] w fun e w' => e = .returned (.bool (!r)) ∧ Below w.heap.size w w' := by
  go_enter Try.func174, Try.ntmps174
  go_wp2_with (first | (go_at_call 133; (with_reducible refine (impl_ValidSpot_c hr _).mono ?_); rintro e w1 ⟨rfl, hb⟩; obtain ⟨hc, hf⟩ := bcell hb; have hz := hb.size; (try simp at hz); (try have hz1 := Nat.lt_of_succ_le hz); (try have hz2 := Nat.lt_of_succ_lt hz1)))
  go_ret
  exact ⟨rfl, by repeat (first | (with_reducible first | exact Below.refl _ _ | apply below_alloc | apply pw_below_drewN | apply below_drew1 | (refine below_step ?_ (by assumption))) | exact Below.refl _ _)⟩
set_option maxHeartbeats 1000000 in
theorem idxSpot_c {A : Option Addr} {n c : Nat} {xs : List Sp} (w : World) (hr : Kd.C kSp w A n xs) : Calls Try.prog 192 #[.slice A n c, .func (.func 174) #[] #[]] w (FoundB w (okL xs)) := by
  have hl := hr.1
  have hn := hr.2.1
  have hr := Aside0.mk hr
  have hl := Aside0.mk hl
  have HB := Aside0.mk (Below.refl w.heap.size w)
  go_enter Try.func192, Try.ntmps192
  go_wp2
  go_loopw [5, 8] (fun a b wr => ∃ i : Nat, i ≤ n ∧ b = .int .i64 i ∧ Aside0 (∀ j : Nat, j < i → sOk (rdS xs j).f0 (rdS xs j).f1) ∧ Aside0 (Below w.heap.size w wr)) (fun _ b _ => ((n : Int) - intOf b).toNat)
  case atStart => exact ⟨0, by omega, rfl, ⟨fun j hj => absurd hj (Nat.not_lt_zero _)⟩, HB⟩
  case round =>
    clear HB
    obtain ⟨i, hi, rfl, HA, HB⟩ := hrel
    by_cases hlt : i < n
    · have hz : (i : Int) < (n : Int) := by omega
      obtain ⟨ad, e1, x0, x1⟩ := PFnExactUnderCap.at_T52 (Kd.C_below hr.out HB.out) (i : Int) (by omega) hz
      subst e1
      rw [Int.toNat_natCast] at x0 x1
      rcases dec (sOk (rdS xs i).f0 (rdS xs i).f1) with ⟨h, b⟩ | ⟨h, b⟩
      · have h := Aside0.mk h
        go_wp2_with (fail)
        refine (notSpot_c b.out _).mono ?_
        rintro e w' ⟨rfl, hb⟩
        have HB := Aside0.mk (below_step HB.out hb)
        go_wp2
        go_roundw
        case rel => exact ⟨i + 1, by omega, by go_num, ⟨fun j hj => by
          by_cases e : j = i
          · subst e; exact h.out
          · exact HA.out j (by omega)⟩, ⟨HB.out⟩⟩
        case measure => simp [intOf]; omega
      · have h := Aside0.mk h
        go_wp2_with (fail)
        refine (notSpot_c b.out _).mono ?_
        rintro e w' ⟨rfl, hb⟩
        have HB := Aside0.mk (below_step HB.out hb)
        go_wp2
        go_ret
        exact ⟨i, rfl, by omega, by omega, ⟨fun k => by omega, fun k => absurd ((okL_iff xs).1 k i (by have := hl.out; omega)) h.out⟩, HB.out⟩
    · have e : i = n := by omega
      subst e
      have hz : ¬ (i : Int) < (i : Int) := by omega
      go_wp2
      go_ret
      exact ⟨-1, rfl, by omega, by omega, ⟨fun _ => (okL_iff xs).2 (by rw [hl.out]; exact HA.out), fun _ => by omega⟩, HB.out⟩
theorem hasNot_c {A : Option Addr} {n c : Nat} {xs : List Sp} {r : Bool} (w : World) (hr : Kd.C kSp w A n xs) (hk : decide (okL xs) = r) : Calls Try.prog 173 #[.slice A n c, .func (.func 174) #[] #[]] w fun e w' => e = .returned (.bool (!r)) ∧ Below w.heap.size w w' := by
  have hr := Aside0.mk hr
  have hk := Aside0.mk hk
  go_enter Try.func173, Try.ntmps173
  go_wp2_with (fail)
  refine (idxSpot_c _ (by first | exact hr.out | exact Kd.C_drewN hr.out _)).mono ?_
  rintro e w' ⟨i, rfl, h0, h1, hi, hb⟩
  have hi := Aside0.mk hi
  cases r with
  | true =>
    have hi2 : i < 0 := hi.out.2 (of_decide_eq_true hk.out)
    go_wp2
    go_ret
    exact ⟨by first | rfl | (simp; omega), by repeat (first | (with_reducible first | exact Below.refl _ _ | apply below_alloc | apply pw_below_drewN | apply below_drew1 | (refine below_step ?_ (by assumption))) | exact Below.refl _ _)⟩
  | false =>
    have hi2 : 0 ≤ i := Int.not_lt.1 (fun k => of_decide_eq_false hk.out (hi.out.1 k))
    go_wp2
    go_ret
    exact ⟨by first | rfl | (simp; omega), by repeat (first | (with_reducible first | exact Below.refl _ _ | apply below_alloc | apply pw_below_drewN | apply below_drew1 | (refine below_step ?_ (by assumption))) | exact Below.refl _ _)⟩
theorem impl_areSpots_c {A : Option Addr} {n c : Nat} {xs : List Sp} {r : Bool} (w : World) (hr : Kd.C kSp w A n xs) (hk : decide (okL xs) = r) : Calls Try.prog 110 #[.slice A n c] w fun e w' => e = .returned (.bool r) ∧ Below w.heap.size w w' := by
  have hr := Aside0.mk hr
  have hk := Aside0.mk hk
  go_enter Try.func110, Try.ntmps110
  go_wp2_with (fail)
  refine (hasNot_c _ (by first | exact hr.out | exact Kd.C_drewN hr.out _) hk.out).mono ?_
  rintro e w' ⟨rfl, hb⟩
  go_wp2
  go_ret
  exact ⟨by simp, by repeat (first | (with_reducible first | exact Below.refl _ _ | apply below_alloc | apply pw_below_drewN | apply below_drew1 | (refine below_step ?_ (by assumption))) | exact Below.refl _ _)⟩
end Go.Proofs.Ytkfbbaaniglaeaa.Con
end
section
namespace Go.Proofs.Ytkfbbaaniglaeaa.Con
open Go.RowKit Go.Proofs.YtkfbbaaniglaeaaW.PrintWords Go.Proofs.YtkfbbaaniglaeaaW.PrintLast Go.Proofs.YtkfbbaaniglaeaaW.PrintMore Go.Proofs.Ytkfbbaaniglaeaa.Mth
attribute [local go_sem] max2_int min2_int max_two min_two max_three min_three
set_option linter.unusedVariables false
set_option linter.unusedSimpArgs false
def codL (xs : List Sp) (least most : Int) : Int := if okL xs then (if (xs.length : Int) ≤ most then (if (xs.length : Int) < least then 3 else 0) else 2) else 1
/-- The sum of the distances of neighbours up to place i. -/
noncomputable def rlF (xs : List Sp) : Nat → Int
  | 0 => 0
  | n + 1 => rlF xs n + dist (rdS xs n).f0 (rdS xs n).f1 (rdS xs (n + 1)).f0 (rdS xs (n + 1)).f1
noncomputable def rlI (xs : List Sp) (i : Int) : Int := rlF xs (i - 1).toNat
theorem rlF_bd (xs : List Sp) (n : Nat) : 0 ≤ rlF xs n ∧ rlF xs n ≤ 648000 * n := by
  induction n with
  | zero => exact ⟨Int.le_refl _, by simp [rlF]⟩
  | succ n ih =>
    have := dist_bd (rdS xs n).f0 (rdS xs n).f1 (rdS xs (n + 1)).f0 (rdS xs (n + 1)).f1
    unfold rlF
    omega
theorem rlI_bd (xs : List Sp) (i : Int) : 0 ≤ rlI xs i ∧ rlI xs i ≤ 648000 * (i - 1).toNat := rlF_bd xs _
theorem rlI_step (xs : List Sp) {i : Int} (h : 1 ≤ i) : rlI xs (i + 1) = rlI xs i + dist (rdS xs (i - 1)).f0 (rdS xs (i - 1)).f1 (rdS xs i).f0 (rdS xs i).f1 := by
  obtain ⟨k, rfl⟩ : ∃ k : Nat, i = k + 1 := ⟨(i - 1).toNat, by omega⟩
  unfold rlI
  rw [show ((k : Int) + 1 + 1 - 1).toNat = k + 1 by omega, show ((k : Int) + 1 - 1).toNat = k by omega, show (k : Int) + 1 - 1 = k by omega]
  rfl
noncomputable def RRouteLength (xs : List Sp) : Int × Int := if codL xs 0 12 = 0 then (rlI xs xs.length, 0) else (0, codL xs 0 12)
theorem codL_0 {xs : List Sp} {a b : Int} (h : codL xs a b = 0) : okL xs ∧ (xs.length : Int) ≤ b ∧ a ≤ xs.length := by
  unfold codL at h
  by_cases k : okL xs
  · rw [if_pos k] at h
    refine ⟨k, ?_⟩
    by_cases l : (xs.length : Int) ≤ b
    · rw [if_pos l] at h
      by_cases m : (xs.length : Int) < a
      · rw [if_pos m] at h; omega
      · omega
    · rw [if_neg l] at h; omega
  · rw [if_neg k] at h; omega
theorem ad_blk (a : Addr) (i : Nat) : (a.add i).block = a.block := by unfold Addr.add; split <;> rfl
theorem sp_lt {W : World} {ad : Addr} {n : Nat} {xs : List Sp} (h : Kd.C kSp W (some ad) n xs) (hn : 0 < n) : ad.block < W.heap.size := Kd.C_lt h hn (by decide)
theorem impl_spotsCode_c {A : Option Addr} {n c : Nat} {xs : List Sp} {least most r : Int} (w : World) (hr : Kd.C kSp w A n xs) (hk : codL xs least most = r) : Calls Try.prog 116 #[.slice A n c, .int .i64 least, .int .i64 most] w fun e w' => e = .returned (.int .i64 r) ∧ Below w.heap.size w w' := by
  have hl : xs.length = n := hr.1
  unfold codL at hk
  rw [hl] at hk
  clear hl
  have hr := Aside0.mk hr
  rcases dec (okL xs) with ⟨h, b⟩ | ⟨h, b⟩
  · rw [if_pos h] at hk
    clear h
    rcases dec ((n : Int) ≤ most) with ⟨h, bm⟩ | ⟨h, bm⟩
    · rw [if_pos h] at hk
      rcases dec ((n : Int) < least) with ⟨h2, bl⟩ | ⟨h2, bl⟩
      · rw [if_pos h2] at hk
        subst hk
        have q := bm.out
        go_enter Try.func116, Try.ntmps116
        go_wp2_with (first | (go_at_call 110; (with_reducible refine (impl_areSpots_c _ hr.out b.out).mono ?_); rintro e w1 ⟨rfl, hb⟩; obtain ⟨hc, hf⟩ := bcell hb; have hz := hb.size; (try simp at hz); (try have hz1 := Nat.lt_of_succ_le hz); (try have hz2 := Nat.lt_of_succ_lt hz1)) | (go_at_call 126; (with_reducible refine (impl_check_tt _).mono ?_); rintro e w' ⟨rfl, ⟨nd, rfl⟩⟩))
        go_ret
        exact ⟨rfl, by repeat (first | (with_reducible first | exact Below.refl _ _ | apply below_alloc | apply pw_below_drewN | apply below_drew1 | (refine below_step ?_ (by assumption))) | exact Below.refl _ _)⟩
      · rw [if_neg h2] at hk
        subst hk
        have q := bm.out
        go_enter Try.func116, Try.ntmps116
        go_wp2_with (first | (go_at_call 110; (with_reducible refine (impl_areSpots_c _ hr.out b.out).mono ?_); rintro e w1 ⟨rfl, hb⟩; obtain ⟨hc, hf⟩ := bcell hb; have hz := hb.size; (try simp at hz); (try have hz1 := Nat.lt_of_succ_le hz); (try have hz2 := Nat.lt_of_succ_lt hz1)) | (go_at_call 126; (with_reducible refine (impl_check_tt _).mono ?_); rintro e w' ⟨rfl, ⟨nd, rfl⟩⟩))
        go_ret
        exact ⟨rfl, by repeat (first | (with_reducible first | exact Below.refl _ _ | apply below_alloc | apply pw_below_drewN | apply below_drew1 | (refine below_step ?_ (by assumption))) | exact Below.refl _ _)⟩
    · rw [if_neg h] at hk
      subst hk
      have q := bm.out
      go_enter Try.func116, Try.ntmps116
      go_wp2_with (first | (go_at_call 110; (with_reducible refine (impl_areSpots_c _ hr.out b.out).mono ?_); rintro e w1 ⟨rfl, hb⟩; obtain ⟨hc, hf⟩ := bcell hb; have hz := hb.size; (try simp at hz); (try have hz1 := Nat.lt_of_succ_le hz); (try have hz2 := Nat.lt_of_succ_lt hz1)) | (go_at_call 126; (with_reducible refine (impl_check_tf _).mono ?_); rintro e w' ⟨rfl, ⟨nd, rfl⟩⟩))
      go_ret
      exact ⟨rfl, by repeat (first | (with_reducible first | exact Below.refl _ _ | apply below_alloc | apply pw_below_drewN | apply below_drew1 | (refine below_step ?_ (by assumption))) | exact Below.refl _ _)⟩
  · rw [if_neg h] at hk
    subst hk
    clear h
    go_enter Try.func116, Try.ntmps116
    go_wp2_with (first | (go_at_call 110; (with_reducible refine (impl_areSpots_c _ hr.out b.out).mono ?_); rintro e w1 ⟨rfl, hb⟩; obtain ⟨hc, hf⟩ := bcell hb; have hz := hb.size; (try simp at hz); (try have hz1 := Nat.lt_of_succ_le hz); (try have hz2 := Nat.lt_of_succ_lt hz1)) | (go_at_call 126; (with_reducible refine (impl_check_f _).mono ?_); rintro e w' ⟨rfl, ⟨nd, rfl⟩⟩))
    go_ret
    exact ⟨rfl, by repeat (first | (with_reducible first | exact Below.refl _ _ | apply below_alloc | apply pw_below_drewN | apply below_drew1 | (refine below_step ?_ (by assumption))) | exact Below.refl _ _)⟩
theorem impl_routeLength_c {A : Option Addr} {n c : Nat} {xs : List Sp} (w : World) (hr : Kd.C kSp w A n xs) (ho : okL xs) (hn : n ≤ 100) : Calls Try.prog 120 #[.slice A n c] w fun e w' => e = .returned (.int .i64 (rlI xs n)) ∧ Below w.heap.size w w' := by
  have hl := hr.1
  have hr := Aside0.mk hr
  have ho := Aside0.mk ((okL_iff xs).1 ho)
  have hl := Aside0.mk hl
  have HB := Aside0.mk (Below.refl w.heap.size w)
  go_enter Try.func120, Try.ntmps120
  go_wp2_with (fail)
  go_loopw [3, 4] (fun a b wr => ∃ i : Int, 1 ≤ i ∧ (i ≤ n ∨ i = 1) ∧ b = .int .i64 i ∧ a = .int .i64 (rlI xs i) ∧ Aside0 (Below w.heap.size w wr)) (fun _ b _ => ((n : Int) - intOf b).toNat)
  case atStart => exact ⟨1, by omega, by omega, rfl, rfl, HB⟩
  case round =>
    clear HB
    obtain ⟨i, i1, hi, rfl, rfl, HB⟩ := hrel
    by_cases hlt : i < n
    · obtain ⟨b0, b1⟩ := rlI_bd xs i
      obtain ⟨ad, e1, x0, x1⟩ := PFnExactUnderCap.at_T52 (Kd.C_below hr.out HB.out) i (by omega) hlt
      obtain ⟨ad', e2, y0, y1⟩ := PFnExactUnderCap.at_T52 (Kd.C_below hr.out HB.out) (i - 1) (by omega) (by omega)
      subst e1
      obtain rfl : ad = ad' := by injection e2
      clear e2
      rw [show (i - 1).toNat = i.toNat - 1 by omega] at y0 y1
      have s1 := Aside0.mk (show sOk (rdS xs i).f0 (rdS xs i).f1 by have := ho.out i.toNat (by have := hl.out; omega); rwa [Int.toNat_of_nonneg (by omega)] at this)
      have s0 := Aside0.mk (show sOk (rdS xs (i - 1)).f0 (rdS xs (i - 1)).f1 by have := ho.out (i - 1).toNat (by have := hl.out; omega); rwa [Int.toNat_of_nonneg (by omega)] at this)
      obtain ⟨d0, d1⟩ := dist_bd (rdS xs (i - 1)).f0 (rdS xs (i - 1)).f1 (rdS xs i).f0 (rdS xs i).f1
      have g := Aside0.mk (rlI_step xs i1)
      have k2 : IntKind.i64.wrap (i - 1) = i - 1 := IntWalk.i64_in _ (by omega)
      have kw : IntKind.i64.wrap (rlI xs i + dist (rdS xs (i - 1)).f0 (rdS xs (i - 1)).f1 (rdS xs i).f0 (rdS xs i).f1) = rlI xs i + dist (rdS xs (i - 1)).f0 (rdS xs (i - 1)).f1 (rdS xs i).f0 (rdS xs i).f1 := IntWalk.i64_in _ (by omega)
      have i2 : 0 ≤ i - 1 := by omega
      have i3 : 0 ≤ i := by omega
      have i4 : i - 1 < n := by omega
      have hlt2 := sp_lt (Kd.C_below hr.out HB.out) (by omega)
      have HB2 := HB.out
      go_wp2_with (fail)

      go_region_held3 (fun W => W.cell? (ad.add (i.toNat * 2)) = some (.int .i64 (rdS xs i).f0) ∧ W.cell? ⟨(ad.add (i.toNat * 2)).block, (ad.add (i.toNat * 2)).off + 1, none⟩ = some (.int .i64 (rdS xs i).f1) ∧ W.cell? (ad.add ((i.toNat - 1) * 2)) = some (.int .i64 (rdS xs (i - 1)).f0) ∧ W.cell? ⟨(ad.add ((i.toNat - 1) * 2)).block, (ad.add ((i.toNat - 1) * 2)).off + 1, none⟩ = some (.int .i64 (rdS xs (i - 1)).f1) ∧ Below w.heap.size w W ∧ ad.block < W.heap.size) (first | ((try go_split_ands); refine ⟨?_, ?_, ?_, ?_, ?_, ?_⟩; (first | exact (hb.cell (p := ad.add (i.toNat * 2)) (by rw [ad_blk]; assumption)).trans (by assumption) | go_keep); (first | exact (hb.cell (p := ⟨(ad.add (i.toNat * 2)).block, (ad.add (i.toNat * 2)).off + 1, none⟩) (by show (ad.add (i.toNat * 2)).block < _; rw [ad_blk]; assumption)).trans (by assumption) | go_keep); (first | exact (hb.cell (p := ad.add ((i.toNat - 1) * 2)) (by rw [ad_blk]; assumption)).trans (by assumption) | go_keep); (first | exact (hb.cell (p := ⟨(ad.add ((i.toNat - 1) * 2)).block, (ad.add ((i.toNat - 1) * 2)).off + 1, none⟩) (by show (ad.add ((i.toNat - 1) * 2)).block < _; rw [ad_blk]; assumption)).trans (by assumption) | go_keep); (first | exact below_step (by assumption) hb | exact below_drew1 HB.out | exact HB.out); (first | (have := hb.size; omega) | assumption)) | go_keep) (first | (go_at_call 134; refine (impl_distance_c s0.out s1.out _).mono ?_; rintro e w1 ⟨rfl, hb⟩))
      all_goals go_wp2
      go_roundw
      case rel => exact ⟨i + 1, by omega, by omega, by go_num, by rw [g.out], ⟨by (go_split_ands; assumption)⟩⟩
      case measure => simp [intOf]; omega
    · have e : rlI xs i = rlI xs n := by
        rcases hi with hi | hi
        · rw [show i = n by omega]
        · subst hi
          unfold rlI
          rw [show ((1 : Int) - 1).toNat = 0 by omega, show ((n : Int) - 1).toNat = 0 by omega]
      have e := Aside0.mk e
      go_wp2
      go_ret
      exact ⟨by first | exact ret_int e.out | rfl, HB.out⟩
theorem impl_RouteLength_c {A : Option Addr} {n c : Nat} {xs : List Sp} (w : World) (hr : Kd.C kSp w A n xs) : Calls Try.prog 40 #[.slice A n c] w fun e w' => e = .returned (.tuple #[.int .i64 (RRouteLength xs).1, .int .i64 (RRouteLength xs).2]) ∧ Below w.heap.size w w' := by
  have hl : xs.length = n := hr.1
  have hr := Aside0.mk hr
  by_cases h : codL xs 0 12 = 0
  · obtain ⟨ho, h1, _⟩ := codL_0 h
    have hn : n ≤ 100 := by omega
    have f := Aside0.mk (show RRouteLength xs = (rlI xs n, 0) by unfold RRouteLength; rw [if_pos h, hl])
    have h := Aside0.mk h
    have ho := Aside0.mk ho
    clear hl h1
    go_enter Try.func40, Try.ntmps40
    go_wp2_with (fail)
    refine (impl_spotsCode_c _ hr.out h.out).mono ?_
    rintro e w1 ⟨rfl, hb⟩
    have HB := Aside0.mk (show Below w.heap.size w w1 from below_step ( by repeat (first | (with_reducible first | exact Below.refl _ _ | apply below_alloc | apply pw_below_drewN | apply below_drew1 | (refine below_step ?_ (by assumption))) | exact Below.refl _ _) ) hb)
    clear hb
    go_wp2_with (fail)
    refine (impl_routeLength_c _ (Kd.C_below hr.out HB.out) ho.out hn).mono ?_
    rintro e w2 ⟨rfl, hb⟩
    have HB := Aside0.mk (below_step HB.out hb)
    clear hb
    go_wp2
    go_ret2
    exact ⟨pair_eq f.out, HB.out⟩
  · have f := Aside0.mk (show RRouteLength xs = (0, codL xs 0 12) from if_neg h)
    have q : (codL xs 0 12 == 0) = false := by simp [h]
    clear hl h
    go_enter Try.func40, Try.ntmps40
    go_wp2_with (fail)
    refine (impl_spotsCode_c _ hr.out rfl).mono ?_
    rintro e w1 ⟨rfl, hb⟩
    have HB := Aside0.mk (show Below w.heap.size w w1 from below_step ( by repeat (first | (with_reducible first | exact Below.refl _ _ | apply below_alloc | apply pw_below_drewN | apply below_drew1 | (refine below_step ?_ (by assumption))) | exact Below.refl _ _) ) hb)
    clear hb
    go_wp2
    go_ret2
    exact ⟨pair_eq f.out, HB.out⟩
end Go.Proofs.Ytkfbbaaniglaeaa.Con
end
section
namespace Go.Proofs.Ytkfbbaaniglaeaa.PFnExactUnderCap
open Go.RowKit Go.Proofs.YtkfbbaaniglaeaaW.PrintWords Go.Proofs.YtkfbbaaniglaeaaW.PrintLast Go.Proofs.YtkfbbaaniglaeaaW.PrintMore Go.Proofs.Ytkfbbaaniglaeaa.Mth
attribute [local go_sem] max2_int min2_int max_two min_two max_three min_three max_four min_four
set_option linter.unusedVariables false
set_option linter.unusedSimpArgs false
theorem info22 : (Try.prog.info? 22).map (fun i => (i.zero, i.size, i.bytes)) = some (some (.slice none 0 0), 1, 24) := by kernel_rfl
def rd_L3 (xs : List (List Int)) (i : Int) : (List Int) := xs.getD i.toNat ([] : List Int)
theorem at_L3 {w : World} {A : Option Addr} {n : Nat} {xs : List (List Int)} (h : Kd.C (Kd.slice 2 (Kd.int .i64)) w A n xs) (i : Int) (h0 : 0 ≤ i) (h1 : i < n) : ∃ ad A0 c0, A = some ad ∧ w.cell? (ad.add i.toNat) = some (.slice A0 (rd_L3 xs i).length c0) ∧ (rd_L3 xs i).length ≤ c0 ∧ (Kd.int .i64).C w A0 (rd_L3 xs i).length (rd_L3 xs i) := by
  obtain ⟨ad, c, e, _, hK, hc0⟩ := Kd.C_get h ([] : List Int) i h0 h1
  have hc : ∀ j u, c[j]? = some u → w.cell? (ad.add (i.toNat * 1 + j)) = some u := hc0
  obtain ⟨A0, c0, rfl, l0, g0⟩ := hK
  exact ⟨ad, A0, c0, e, by have hq := hc 0 _ rfl; rwa [Nat.mul_one, Nat.add_zero] at hq, l0, g0⟩
noncomputable def impl_distance.f (k : Nat) (a b c d : Int) : Option Int := if sOk a b ∧ sOk c d then some (dist a b c d) else none
theorem impl_distance.calls (k : Nat) (a b c d r : Int) (w : World) (h : impl_distance.f k a b c d = some r) : Calls Try.prog 134 #[.agg #[.int .i64 a, .int .i64 b], .agg #[.int .i64 c, .int .i64 d]] w fun e w' => e = .returned (.int .i64 r) ∧ Below w.heap.size w w' := by
  unfold impl_distance.f at h
  by_cases z : sOk a b ∧ sOk c d
  · rw [if_pos z] at h; injection h with h; subst h
    exact Con.impl_distance_c z.1 z.2 w
  · rw [if_neg z] at h; cases h

noncomputable def impl_distancesFrom.l0 : Nat → List Int → List (S52) → Int → Int → Int → Int → Option (List Int)
  | 0, _, _, _, _, _, _ => none
  | k + 1, x5, x9, x10, x11, x188000, x188001 => if x11 < x10 then (if 0 ≤ x11 then (if x11 < (x9.length : Int) then ((impl_distance.f k x188000 x188001 ((rd_T52 x9 x11).f0) ((rd_T52 x9 x11).f1)).bind fun t193 => (if x5.length < 17592186044416 then (impl_distancesFrom.l0 k (x5 ++ [t193]) x9 x10 (wrap64 (x11 + 1)) x188000 x188001) else (none))) else (none)) else (none)) else (some x5)
noncomputable def impl_distancesFrom.f (k : Nat) (l0 : List (S52)) (a1_0 : Int) (a1_1 : Int) : Option (List Int) := impl_distancesFrom.l0 k (([] : List Int)) l0 (l0.length : Int) 0 a1_0 a1_1
set_option maxHeartbeats 8000000 in
set_option maxRecDepth 100000 in
theorem impl_distancesFrom.calls (k : Nat) (A0 : Option Addr) (c0 : Nat) (l0 : List (S52)) (a1_0 : Int) (a1_1 : Int) (r : List Int) (w : World) (hr0 : Kd.C k52 w A0 l0.length l0) (hc0 : l0.length ≤ c0) (h : impl_distancesFrom.f k l0 a1_0 a1_1 = some r) :
    Calls Try.prog 117 #[.slice A0 l0.length c0, .agg #[.int .i64 a1_0, .int .i64 a1_1]] w fun e w' => ∃ v0_ : Value, e = .returned (v0_) ∧ Kd.R (Kd.int .i64) 2 w' w.heap.size (fun _ => True) v0_ r ∧ Below w.heap.size w w' := by
  have hu52 := Try.underlying52
  have HR0 := Aside0.mk hr0
  have HC0 := Aside0.mk hc0
  clear hr0 hc0
  have HB := Aside0.mk (Below.refl w.heap.size w)
  have H : (impl_distancesFrom.l0 k (([] : List Int)) l0 (l0.length : Int) 0 a1_0 a1_1) = some r := h
  clear h
  obtain ⟨y188, hy188⟩ : ∃ y_ : List Int, y_ = (([] : List Int)) := ⟨_, rfl⟩
  replace H : (impl_distancesFrom.l0 k y188 l0 (l0.length : Int) 0 a1_0 a1_1) = some r := by first | (rw [hy188]; with_reducible exact H) | (have H2_ := (Option.bind_some _ _).symm.trans H; rw [hy188]; with_reducible exact H2_) | (have H2_ := (Option.bind_some _ _).symm.trans H; with_reducible exact H2_) | with_reducible exact H | (rw [hy188]; exact H) | exact H
  have Ny188 := Aside0.mk hy188
  clear hy188
  have H' := Aside0.mk H
  clear H
  go_enter Try.func117, Try.ntmps117
  go_wp2_with (first | ((with_reducible refine gate_dst (N := 3) rfl ?_); refine box_event ?hg (N := 3) ?hd (cs := #[.int .i64 a1_0, .int .i64 a1_1]) (t := 52) ?hr ?_; (case hd => rfl); (case hg => rfl); (case hr => first | (go_simp; done) | (go_simp; rfl)); intro gb187 hg w3 hbox hb; have n0_ := Aside0.mk (below_step (by repeat (first | (with_reducible first | exact HB.out | apply below_alloc | apply pw_below_drewN | apply below_drew1) | exact HB.out)) hb); have n1_ := Aside0.mk (hbox); have n2_ := Aside0.mk ((by rw [hg]; exact (below_size (by repeat (first | (with_reducible first | exact HB.out | apply below_alloc | apply pw_below_drewN | apply below_drew1) | exact HB.out))) : w.heap.size ≤ gb187)); have n3_ := Aside0.mk ((by rw [hg]; exact (below_size (by repeat (first | (with_reducible first | exact HB.out | apply below_alloc | apply pw_below_drewN | apply below_drew1) | exact HB.out))) : w.heap.size ≤ gb187)); clear HB; have HB := n0_; have BK187 := n1_; have GW187 := n2_; have GE187 := n3_; clear n0_ n1_ n2_ n3_; clear hb hbox hg) | ((with_reducible refine gate_dst (N := 8) rfl ?_); refine Kd.R_lit (Kd.int .i64) _ 2 ?hg (N := 8) ?hd (xs := ([] : List Int)) (inner := []) (ok := fun _ => True) (okp := fun _ => True) ?hr ?hp (fun _ hk => hk) trivial (Below.refl _ _) (Nat.le_refl _) (by simp) ?_; (case hd => rfl); (case hg => rfl); (case hr => first | (go_simp; done) | (go_simp; rfl)); (case hp => exact (Reps.none _ _)); intro v189 w4 ho5 hb hg_ hnew_; clear hg_ hnew_; (first | rw [← Ny188.out] at ho5 | (simp only [Int.reduceToNat] at ho5; rw [← Ny188.out] at ho5)); have n0_ := Aside0.mk (Kd.R_lower ho5 (below_size (by repeat (first | (with_reducible first | exact HB.out | apply below_alloc | apply pw_below_drewN | apply below_drew1 | refine below_set ?_ GE187.out) | exact HB.out)))); have n1_ := Aside0.mk (blk_below (g := gb187) (o := .cells #[.int .i64 a1_0, .int .i64 a1_1] 52 (0, 0)) (by (with_reducible repeat (first | refine blk_drewN ?_ _ | refine blk_drew ?_ | refine blk_alloc ?_ _)); exact BK187.out) hb); have n2_ := Aside0.mk (below_step (by repeat (first | (with_reducible first | exact HB.out | apply below_alloc | apply pw_below_drewN | apply below_drew1 | refine below_set ?_ GE187.out) | exact HB.out)) hb); clear BK187; clear HB; have HO190 := n0_; have BK187 := n1_; have HB := n2_; clear n0_ n1_ n2_; clear hb ho5))
  go_loopg [5, 11] k (fun kq v5 v11 w' => ∃ (x5_1 : List Int) (x11_1 : Int), v11 = .int .i64 x11_1 ∧ Aside0 (impl_distancesFrom.l0 kq x5_1 l0 (l0.length : Int) x11_1 a1_0 a1_1 = some r) ∧ Aside0 (kq ≤ k) ∧ Aside0 (Kd.R (Kd.int .i64) 2 w' w.heap.size (fun _ => True) v5 x5_1) ∧ Aside0 (w'.heap[gb187]? = some (.cells #[.int .i64 a1_0, .int .i64 a1_1] 52 (0, 0))) ∧ Aside0 (Below w.heap.size w w'))
  case atStart => exact ⟨(y188), (0), (by first | rfl | (simp; done) | (simp [*]; done)), H', ⟨Nat.le_refl _⟩, ⟨by (with_reducible repeat (first | apply Kd.R_alloc | apply Kd.R_drewN | apply Kd.R_drew)); exact HO190.out⟩, ⟨by (with_reducible repeat (first | refine blk_drewN ?_ _ | refine blk_drew ?_ | refine blk_alloc ?_ _)); exact BK187.out⟩, ⟨by repeat (first | (with_reducible first | exact HB.out | apply below_alloc | apply pw_below_drewN | apply below_drew1 | refine below_set ?_ GE187.out) | exact HB.out)⟩⟩
  case round =>
    clear H'
    try clear c1
    try clear p2
    obtain ⟨x5_1, x11_1, rfl, HA, HK1, HO_5, BK187, HB⟩ := hrel
    cases gk with
    | zero => exact absurd HA.out (by simp [impl_distancesFrom.l0])
    | succ k1 =>
      have H := HA.out
      clear HA
      simp only [impl_distancesFrom.l0] at H
      by_cases c6 : x11_1 < (l0.length : Int)
      · rw [if_pos c6] at H
        have c6b0 : decide (x11_1 < (l0.length : Int)) = true := decide_eq_true c6
        clear c6
        by_cases c7 : 0 ≤ x11_1
        · rw [if_pos c7] at H
          have c7b0 : decide (0 ≤ x11_1) = true := decide_eq_true c7
          clear c7
          by_cases c8 : x11_1 < (l0.length : Int)
          · rw [if_pos c8] at H
            have c8b0 : decide (x11_1 < (l0.length : Int)) = true := decide_eq_true c8
            clear c8
            replace H := Option.bind_eq_some_iff.mp H
            obtain ⟨t193, A90, H⟩ := H
            replace H : (if x5_1.length < 17592186044416 then (impl_distancesFrom.l0 k1 (x5_1 ++ [t193]) l0 (l0.length : Int) (wrap64 (x11_1 + 1)) a1_0 a1_1) else (none)) = some r := H
            have A9 := Aside0.mk A90
            clear A90
            by_cases c10 : x5_1.length < 17592186044416
            · rw [if_pos c10] at H
              have LMc10 := Aside0.mk c10
              clear c10
              obtain ⟨y194, hy194⟩ : ∃ y_ : List Int, y_ = (x5_1 ++ [t193]) := ⟨_, rfl⟩
              replace H : (impl_distancesFrom.l0 k1 y194 l0 (l0.length : Int) (wrap64 (x11_1 + 1)) a1_0 a1_1) = some r := by first | (rw [hy194]; with_reducible exact H) | (have H2_ := (Option.bind_some _ _).symm.trans H; rw [hy194]; with_reducible exact H2_) | (have H2_ := (Option.bind_some _ _).symm.trans H; with_reducible exact H2_) | with_reducible exact H | (rw [hy194]; exact H) | exact H
              have Ny194 := Aside0.mk hy194
              clear hy194
              have H' := Aside0.mk H
              clear H
              have p191 : 0 ≤ (x11_1 : Int) := of_decide_eq_true (by first | (with_reducible assumption) | assumption)
              have q191 : x11_1 < (l0.length : Int) := of_decide_eq_true (by first | (with_reducible assumption) | assumption)
              obtain ⟨ad191, e191, hx191_0, hx191_1⟩ := at_T52 HR0.out x11_1 p191 q191
              cases e191
              replace hx191_0 := (HB.out.cell (World.block_lt_of_cell? w _ hx191_0)).trans hx191_0
              replace hx191_1 := (HB.out.cell (World.block_lt_of_cell? w _ hx191_1)).trans hx191_1
              replace p191 := eq_true p191
              replace q191 := eq_true q191
              go_wp2_with (first | ((with_reducible refine gate_dst (N := 7) rfl ?_); refine box_event ?hg (N := 7) ?hd (cs := #[.int .i64 0, .int .i64 0]) (t := 52) ?hr ?_; (case hd => rfl); (case hg => rfl); (case hr => first | (go_simp; done) | (go_simp; rfl)); intro gb192 hg w11 hbox hb; have n0_ := Aside0.mk (Kd.R_below (by (with_reducible repeat (first | apply Kd.R_alloc | apply Kd.R_drewN | apply Kd.R_drew)); exact HO_5.out) hb); have n1_ := Aside0.mk (blk_below (g := gb187) (o := .cells #[.int .i64 a1_0, .int .i64 a1_1] 52 (0, 0)) (by (with_reducible repeat (first | refine blk_drewN ?_ _ | refine blk_drew ?_ | refine blk_alloc ?_ _)); exact BK187.out) hb); have n2_ := Aside0.mk (below_step (by repeat (first | (with_reducible first | exact HB.out | apply below_alloc | apply pw_below_drewN | apply below_drew1 | refine below_set ?_ GE187.out) | exact HB.out)) hb); have n3_ := Aside0.mk (hbox); have n4_ := Aside0.mk ((by rw [hg]; exact (below_size (by repeat (first | (with_reducible first | exact HB.out | apply below_alloc | apply pw_below_drewN | apply below_drew1 | refine below_set ?_ GE187.out) | exact HB.out))) : w.heap.size ≤ gb192)); have n5_ := Aside0.mk ((by rw [hg]; exact (below_size (by repeat (first | (with_reducible first | exact HB.out | apply below_alloc | apply pw_below_drewN | apply below_drew1 | refine below_set ?_ GE187.out) | exact HB.out))) : w.heap.size ≤ gb192)); have n6_ := Aside0.mk ((by rw [hg]; exact Nat.ne_of_lt (blk_lt (g := gb187) (o := .cells #[.int .i64 a1_0, .int .i64 a1_1] 52 (0, 0)) (by (with_reducible repeat (first | refine blk_drewN ?_ _ | refine blk_drew ?_ | refine blk_alloc ?_ _)); exact BK187.out)) : gb187 ≠ gb192)); have n7_ := Aside0.mk ((by rw [hg]; exact Nat.ne_of_gt (blk_lt (g := gb187) (o := .cells #[.int .i64 a1_0, .int .i64 a1_1] 52 (0, 0)) (by (with_reducible repeat (first | refine blk_drewN ?_ _ | refine blk_drew ?_ | refine blk_alloc ?_ _)); exact BK187.out)) : gb192 ≠ gb187)); clear HO_5; clear BK187; clear HB; have HO_5 := n0_; have BK187 := n1_; have HB := n2_; have BK192 := n3_; have GW192 := n4_; have GE192 := n5_; have NB187_192 := n6_; have NB192_187 := n7_; clear n0_ n1_ n2_ n3_ n4_ n5_ n6_ n7_; clear hb hbox hg; have hnb12 := NB192_187.out; have hnc12 := NB187_192.out; have hcz13_0 : w11.cell? ⟨gb192, 0, none⟩ = some (.int .i64 0) := (blk_cell BK192.out 0).trans rfl; have hcz13_1 : w11.cell? ⟨gb192, 1, none⟩ = some (.int .i64 0) := (blk_cell BK192.out 1).trans rfl; have hfz13_0 := blk_frozen BK192.out 0; have hfz13_1 := blk_frozen BK192.out 1; have hcz14_0 : w11.cell? ⟨gb187, 0, none⟩ = some (.int .i64 a1_0) := (blk_cell BK187.out 0).trans rfl; have hcz14_1 : w11.cell? ⟨gb187, 1, none⟩ = some (.int .i64 a1_1) := (blk_cell BK187.out 1).trans rfl; have hfz14_0 := blk_frozen BK187.out 0; have hfz14_1 := blk_frozen BK187.out 1) | ((with_reducible refine gate_callee (f := 134) rfl ?_); refine goesL_ (some 18) rfl rfl Try.func134 (by kernel_rfl) rfl #[.agg #[.int .i64 a1_0, .int .i64 a1_1], .agg #[.int .i64 ((rd_T52 l0 x11_1).f0), .int .i64 ((rd_T52 l0 x11_1).f1)]] rfl (by (try simp only [List.map_toArray, List.map_cons, List.map_nil]); first | done | rfl | (simp only [List.length_drop, List.length_take]; rfl)) ?_; (with_reducible refine (impl_distance.calls k1 a1_0 a1_1 ((rd_T52 l0 x11_1).f0) ((rd_T52 l0 x11_1).f1) t193 _ A9.out).mono ?_); rintro e w15 ⟨rfl, hb⟩; refine ⟨_, rfl, ?_⟩; have n0_ := Aside0.mk (Kd.R_below (by (with_reducible repeat (first | apply Kd.R_alloc | apply Kd.R_drewN | apply Kd.R_drew)); exact (Kd.R_mono (Kd.R_far (p := ⟨gb192, 1, none⟩) (Kd.R_far (p := ⟨gb192, 0, none⟩) (Kd.R_types HO_5.out BK192.out (by decide)) (fun _ hk => hk.2) (.int .i64 ((rd_T52 l0 x11_1).f0))) (fun _ hk => hk.2) (.int .i64 ((rd_T52 l0 x11_1).f1))) (fun _ h_ => h_.1))) hb); have n1_ := Aside0.mk (blk_below (g := gb187) (o := .cells #[.int .i64 a1_0, .int .i64 a1_1] 52 (0, 0)) (by (with_reducible repeat (first | refine blk_drewN ?_ _ | refine blk_drew ?_ | refine blk_alloc ?_ _)); refine blk_far ?_ NB187_192.out _; (with_reducible repeat (first | refine blk_drewN ?_ _ | refine blk_drew ?_ | refine blk_alloc ?_ _)); refine blk_far ?_ NB187_192.out _; (with_reducible repeat (first | refine blk_drewN ?_ _ | refine blk_drew ?_ | refine blk_alloc ?_ _)); exact BK187.out) hb); have n2_ := Aside0.mk (blk_below (g := gb192) (o := .cells #[.int .i64 ((rd_T52 l0 x11_1).f0), .int .i64 ((rd_T52 l0 x11_1).f1)] 52 (0, 0)) (by (with_reducible repeat (first | refine blk_drewN ?_ _ | refine blk_drew ?_ | refine blk_alloc ?_ _)); refine blk_put (cs := #[.int .i64 ((rd_T52 l0 x11_1).f0), .int .i64 0]) ?_ 1 _ rfl; (with_reducible repeat (first | refine blk_drewN ?_ _ | refine blk_drew ?_ | refine blk_alloc ?_ _)); refine blk_put (cs := #[.int .i64 0, .int .i64 0]) ?_ 0 _ rfl; (with_reducible repeat (first | refine blk_drewN ?_ _ | refine blk_drew ?_ | refine blk_alloc ?_ _)); exact BK192.out) hb); have n3_ := Aside0.mk (below_step (by repeat (first | (with_reducible first | exact HB.out | apply below_alloc | apply pw_below_drewN | apply below_drew1 | refine below_set ?_ GE187.out | refine below_set ?_ GE192.out) | exact HB.out)) hb); clear HO_5; clear BK187; clear BK192; clear HB; have HO_5 := n0_; have BK187 := n1_; have BK192 := n2_; have HB := n3_; clear n0_ n1_ n2_ n3_; (try clear hb); (try clear hb2); (try clear hk); (try clear hi)) | ((with_reducible refine gate_builtin (b := .append) (xs := #[.tmp 15, .tmp 19]) rfl ?_); at_builtin; refine Kd.R_append (Kd.int .i64) (w0 := w) w.heap.size rfl (.tmp 15) (.tmp 19) 22 2 (.int .i64 0) 8 rfl Try.underlying22 info2 rfl (by decide) (by omega) u5 x5_1 t193 [.int .i64 t193] (fun _ => True) (fun _ => False) rfl rfl ?aP (fun _ hk => hk.elim) ?aF ?aO ?aB ?aS ?aL ?_; (case aP => exact rfl); (case aB => exact (by repeat (first | (with_reducible first | exact HB.out | apply below_alloc | apply pw_below_drewN | apply below_drew1 | refine below_set ?_ GE187.out | refine below_set ?_ GE192.out) | exact HB.out))); (case aF => exact (fun _ _ => trivial)); (case aO => exact (by (with_reducible repeat (first | apply Kd.R_alloc | apply Kd.R_drewN | apply Kd.R_drew)); exact HO_5.out)); (case aS => exact (below_size (by repeat (first | (with_reducible first | exact HB.out | apply below_alloc | apply pw_below_drewN | apply below_drew1 | refine below_set ?_ GE187.out | refine below_set ?_ GE192.out) | exact HB.out)))); (case aL => have := LMc10.out; omega); intro v195 w16 ho hb hg hat; rw [← Ny194.out] at ho; have n0_ := Aside0.mk (blk_grown (g := gb187) (o := .cells #[.int .i64 a1_0, .int .i64 a1_1] 52 (0, 0)) (by (with_reducible repeat (first | refine blk_drewN ?_ _ | refine blk_drew ?_ | refine blk_alloc ?_ _)); exact BK187.out) hg (Kd.R_ne HO_5.out BK187.out (by decide))); have n1_ := Aside0.mk (blk_grown (g := gb192) (o := .cells #[.int .i64 ((rd_T52 l0 x11_1).f0), .int .i64 ((rd_T52 l0 x11_1).f1)] 52 (0, 0)) (by (with_reducible repeat (first | refine blk_drewN ?_ _ | refine blk_drew ?_ | refine blk_alloc ?_ _)); exact BK192.out) hg (Kd.R_ne HO_5.out BK192.out (by decide))); have n2_ := Aside0.mk (hb); have n3_ := Aside0.mk (ho); clear BK187; clear BK192; clear HB; clear HO_5; have BK187 := n0_; have BK192 := n1_; have HB := n2_; have HO196 := n3_; clear n0_ n1_ n2_ n3_; clear ho hb hg hat))
              go_roundg k1
              case measure => have := HK1.out; omega
              case rel => exact ⟨(y194), (wrap64 (x11_1 + 1)), (by first | rfl | (simp; done) | (simp [*]; done)), H', ⟨by have := HK1.out; omega⟩, ⟨by (with_reducible repeat (first | apply Kd.R_alloc | apply Kd.R_drewN | apply Kd.R_drew)); exact HO196.out⟩, ⟨by (with_reducible repeat (first | refine blk_drewN ?_ _ | refine blk_drew ?_ | refine blk_alloc ?_ _)); exact BK187.out⟩, ⟨by repeat (first | (with_reducible first | exact HB.out | apply below_alloc | apply pw_below_drewN | apply below_drew1 | refine below_set ?_ GE187.out | refine below_set ?_ GE192.out) | exact HB.out)⟩⟩
            · rw [if_neg c10] at H
              exact absurd H (by simp)
          · rw [if_neg c8] at H
            exact absurd H (by simp)
        · rw [if_neg c7] at H
          exact absurd H (by simp)
      · rw [if_neg c6] at H
        have c6b0 : decide (x11_1 < (l0.length : Int)) = false := decide_eq_false c6
        clear c6
        obtain rfl := Option.some.inj H
        go_wp2
        go_ret
        exact ⟨_, by first | rfl | (simp [errW_none, errW_some] <;> rfl) | (simp [*, errW_none, errW_some] <;> rfl), by (with_reducible repeat (first | apply Kd.R_alloc | apply Kd.R_drewN | apply Kd.R_drew)); exact HO_5.out, by repeat (first | (with_reducible first | exact HB.out | apply below_alloc | apply pw_below_drewN | apply below_drew1 | refine below_set ?_ GE187.out) | exact HB.out)⟩

end Go.Proofs.Ytkfbbaaniglaeaa.PFnExactUnderCap
end
section
namespace Go.Proofs.Ytkfbbaaniglaeaa.Mth
open Go.RowKit Go.Proofs.YtkfbbaaniglaeaaW.PrintWords Go.Proofs.YtkfbbaaniglaeaaW.PrintLast Go.Proofs.YtkfbbaaniglaeaaW.PrintMore
set_option linter.unusedVariables false
set_option linter.unusedSimpArgs false
theorem cosD_sym (a b c d : Int) : cosD c d a b = cosD a b c d := by
  unfold cosD cosV
  have e : Co (b - d) = Co (d - b) := by rw [← Co_neg (d - b)]; congr 1; omega
  rw [e, Int.mul_comm (S c) (S a), Int.mul_comm (Co c) (Co a)]
theorem dist_sym (a b c d : Int) : dist c d a b = dist a b c d := by
  unfold dist; rw [cosD_sym]
  by_cases h : a = c ∧ b = d
  · rw [if_pos h, if_pos ⟨h.1.symm, h.2.symm⟩]
  · rw [if_neg h, if_neg (fun e => h ⟨e.1.symm, e.2.symm⟩)]
theorem RDistanceOf_in {a b c d : Int} (h1 : sOk a b) (h2 : sOk c d) : RDistanceOf a b c d = (dist a b c d, 0) := if_pos ⟨h1, h2⟩
end Go.Proofs.Ytkfbbaaniglaeaa.Mth
end
section
namespace Go.Proofs.Ytkfbbaaniglaeaa.Con
open Go.RowKit Go.Proofs.YtkfbbaaniglaeaaW.PrintWords Go.Proofs.YtkfbbaaniglaeaaW.PrintLast Go.Proofs.YtkfbbaaniglaeaaW.PrintMore Go.Proofs.Ytkfbbaaniglaeaa.Mth
open Go.Proofs.Ytkfbbaaniglaeaa.PFnExactUnderCap (impl_distance.f impl_distancesFrom.f impl_distancesFrom.l0 rd_L3)
attribute [local go_sem] max2_int min2_int max_two min_two max_three min_three
set_option linter.unusedVariables false
set_option linter.unusedSimpArgs false
noncomputable def rowD (xs : List Sp) (a b : Int) (m : Nat) : List Int := (List.range m).map fun (j : Nat) => dist a b (rdS xs j).f0 (rdS xs j).f1
theorem rowD_len (xs : List Sp) (a b : Int) (m : Nat) : (rowD xs a b m).length = m := by simp [rowD]
theorem rowD_succ (xs : List Sp) (a b : Int) (m : Nat) : rowD xs a b (m + 1) = rowD xs a b m ++ [dist a b (rdS xs m).f0 (rdS xs m).f1] := by
  unfold rowD; rw [List.range_succ, List.map_append]; rfl
theorem rowD_rd (xs : List Sp) (a b : Int) (m : Nat) {j : Nat} (h : j < m) : rd (rowD xs a b m) (j : Int) = dist a b (rdS xs j).f0 (rdS xs j).f1 := by
  unfold rd rowD
  rw [List.getD_eq_getElem?_getD, List.getElem?_map, Int.toNat_natCast, List.getElem?_range h]; rfl
noncomputable def rowS (xs : List Sp) (i : Int) (m : Nat) : List Int := rowD xs (rdS xs i).f0 (rdS xs i).f1 m
noncomputable def tabS (xs : List Sp) (m : Nat) : List (List Int) := (List.range m).map fun (i : Nat) => rowS xs i xs.length
theorem tabS_len (xs : List Sp) (m : Nat) : (tabS xs m).length = m := by simp [tabS]
theorem tabS_succ (xs : List Sp) (m : Nat) : tabS xs (m + 1) = tabS xs m ++ [rowS xs m xs.length] := by
  unfold tabS; rw [List.range_succ, List.map_append]; rfl
theorem tabS_rd (xs : List Sp) (m : Nat) {i : Nat} (h : i < m) : rd_L3 (tabS xs m) (i : Int) = rowS xs i xs.length := by
  unfold rd_L3 tabS
  rw [List.getD_eq_getElem?_getD, List.getElem?_map, Int.toNat_natCast, List.getElem?_range h]; rfl
theorem from_0 {xs : List Sp} (hn : xs.length ≤ 12) (ho : okL xs) {a b : Int} (hab : sOk a b) (d : Nat) : ∀ (k j : Nat), j + d = xs.length → impl_distancesFrom.l0 (k + d + 1) (rowD xs a b j) xs (xs.length : Int) (j : Int) a b = some (rowD xs a b xs.length) := by
  induction d with
  | zero =>
    intro k j h
    rw [impl_distancesFrom.l0, if_neg (by omega), show j = xs.length by omega]
  | succ d ih =>
    intro k j h
    rw [show k + (d + 1) + 1 = (k + d + 1) + 1 by omega, impl_distancesFrom.l0, if_pos (by omega), if_pos (by omega), if_pos (by omega)]
    unfold impl_distance.f
    rw [if_pos ⟨hab, (okL_iff xs).1 ho j (by omega)⟩, Option.bind_some, if_pos (by rw [rowD_len]; omega), w64 (n := (j : Int) + 1) (by omega) (by omega), ← rowD_succ]
    exact ih k (j + 1) (by omega)
theorem from_f {xs : List Sp} (hn : xs.length ≤ 12) (ho : okL xs) {a b : Int} (hab : sOk a b) : impl_distancesFrom.f (xs.length + 1) xs a b = some (rowD xs a b xs.length) := by
  unfold impl_distancesFrom.f
  have q := from_0 hn ho hab xs.length 0 0 (by omega)
  rw [Nat.zero_add] at q
  exact q
noncomputable def RDistanceTable (xs : List Sp) : List (List Int) × Int := if codL xs 0 12 = 0 then (tabS xs xs.length, 0) else ([], codL xs 0 12)
theorem impl_distancesFrom_c {A : Option Addr} {n c : Nat} {xs : List Sp} {a b : Int} (w : World) (hr : Kd.C kSp w A n xs) (hc : n ≤ c) (hn : n ≤ 12) (ho : okL xs) (hab : sOk a b) : Calls Try.prog 117 #[.slice A n c, .agg #[.int .i64 a, .int .i64 b]] w fun e w' => ∃ v0_ : Value, e = .returned (v0_) ∧ Kd.R (Kd.int .i64) 2 w' w.heap.size (fun _ => True) v0_ (rowD xs a b n) ∧ Below w.heap.size w w' := by
  obtain rfl : xs.length = n := hr.1
  exact PFnExactUnderCap.impl_distancesFrom.calls (xs.length + 1) A c xs a b _ w hr hc (from_f hn ho hab)
end Go.Proofs.Ytkfbbaaniglaeaa.Con
end
section
namespace Go.Proofs.Ytkfbbaaniglaeaa.Con
open Go.RowKit Go.Proofs.YtkfbbaaniglaeaaW.PrintWords Go.Proofs.YtkfbbaaniglaeaaW.PrintLast Go.Proofs.YtkfbbaaniglaeaaW.PrintMore Go.Proofs.Ytkfbbaaniglaeaa.Mth
attribute [local go_sem] max2_int min2_int max_two min_two max_three min_three
set_option linter.unusedVariables false
set_option linter.unusedSimpArgs false
/-- The place of the nearest of the first n (the first of equals). -/
noncomputable def nearF (xs : List Sp) (a b : Int) : Nat → Int
  | 0 => 0
  | n + 1 => if dist (rdS xs n).f0 (rdS xs n).f1 a b < dist (rdS xs (nearF xs a b n)).f0 (rdS xs (nearF xs a b n)).f1 a b then n else nearF xs a b n
theorem nearF_bd (xs : List Sp) (a b : Int) (n : Nat) : 0 ≤ nearF xs a b n ∧ nearF xs a b n ≤ n := by
  induction n with
  | zero => exact ⟨Int.le_refl _, Int.le_refl _⟩
  | succ n ih => unfold nearF; split <;> omega
theorem nearF_lt (xs : List Sp) (a b : Int) (n : Nat) : nearF xs a b (n + 1) < n + 1 := by
  have := nearF_bd xs a b n
  unfold nearF; split <;> omega
noncomputable def RNearestSpot (xs : List Sp) (a b : Int) : Int × Int := if sOk a b then (if codL xs 1 12 = 0 then (nearF xs a b xs.length, 0) else (0, codL xs 1 12)) else (0, 1)
theorem cell_after {W0 w1 : World} {p : Addr} {v : Value} (hb : Below W0.heap.size W0 w1) (h : W0.cell? p = some v) : w1.cell? p = some v := (hb.cell (World.block_lt_of_cell? W0 _ h)).trans h
set_option maxHeartbeats 4000000 in
set_option maxRecDepth 100000 in
theorem impl_NearestSpot_c {A : Option Addr} {n c : Nat} {xs : List Sp} {a b : Int} (w : World) (hr : Kd.C kSp w A n xs) : Calls Try.prog 37 #[.slice A n c, .agg #[.int .i64 a, .int .i64 b]] w fun e w' => e = .returned (.tuple #[.int .i64 (RNearestSpot xs a b).1, .int .i64 (RNearestSpot xs a b).2]) ∧ Below w.heap.size w w' := by
  have hl := hr.1
  rcases dec (sOk a b) with ⟨ha, ba⟩ | ⟨ha, ba⟩
  · by_cases h : codL xs 1 12 = 0
    · obtain ⟨ho, h1, h2⟩ := codL_0 h
      have f := Aside0.mk (show RNearestSpot xs a b = (nearF xs a b n, 0) by unfold RNearestSpot; rw [if_pos ha, if_pos h, hl])
      have h := Aside0.mk h
      have ha := Aside0.mk ha
      have ho := Aside0.mk ((okL_iff xs).1 ho)
      have n1 : 1 ≤ n := by omega
      have n2 : n ≤ 12 := by omega
      have hl := Aside0.mk hl
      have hr := Aside0.mk hr
      clear h1 h2
      go_enter Try.func37, Try.ntmps37
      go_wp2_with (fail)
      refine (impl_ValidSpot_c ba.out _).mono ?_
      rintro e w1 ⟨rfl, hb⟩
      have BK := Aside0.mk (blk_below (blk_new w (.cells #[.int .i64 a, .int .i64 b] 52)) hb)
      have HB := Aside0.mk (show Below w.heap.size w w1 from below_step ( by repeat (first | (with_reducible first | exact Below.refl _ _ | apply below_alloc | apply pw_below_drewN | apply below_drew1 | (refine below_step ?_ (by assumption))) | exact Below.refl _ _) ) hb)
      clear hb
      go_wp2_with (fail)
      refine (impl_spotsCode_c _ (Kd.C_below hr.out HB.out) h.out).mono ?_
      rintro e w2 ⟨rfl, hb⟩
      have BK := Aside0.mk (blk_below BK.out hb)
      have HB := Aside0.mk (below_step HB.out hb)
      clear hb
      go_wp2_with (fail)
      go_loopw [7, 20] (fun u k wr => ∃ i : Nat, i ≤ n ∧ k = .int .i64 i ∧ u = .int .i64 (nearF xs a b i) ∧ wr.cell? ⟨w.heap.size, 0, none⟩ = some (.int .i64 a) ∧ wr.cell? ⟨w.heap.size, 1, none⟩ = some (.int .i64 b) ∧ w.heap.size < wr.heap.size ∧ Aside0 (Below w.heap.size w wr)) (fun _ k _ => ((n : Int) - intOf k).toNat)
      case atStart => exact ⟨0, by omega, rfl, rfl, (blk_cell BK.out 0).trans (by rfl), (blk_cell BK.out 1).trans (by rfl), blk_lt BK.out, HB⟩
      case round =>
        clear HB BK
        obtain ⟨i, hi, rfl, rfl, c0, c1, gl, HB⟩ := hrel
        obtain ⟨m0, m1⟩ := nearF_bd xs a b i
        by_cases hlt : i < n
        · have q := HB.out.size
          have hz : (i : Int) < (n : Int) := by omega
          obtain ⟨ad, e1, x0, x1⟩ := PFnExactUnderCap.at_T52 (Kd.C_below hr.out HB.out) (i : Int) (by omega) hz
          subst e1
          rw [Int.toNat_natCast] at x0 x1
          have g := Aside0.mk (show nearF xs a b (i + 1) = if dist (rdS xs i).f0 (rdS xs i).f1 a b < dist (rdS xs (nearF xs a b i)).f0 (rdS xs (nearF xs a b i)).f1 a b then (i : Int) else nearF xs a b i from rfl)
          generalize nearF xs a b i = m at *
          have s1 := Aside0.mk (ho.out i (by have := hl.out; omega))
          have s0 := Aside0.mk (show sOk (rdS xs m).f0 (rdS xs m).f1 by have := ho.out m.toNat (by have := hl.out; omega); rwa [Int.toNat_of_nonneg m0] at this)
          obtain ⟨ad', e2, y0, y1⟩ := PFnExactUnderCap.at_T52 (Kd.C_below hr.out HB.out) m m0 (by omega)
          obtain rfl : ad = ad' := by injection e2
          clear e2
          have m2 : m < n := by omega
          have ad_l := sp_lt (Kd.C_below hr.out HB.out) (by omega)
          have BA : Below wr.heap.size wr (wr.alloc (.cells #[.int .i64 (rdS xs i).f0, .int .i64 (rdS xs i).f1] 52)).drew := below_drew1 (below_alloc (Below.refl wr.heap.size wr) _)
          have i0 : (wr.alloc (.cells #[.int .i64 (rdS xs i).f0, .int .i64 (rdS xs i).f1] 52)).drew.cell? (⟨wr.heap.size, 0, none⟩) = some (.int .i64 ((rdS xs i).f0)) := (blk_cell (blk_new wr (.cells #[.int .i64 ((rdS xs i).f0), .int .i64 ((rdS xs i).f1)] 52)) 0).trans (by rfl)
          have i1 : (wr.alloc (.cells #[.int .i64 (rdS xs i).f0, .int .i64 (rdS xs i).f1] 52)).drew.cell? (⟨wr.heap.size, 1, none⟩) = some (.int .i64 ((rdS xs i).f1)) := (blk_cell (blk_new wr (.cells #[.int .i64 ((rdS xs i).f0), .int .i64 ((rdS xs i).f1)] 52)) 1).trans (by rfl)
          have i2 : (wr.alloc (.cells #[.int .i64 (rdS xs i).f0, .int .i64 (rdS xs i).f1] 52)).drew.cell? (⟨w.heap.size, 0, none⟩) = some (.int .i64 (a)) := cell_after BA (c0)
          have i3 : (wr.alloc (.cells #[.int .i64 (rdS xs i).f0, .int .i64 (rdS xs i).f1] 52)).drew.cell? (⟨w.heap.size, 1, none⟩) = some (.int .i64 (b)) := cell_after BA (c1)
          have i4 : (wr.alloc (.cells #[.int .i64 (rdS xs i).f0, .int .i64 (rdS xs i).f1] 52)).drew.cell? (ad.add (m.toNat * 2)) = some (.int .i64 ((rdS xs m).f0)) := cell_after BA (y0)
          have i5 : (wr.alloc (.cells #[.int .i64 (rdS xs i).f0, .int .i64 (rdS xs i).f1] 52)).drew.cell? (⟨(ad.add (m.toNat * 2)).block, (ad.add (m.toNat * 2)).off + 1, none⟩) = some (.int .i64 ((rdS xs m).f1)) := cell_after BA (y1)
          have LB : wr.heap.size + 1 ≤ (wr.alloc (.cells #[.int .i64 (rdS xs i).f0, .int .i64 (rdS xs i).f1] 52)).drew.heap.size := by first | (simp; done) | (simp; omega) | exact Nat.le_refl _
          go_wp2_with (fail)
          go_region_held3 (fun W => W.cell? (⟨wr.heap.size, 0, none⟩) = some (.int .i64 ((rdS xs i).f0)) ∧ W.cell? (⟨wr.heap.size, 1, none⟩) = some (.int .i64 ((rdS xs i).f1)) ∧ W.cell? (⟨w.heap.size, 0, none⟩) = some (.int .i64 (a)) ∧ W.cell? (⟨w.heap.size, 1, none⟩) = some (.int .i64 (b)) ∧ W.cell? (ad.add (m.toNat * 2)) = some (.int .i64 ((rdS xs m).f0)) ∧ W.cell? (⟨(ad.add (m.toNat * 2)).block, (ad.add (m.toNat * 2)).off + 1, none⟩) = some (.int .i64 ((rdS xs m).f1)) ∧ Below wr.heap.size wr W ∧ wr.heap.size + 1 ≤ W.heap.size) (first | ((try go_split_ands); refine ⟨?_, ?_, ?_, ?_, ?_, ?_, ?_, ?_⟩; (first | (with_reducible exact cell_after hb (by with_reducible assumption)) | (with_reducible exact cell_after hb i0) | (with_reducible exact i0) | exact cell_after hb i0 | go_keep); (first | (with_reducible exact cell_after hb (by with_reducible assumption)) | (with_reducible exact cell_after hb i1) | (with_reducible exact i1) | exact cell_after hb i1 | go_keep); (first | (with_reducible exact cell_after hb (by with_reducible assumption)) | (with_reducible exact cell_after hb i2) | (with_reducible exact i2) | exact cell_after hb i2 | go_keep); (first | (with_reducible exact cell_after hb (by with_reducible assumption)) | (with_reducible exact cell_after hb i3) | (with_reducible exact i3) | exact cell_after hb i3 | go_keep); (first | (with_reducible exact cell_after hb (by with_reducible assumption)) | (with_reducible exact cell_after hb i4) | (with_reducible exact i4) | exact cell_after hb i4 | go_keep); (first | (with_reducible exact cell_after hb (by with_reducible assumption)) | (with_reducible exact cell_after hb i5) | (with_reducible exact i5) | exact cell_after hb i5 | go_keep); (first | (with_reducible exact below_step (by with_reducible assumption) hb) | (with_reducible exact below_step BA hb) | (with_reducible exact BA) | exact below_step BA hb | go_keep); (first | (with_reducible exact LB) | (have := hb.size; omega) | (have := hb.size; simp at this; omega) | go_keep)) | go_keep) (first | (go_at_call 134; (first | (with_reducible refine (impl_distance_c s1.out ha.out _).mono ?_) | (with_reducible refine (impl_distance_c s0.out ha.out _).mono ?_)); rintro e w1 ⟨rfl, hb⟩))
          all_goals have HB := Aside0.mk (below_step HB.out (show Below wr.heap.size wr _ by (go_split_ands; assumption)))
          by_cases lt : dist (rdS xs i).f0 (rdS xs i).f1 a b < dist (rdS xs m).f0 (rdS xs m).f1 a b
          · have g2 := Aside0.mk (show nearF xs a b (i + 1) = i by rw [g.out, if_pos lt])
            go_wp2
            go_roundw
            case rel => exact ⟨i + 1, by omega, by go_num, by rw [g2.out], by (go_split_ands; assumption), by (go_split_ands; assumption), by (go_split_ands; omega), HB⟩
            case measure => simp [intOf]; omega
          · have g2 := Aside0.mk (show nearF xs a b (i + 1) = m by rw [g.out, if_neg lt])
            go_wp2
            go_roundw
            case rel => exact ⟨i + 1, by omega, by go_num, by rw [g2.out], by (go_split_ands; assumption), by (go_split_ands; assumption), by (go_split_ands; omega), HB⟩
            case measure => simp [intOf]; omega
        · have e : i = n := by omega
          subst e
          have hz : ¬ (i : Int) < (i : Int) := by omega
          go_wp2
          go_ret2
          exact ⟨pair_eq f.out, HB.out⟩
    · have f := Aside0.mk (show RNearestSpot xs a b = (0, codL xs 1 12) by unfold RNearestSpot; rw [if_pos ha, if_neg h])
      have q : (codL xs 1 12 == 0) = false := by simp [h]
      have hr := Aside0.mk hr
      clear hl h ha
      go_enter Try.func37, Try.ntmps37
      go_wp2_with (fail)
      refine (impl_ValidSpot_c ba.out _).mono ?_
      rintro e w1 ⟨rfl, hb⟩
      have HB := Aside0.mk (show Below w.heap.size w w1 from below_step ( by repeat (first | (with_reducible first | exact Below.refl _ _ | apply below_alloc | apply pw_below_drewN | apply below_drew1 | (refine below_step ?_ (by assumption))) | exact Below.refl _ _) ) hb)
      clear hb
      go_wp2_with (fail)
      refine (impl_spotsCode_c _ (Kd.C_below hr.out HB.out) rfl).mono ?_
      rintro e w2 ⟨rfl, hb⟩
      have HB := Aside0.mk (below_step HB.out hb)
      clear hb
      go_wp2
      go_ret2
      exact ⟨pair_eq f.out, HB.out⟩
  · have f := Aside0.mk (show RNearestSpot xs a b = (0, 1) from if_neg ha)
    have hr := Aside0.mk hr
    clear hl ha
    go_enter Try.func37, Try.ntmps37
    go_wp2_with (fail)
    refine (impl_ValidSpot_c ba.out _).mono ?_
    rintro e w1 ⟨rfl, hb⟩
    have HB := Aside0.mk (show Below w.heap.size w w1 from below_step ( by repeat (first | (with_reducible first | exact Below.refl _ _ | apply below_alloc | apply pw_below_drewN | apply below_drew1 | (refine below_step ?_ (by assumption))) | exact Below.refl _ _) ) hb)
    clear hb
    go_wp2
    go_ret2
    exact ⟨pair_eq f.out, HB.out⟩
end Go.Proofs.Ytkfbbaaniglaeaa.Con
end
section
namespace Go.Proofs.Ytkfbbaaniglaeaa.Con
open Go.RowKit Go.Proofs.YtkfbbaaniglaeaaW.PrintWords Go.Proofs.YtkfbbaaniglaeaaW.PrintLast Go.Proofs.YtkfbbaaniglaeaaW.PrintMore Go.Proofs.Ytkfbbaaniglaeaa.Mth
attribute [local go_sem] max2_int min2_int max_two min_two max_three min_three
set_option linter.unusedVariables false
set_option linter.unusedSimpArgs false
noncomputable def dS (xs : List Sp) (i j : Int) : Int := dist (rdS xs i).f0 (rdS xs i).f1 (rdS xs j).f0 (rdS xs j).f1
/-- The farthest pair of those known and of place i with the d places behind it. -/
noncomputable def fpI (xs : List Sp) (i : Int) (s : Int × Int) : Nat → Int × Int
  | 0 => s
  | d + 1 => if dS xs (fpI xs i s d).1 (fpI xs i s d).2 < dS xs i (i + 1 + d) then (i, i + 1 + d) else fpI xs i s d
noncomputable def fpO (xs : List Sp) (n : Nat) : Nat → Int × Int
  | 0 => (0, 1)
  | i + 1 => fpI xs i (fpO xs n i) (n - 1 - i)
def Pin (n : Nat) (s : Int × Int) : Prop := 0 ≤ s.1 ∧ s.1 < n ∧ 0 ≤ s.2 ∧ s.2 < n
theorem fpI_in (xs : List Sp) {n : Nat} {i : Nat} {s : Int × Int} (hs : Pin n s) (d : Nat) (hd : i + d < n) : Pin n (fpI xs i s d) := by
  induction d with
  | zero => exact hs
  | succ d ih =>
    have j := ih (by omega)
    unfold fpI
    split
    · exact ⟨by show (0 : Int) ≤ i; omega, by show (i : Int) < n; omega, by show (0 : Int) ≤ (i : Int) + 1 + d; omega, by show (i : Int) + 1 + d < n; omega⟩
    · exact j
theorem fpO_in (xs : List Sp) {n : Nat} (hn : 2 ≤ n) (i : Nat) (hi : i ≤ n) : Pin n (fpO xs n i) := by
  induction i with
  | zero => exact ⟨by show (0 : Int) ≤ 0; omega, by show (0 : Int) < n; omega, by show (0 : Int) ≤ 1; omega, by show (1 : Int) < n; omega⟩
  | succ i ih => exact fpI_in xs (ih (by omega)) _ (by omega)
theorem fpI_step (xs : List Sp) (i : Int) (s : Int × Int) (d : Nat) : fpI xs i s (d + 1) = if dS xs (fpI xs i s d).1 (fpI xs i s d).2 < dS xs i (i + 1 + d) then (i, i + 1 + d) else fpI xs i s d := rfl
noncomputable def RFarthestPair (xs : List Sp) : Int × Int × Int := if codL xs 2 12 = 0 then ((fpO xs xs.length xs.length).1, (fpO xs xs.length xs.length).2, 0) else (0, 0, codL xs 2 12)
theorem triple_eq2 {a b c : Int} {p : Int × Int × Int} (h : p = (a, b, c)) : Ending.returned (.tuple #[.int .i64 a, .int .i64 b, .int .i64 c]) = .returned (.tuple #[.int .i64 p.1, .int .i64 p.2.1, .int .i64 p.2.2]) := by rw [h]
set_option maxHeartbeats 4000000 in
set_option maxRecDepth 100000 in
theorem impl_FarthestPair_c {A : Option Addr} {n c : Nat} {xs : List Sp} (w : World) (hr : Kd.C kSp w A n xs) : Calls Try.prog 43 #[.slice A n c] w fun e w' => e = .returned (.tuple #[.int .i64 (RFarthestPair xs).1, .int .i64 (RFarthestPair xs).2.1, .int .i64 (RFarthestPair xs).2.2]) ∧ Below w.heap.size w w' := by
  have hl : xs.length = n := hr.1
  have hr := Aside0.mk hr
  by_cases h : codL xs 2 12 = 0
  · obtain ⟨ho, h1, h2⟩ := codL_0 h
    have f := Aside0.mk (show RFarthestPair xs = ((fpO xs n n).1, (fpO xs n n).2, 0) by unfold RFarthestPair; rw [if_pos h, hl])
    have h := Aside0.mk h
    have ho := Aside0.mk ((okL_iff xs).1 ho)
    have n1 : 2 ≤ n := by omega
    have n2 : n ≤ 12 := by omega
    have hl := Aside0.mk hl
    clear h1 h2
    go_enter Try.func43, Try.ntmps43
    go_wp2_with (fail)
    refine (impl_spotsCode_c _ hr.out h.out).mono ?_
    rintro e w1 ⟨rfl, hb⟩
    have HB := Aside0.mk (show Below w.heap.size w w1 from below_step ( by repeat (first | (with_reducible first | exact Below.refl _ _ | apply below_alloc | apply pw_below_drewN | apply below_drew1 | (refine below_step ?_ (by assumption))) | exact Below.refl _ _) ) hb)
    clear hb
    go_wp2_with (fail)
    go_loopw [6, 7, 18] (fun p q k wr => ∃ i : Nat, i ≤ n ∧ k = .int .i64 i ∧ p = .int .i64 (fpO xs n i).1 ∧ q = .int .i64 (fpO xs n i).2 ∧ Aside0 (Below w.heap.size w wr)) (fun _ _ k _ => ((n : Int) - intOf k).toNat)
    case atStart => exact ⟨0, by omega, rfl, rfl, rfl, HB⟩
    case round =>
      clear HB
      obtain ⟨i, hi, rfl, rfl, rfl, HB⟩ := hrel
      obtain ⟨V, rfl⟩ : ∃ V, V = wr := ⟨wr, rfl⟩
      by_cases hlt : i < n
      · have hz : (i : Int) < (n : Int) := by omega
        obtain ⟨ad, e1, x0, x1⟩ := PFnExactUnderCap.at_T52 (Kd.C_below hr.out HB.out) (i : Int) (by omega) hz
        subst e1
        rw [Int.toNat_natCast] at x0 x1
        have P := fpO_in xs n1 i hi
        have gO := Aside0.mk (show fpO xs n (i + 1) = fpI xs i (fpO xs n i) (n - 1 - i) from rfl)
        generalize fpO xs n i = s at *
        have si := Aside0.mk (ho.out i (by have := hl.out; omega))
        have P := Aside0.mk P
        have x0 := Aside0.mk x0
        have x1 := Aside0.mk x1
        have x0 := x0.out
        have x1 := x1.out
        go_wp2_with (fail)
        go_loopw [6, 7, 10] (fun p q k wi => ∃ d : Nat, i + 1 + d ≤ n ∧ k = .int .i64 (i + 1 + d : Nat) ∧ p = .int .i64 (fpI xs i s d).1 ∧ q = .int .i64 (fpI xs i s d).2 ∧ wi.cell? ⟨V.heap.size, 0, none⟩ = some (.int .i64 (rdS xs i).f0) ∧ wi.cell? ⟨V.heap.size, 1, none⟩ = some (.int .i64 (rdS xs i).f1) ∧ V.heap.size < wi.heap.size ∧ w.heap.size ≤ V.heap.size ∧ Aside0 (Below w.heap.size w wi)) (fun _ _ k _ => ((n : Int) - intOf k).toNat)
        case atStart =>
          skip
          exact ⟨0, by omega, by go_num, rfl, rfl, (blk_cell (blk_new V (.cells #[.int .i64 (rdS xs i).f0, .int .i64 (rdS xs i).f1] 52)) 0).trans (by rfl), (blk_cell (blk_new V (.cells #[.int .i64 (rdS xs i).f0, .int .i64 (rdS xs i).f1] 52)) 1).trans (by rfl), by simp, HB.out.size, ⟨by repeat (first | (with_reducible first | exact HB.out | apply below_alloc | apply pw_below_drewN | apply below_drew1) | exact HB.out)⟩⟩
        case round =>
          clear HB x0 x1
          obtain ⟨d, hd, rfl, rfl, rfl, z0, z1, gl, gw, HB⟩ := hrel
          by_cases hdn : i + 1 + d < n
          · have P2 := fpI_in xs (i := i) P.out d (by omega)
            have gI := Aside0.mk (fpI_step xs i s d)
            generalize fpI xs i s d = t at *
            obtain ⟨a, b⟩ := t
            obtain ⟨a0, a1, b0, b1⟩ := P2
            have a0 : 0 ≤ a := a0
            have a1 : a < n := a1
            have b0 : 0 ≤ b := b0
            have b1 : b < n := b1
            have kz : (i : Int) + 1 + d < n := by omega
            have kz0 : (0 : Int) ≤ (i : Int) + 1 + d := by omega
            obtain ⟨ad1, e2, x0, x1⟩ := PFnExactUnderCap.at_T52 (Kd.C_below hr.out HB.out) (i : Int) (by omega) (by omega)
            obtain rfl : ad = ad1 := by injection e2
            obtain ⟨ad2, e3, y0, y1⟩ := PFnExactUnderCap.at_T52 (Kd.C_below hr.out HB.out) ((i : Int) + 1 + d) (by omega) kz
            obtain rfl : ad = ad2 := by injection e3
            obtain ⟨ad3, e4, u0, u1⟩ := PFnExactUnderCap.at_T52 (Kd.C_below hr.out HB.out) a a0 a1
            obtain rfl : ad = ad3 := by injection e4
            obtain ⟨ad4, e5, v0, v1⟩ := PFnExactUnderCap.at_T52 (Kd.C_below hr.out HB.out) b b0 b1
            obtain rfl : ad = ad4 := by injection e5
            clear e2 e3 e4 e5
            rw [Int.toNat_natCast] at x0 x1
            have sk := Aside0.mk (show sOk (rdS xs ((i : Int) + 1 + d)).f0 (rdS xs ((i : Int) + 1 + d)).f1 by have := ho.out (i + 1 + d) (by have := hl.out; omega); rwa [show ((i + 1 + d : Nat) : Int) = ((i : Int) + 1 + d) by omega] at this)
            have sa := Aside0.mk (show sOk (rdS xs a).f0 (rdS xs a).f1 by have := ho.out a.toNat (by have := hl.out; omega); rwa [Int.toNat_of_nonneg a0] at this)
            have sb := Aside0.mk (show sOk (rdS xs b).f0 (rdS xs b).f1 by have := ho.out b.toNat (by have := hl.out; omega); rwa [Int.toNat_of_nonneg b0] at this)
            have ad_l := sp_lt (Kd.C_below hr.out HB.out) (by omega)
            have q := HB.out.size
            have BA : Below wr.heap.size wr wr.drew := below_drew1 (Below.refl wr.heap.size wr)
            have i0 : wr.drew.cell? (⟨V.heap.size, 0, none⟩) = some (.int .i64 ((rdS xs i).f0)) := cell_after BA (z0)
            have i1 : wr.drew.cell? (⟨V.heap.size, 1, none⟩) = some (.int .i64 ((rdS xs i).f1)) := cell_after BA (z1)
            have i2 : wr.drew.cell? (ad.add (((i : Int) + 1 + d).toNat * 2)) = some (.int .i64 ((rdS xs ((i : Int) + 1 + d)).f0)) := cell_after BA (y0)
            have i3 : wr.drew.cell? (⟨(ad.add (((i : Int) + 1 + d).toNat * 2)).block, (ad.add (((i : Int) + 1 + d).toNat * 2)).off + 1, none⟩) = some (.int .i64 ((rdS xs ((i : Int) + 1 + d)).f1)) := cell_after BA (y1)
            have i4 : wr.drew.cell? (ad.add (a.toNat * 2)) = some (.int .i64 ((rdS xs a).f0)) := cell_after BA (u0)
            have i5 : wr.drew.cell? (⟨(ad.add (a.toNat * 2)).block, (ad.add (a.toNat * 2)).off + 1, none⟩) = some (.int .i64 ((rdS xs a).f1)) := cell_after BA (u1)
            have i6 : wr.drew.cell? (ad.add (b.toNat * 2)) = some (.int .i64 ((rdS xs b).f0)) := cell_after BA (v0)
            have i7 : wr.drew.cell? (⟨(ad.add (b.toNat * 2)).block, (ad.add (b.toNat * 2)).off + 1, none⟩) = some (.int .i64 ((rdS xs b).f1)) := cell_after BA (v1)
            have LB : wr.heap.size ≤ wr.drew.heap.size := by first | (simp; done) | (simp; omega) | exact Nat.le_refl _
            have kc : ((i + 1 + d : Nat) : Int) = (i : Int) + 1 + d := by omega
            go_wp2_with (fail)
            go_region_held3 (fun W => W.cell? (⟨V.heap.size, 0, none⟩) = some (.int .i64 ((rdS xs i).f0)) ∧ W.cell? (⟨V.heap.size, 1, none⟩) = some (.int .i64 ((rdS xs i).f1)) ∧ W.cell? (ad.add (((i : Int) + 1 + d).toNat * 2)) = some (.int .i64 ((rdS xs ((i : Int) + 1 + d)).f0)) ∧ W.cell? (⟨(ad.add (((i : Int) + 1 + d).toNat * 2)).block, (ad.add (((i : Int) + 1 + d).toNat * 2)).off + 1, none⟩) = some (.int .i64 ((rdS xs ((i : Int) + 1 + d)).f1)) ∧ W.cell? (ad.add (a.toNat * 2)) = some (.int .i64 ((rdS xs a).f0)) ∧ W.cell? (⟨(ad.add (a.toNat * 2)).block, (ad.add (a.toNat * 2)).off + 1, none⟩) = some (.int .i64 ((rdS xs a).f1)) ∧ W.cell? (ad.add (b.toNat * 2)) = some (.int .i64 ((rdS xs b).f0)) ∧ W.cell? (⟨(ad.add (b.toNat * 2)).block, (ad.add (b.toNat * 2)).off + 1, none⟩) = some (.int .i64 ((rdS xs b).f1)) ∧ Below wr.heap.size wr W ∧ wr.heap.size ≤ W.heap.size) (first | ((try go_split_ands); refine ⟨?_, ?_, ?_, ?_, ?_, ?_, ?_, ?_, ?_, ?_⟩; (first | (with_reducible exact cell_after hb (by with_reducible assumption)) | (with_reducible exact cell_after hb i0) | (with_reducible exact i0) | exact cell_after hb i0 | go_keep); (first | (with_reducible exact cell_after hb (by with_reducible assumption)) | (with_reducible exact cell_after hb i1) | (with_reducible exact i1) | exact cell_after hb i1 | go_keep); (first | (with_reducible exact cell_after hb (by with_reducible assumption)) | (with_reducible exact cell_after hb i2) | (with_reducible exact i2) | exact cell_after hb i2 | go_keep); (first | (with_reducible exact cell_after hb (by with_reducible assumption)) | (with_reducible exact cell_after hb i3) | (with_reducible exact i3) | exact cell_after hb i3 | go_keep); (first | (with_reducible exact cell_after hb (by with_reducible assumption)) | (with_reducible exact cell_after hb i4) | (with_reducible exact i4) | exact cell_after hb i4 | go_keep); (first | (with_reducible exact cell_after hb (by with_reducible assumption)) | (with_reducible exact cell_after hb i5) | (with_reducible exact i5) | exact cell_after hb i5 | go_keep); (first | (with_reducible exact cell_after hb (by with_reducible assumption)) | (with_reducible exact cell_after hb i6) | (with_reducible exact i6) | exact cell_after hb i6 | go_keep); (first | (with_reducible exact cell_after hb (by with_reducible assumption)) | (with_reducible exact cell_after hb i7) | (with_reducible exact i7) | exact cell_after hb i7 | go_keep); (first | (with_reducible exact below_step (by with_reducible assumption) hb) | (with_reducible exact below_step BA hb) | (with_reducible exact BA) | exact below_step BA hb | go_keep); (first | (with_reducible exact LB) | (have := hb.size; omega) | (have := hb.size; simp at this; omega) | go_keep)) | go_keep) (first | (go_at_call 134; (first | (with_reducible refine (impl_distance_c si.out sk.out _).mono ?_) | (with_reducible refine (impl_distance_c sa.out sb.out _).mono ?_)); rintro e w1 ⟨rfl, hb⟩))
            all_goals have HB := Aside0.mk (below_step HB.out (show Below wr.heap.size wr _ by (go_split_ands; assumption)))
            by_cases lt : dist (rdS xs a).f0 (rdS xs a).f1 (rdS xs b).f0 (rdS xs b).f1 < dist (rdS xs i).f0 (rdS xs i).f1 (rdS xs ((i : Int) + 1 + d)).f0 (rdS xs ((i : Int) + 1 + d)).f1
            · have g2 := Aside0.mk (show fpI xs i s (d + 1) = ((i : Int), (i : Int) + 1 + d) by rw [gI.out]; exact if_pos lt)
              go_wp2
              go_roundw
              case rel => exact ⟨d + 1, by omega, by go_num, by rw [g2.out], by rw [g2.out]; try go_num, by (go_split_ands; assumption), by (go_split_ands; assumption), by (go_split_ands; omega), gw, HB⟩
              case measure => simp [intOf]; omega
            · have g2 := Aside0.mk (show fpI xs i s (d + 1) = (a, b) by rw [gI.out]; exact if_neg lt)
              go_wp2
              go_roundw
              case rel => exact ⟨d + 1, by omega, by go_num, by rw [g2.out], by rw [g2.out], by (go_split_ands; assumption), by (go_split_ands; assumption), by (go_split_ands; omega), gw, HB⟩
              case measure => simp [intOf]; omega
          · have ed : n - 1 - i = d := by omega
            rw [ed] at gO
            have hz2 : ¬ ((i + 1 + d : Nat) : Int) < (n : Int) := by omega
            go_wp2
            go_roundw
            case rel => exact ⟨i + 1, by omega, by go_num, by rw [gO.out], by rw [gO.out], ⟨by first | exact HB.out | (repeat (first | (with_reducible first | exact HB.out | apply below_alloc | apply pw_below_drewN | apply below_drew1) | exact HB.out))⟩⟩
            case measure => simp [intOf]; omega
      · have e : i = n := by omega
        subst e
        have hz : ¬ (i : Int) < (i : Int) := by omega
        go_wp2
        go_ret3
        exact ⟨triple_eq2 f.out, HB.out⟩
  · have f := Aside0.mk (show RFarthestPair xs = (0, 0, codL xs 2 12) from if_neg h)
    have q : (codL xs 2 12 == 0) = false := by simp [h]
    clear hl h
    go_enter Try.func43, Try.ntmps43
    go_wp2_with (fail)
    refine (impl_spotsCode_c _ hr.out rfl).mono ?_
    rintro e w1 ⟨rfl, hb⟩
    have HB := Aside0.mk (show Below w.heap.size w w1 from below_step ( by repeat (first | (with_reducible first | exact Below.refl _ _ | apply below_alloc | apply pw_below_drewN | apply below_drew1 | (refine below_step ?_ (by assumption))) | exact Below.refl _ _) ) hb)
    clear hb
    go_wp2
    go_ret3
    exact ⟨triple_eq2 f.out, HB.out⟩
end Go.Proofs.Ytkfbbaaniglaeaa.Con
end
section
namespace Go.Proofs.Ytkfbbaaniglaeaa.Con
open Go.RowKit Go.Proofs.YtkfbbaaniglaeaaW.PrintWords Go.Proofs.YtkfbbaaniglaeaaW.PrintLast Go.Proofs.YtkfbbaaniglaeaaW.PrintMore Go.Proofs.Ytkfbbaaniglaeaa.Mth
attribute [local go_sem] max2_int min2_int max_two min_two max_three min_three
set_option linter.unusedVariables false
set_option linter.unusedSimpArgs false
/-- The greatest of the first m distances of place i. -/
noncomputable def mxD (xs : List Sp) (i : Int) : Nat → Int
  | 0 => 0
  | m + 1 => if dist (rdS xs i).f0 (rdS xs i).f1 (rdS xs m).f0 (rdS xs m).f1 < mxD xs i m then mxD xs i m else dist (rdS xs i).f0 (rdS xs i).f1 (rdS xs m).f0 (rdS xs m).f1
theorem mxD_bd (xs : List Sp) (i : Int) (m : Nat) : 0 ≤ mxD xs i m ∧ mxD xs i m ≤ 648000 := by
  induction m with
  | zero => exact ⟨Int.le_refl _, by show (0 : Int) ≤ 648000; omega⟩
  | succ m ih =>
    have := dist_bd (rdS xs i).f0 (rdS xs i).f1 (rdS xs m).f0 (rdS xs m).f1
    unfold mxD; split <;> omega
/-- The middle place of the first m, and its greatest distance; -1 where there is none yet. -/
noncomputable def msD (xs : List Sp) : Nat → Int × Int
  | 0 => (0, -1)
  | m + 1 => if (msD xs m).2 < 0 ∨ mxD xs m xs.length < (msD xs m).2 then ((m : Int), mxD xs m xs.length) else msD xs m
noncomputable def RMiddleSpot (xs : List Sp) : Int × Int × Int := if codL xs 1 12 = 0 then ((msD xs xs.length).1, (msD xs xs.length).2, 0) else (0, 0, codL xs 1 12)
def maxI (l : List Int) : Nat → Int
  | 0 => rd l 0
  | m + 1 => if maxI l m < rd l m then rd l m else maxI l m
theorem maxI_1 (l : List Int) : maxI l 1 = rd l 0 := by show (if rd l 0 < rd l ((0 : Nat) : Int) then _ else rd l 0) = _; split <;> rfl
theorem maxI_row (xs : List Sp) (i : Int) (m : Nat) : ∀ j : Nat, j < m → maxI (rowS xs i m) (j + 1) = mxD xs i (j + 1) := by
  intro j
  induction j with
  | zero =>
    intro h
    rw [maxI_1, show (0 : Int) = ((0 : Nat) : Int) from rfl]
    unfold rowS
    rw [rowD_rd _ _ _ _ h]
    exact (if_neg (Int.not_lt.2 (dist_bd _ _ _ _).1)).symm
  | succ j ih =>
    intro h
    have q := ih (by omega)
    have e : rd (rowS xs i m) ((j + 1 : Nat) : Int) = dist (rdS xs i).f0 (rdS xs i).f1 (rdS xs ((j + 1 : Nat) : Int)).f0 (rdS xs ((j + 1 : Nat) : Int)).f1 := by unfold rowS; rw [rowD_rd _ _ _ _ h]
    show (if maxI (rowS xs i m) (j + 1) < rd (rowS xs i m) ((j + 1 : Nat) : Int) then _ else _) = (if _ < mxD xs i (j + 1) then _ else _)
    rw [q, e]
    split <;> split <;> omega
noncomputable def imD (xs : List Sp) : Nat → Int × Int
  | 0 => (-1, 0)
  | m + 1 => if (imD xs m).1 < 0 ∨ mxD xs m xs.length < (imD xs m).2 then ((m : Int), mxD xs m xs.length) else imD xs m
theorem msD_nn (xs : List Sp) (m : Nat) : 0 ≤ (msD xs (m + 1)).1 ∧ (msD xs (m + 1)).1 ≤ m ∧ 0 ≤ (msD xs (m + 1)).2 ∧ (msD xs (m + 1)).2 ≤ 648000 := by
  induction m with
  | zero =>
    have d := mxD_bd xs 0 xs.length
    have e : msD xs 1 = (0, mxD xs 0 xs.length) := if_pos (Or.inl (by show (-1 : Int) < 0; omega))
    rw [e]; exact ⟨by show (0 : Int) ≤ 0; omega, by show (0 : Int) ≤ 0; omega, d⟩
  | succ m ih =>
    have d := mxD_bd xs ((m + 1 : Nat) : Int) xs.length
    unfold msD
    split
    · exact ⟨by show (0 : Int) ≤ ((m + 1 : Nat) : Int); omega, by show ((m + 1 : Nat) : Int) ≤ ((m + 1 : Nat) : Int); omega, d⟩
    · omega
theorem imD_ms (xs : List Sp) (m : Nat) : imD xs (m + 1) = msD xs (m + 1) := by
  induction m with
  | zero =>
    rw [show imD xs 1 = (0, mxD xs 0 xs.length) from if_pos (Or.inl (by show (-1 : Int) < 0; omega))]
    exact (if_pos (Or.inl (by show (-1 : Int) < 0; omega))).symm
  | succ m ih =>
    have b := msD_nn xs m
    show (if (imD xs (m + 1)).1 < 0 ∨ _ < (imD xs (m + 1)).2 then _ else imD xs (m + 1)) = (if (msD xs (m + 1)).2 < 0 ∨ _ < (msD xs (m + 1)).2 then _ else msD xs (m + 1))
    rw [ih]
    by_cases z : mxD xs ((m + 1 : Nat) : Int) xs.length < (msD xs (m + 1)).2
    · rw [if_pos (Or.inr z), if_pos (Or.inr z)]
    · rw [if_neg (by omega), if_neg (by omega)]
theorem imD_bd (xs : List Sp) (m : Nat) : -1 ≤ (imD xs m).1 ∧ (imD xs m).1 < m + 1 ∧ 0 ≤ (imD xs m).2 ∧ (imD xs m).2 ≤ 648000 := by
  cases m with
  | zero => exact ⟨by show (-1 : Int) ≤ -1; omega, by show (-1 : Int) < 0 + 1; omega, by show (0 : Int) ≤ 0; omega, by show (0 : Int) ≤ 648000; omega⟩
  | succ m => rw [imD_ms]; have := msD_nn xs m; omega
theorem add0 (a : Addr) : a.add 0 = a := by unfold Addr.add; split <;> simp_all
theorem Max_c {A : Option Addr} {n c : Nat} {xs : List Int} (w : World) (hr : Kd.C (Kd.int .i64) w A n xs) (h1 : 1 ≤ n) (h2 : n ≤ 1000) : Calls Try.prog 135 #[.slice A n c] w fun e w' => e = .returned (.int .i64 (maxI xs n)) ∧ Below w.heap.size w w' := by
  have hl := hr.1
  obtain ⟨ad, e1, x0⟩ := Kd.at_int hr 0 (by omega) (by omega)
  subst e1
  have x0 : w.cell? ad = some (.int .i64 (rd xs 0)) := by have x0 : w.cell? (ad.add 0) = _ := x0; rwa [add0] at x0
  have hr := Aside0.mk hr
  have hl := Aside0.mk hl
  have HB := Aside0.mk (Below.refl w.heap.size w)
  have q1 : ¬ (n : Int) < 1 := by omega
  have q0 : (0 : Int) < n := by omega
  go_enter Try.func135, Try.ntmps135
  go_wp2_with (fail)
  go_loopw [3, 4] (fun u k wr => ∃ i : Nat, 1 ≤ i ∧ i ≤ n ∧ k = .int .i64 i ∧ u = .int .i64 (maxI xs i) ∧ Aside0 (Below w.heap.size w wr)) (fun _ k _ => ((n : Int) - intOf k).toNat)
  case atStart => exact ⟨1, by omega, by omega, rfl, by rw [maxI_1], ⟨by repeat (first | (with_reducible first | exact HB.out | apply below_alloc | apply pw_below_drewN | apply below_drew1) | exact HB.out)⟩⟩
  case round =>
    clear HB x0
    obtain ⟨i, i1, hi, rfl, rfl, HB⟩ := hrel
    by_cases hlt : i < n
    · have hz : (i : Int) < (n : Int) := by omega
      obtain ⟨ad', e2, x0⟩ := Kd.at_int (Kd.C_below hr.out HB.out) (i : Int) (by omega) (by omega)
      obtain rfl : ad = ad' := by injection e2
      clear e2
      rw [Int.toNat_natCast] at x0
      have hV : (if maxI xs i < rd xs i then rd xs i else maxI xs i) = maxI xs (i + 1) := rfl
      by_cases z : maxI xs i < rd xs i
      · rw [if_pos z] at hV
        have hV := Aside0.mk hV
        go_wp2
        repeat (go_quiet (fail); try go_wp2)
        go_roundw
        case rel => exact ⟨i + 1, by omega, by omega, by go_num, by rw [← hV.out], ⟨by repeat (first | (with_reducible first | exact HB.out | apply below_alloc | apply pw_below_drewN | apply below_drew1) | exact HB.out)⟩⟩
        case measure => simp [intOf]; omega
      · rw [if_neg z] at hV
        have hV := Aside0.mk hV
        go_wp2
        repeat (go_quiet (fail); try go_wp2)
        go_roundw
        case rel => exact ⟨i + 1, by omega, by omega, by go_num, by rw [← hV.out], ⟨by repeat (first | (with_reducible first | exact HB.out | apply below_alloc | apply pw_below_drewN | apply below_drew1) | exact HB.out)⟩⟩
        case measure => simp [intOf]; omega
    · have e : i = n := by omega
      subst e
      have hz : ¬ (i : Int) < (i : Int) := by omega
      go_wp2
      go_ret
      exact ⟨rfl, by repeat (first | (with_reducible first | exact HB.out | apply below_alloc | apply pw_below_drewN | apply below_drew1) | exact HB.out)⟩
set_option maxHeartbeats 4000000 in
set_option maxRecDepth 100000 in
theorem impl_MiddleSpot_c {A : Option Addr} {n c : Nat} {xs : List Sp} (w : World) (hr : Kd.C kSp w A n xs) (hc : n ≤ c) : Calls Try.prog 38 #[.slice A n c] w fun e w' => e = .returned (.tuple #[.int .i64 (RMiddleSpot xs).1, .int .i64 (RMiddleSpot xs).2.1, .int .i64 (RMiddleSpot xs).2.2]) ∧ Below w.heap.size w w' := by
  have hl : xs.length = n := hr.1
  have hr := Aside0.mk hr
  by_cases h : codL xs 1 12 = 0
  · obtain ⟨ho, h1, h2⟩ := codL_0 h
    have n1 : 1 ≤ n := by omega
    have n2 : n ≤ 12 := by omega
    have f := Aside0.mk (show RMiddleSpot xs = ((imD xs n).1, (imD xs n).2, 0) by
      unfold RMiddleSpot; rw [if_pos h, hl]
      obtain ⟨m, rfl⟩ : ∃ m, n = m + 1 := ⟨n - 1, by omega⟩
      rw [imD_ms])
    have h := Aside0.mk h
    have hok := Aside0.mk ho
    have ho := Aside0.mk ((okL_iff xs).1 ho)
    have hl := Aside0.mk hl
    clear h1 h2
    go_enter Try.func38, Try.ntmps38
    go_wp2_with (fail)
    refine (impl_spotsCode_c _ hr.out h.out).mono ?_
    rintro e w1 ⟨rfl, hb⟩
    have HB := Aside0.mk (show Below w.heap.size w w1 from below_step ( by repeat (first | (with_reducible first | exact Below.refl _ _ | apply below_alloc | apply pw_below_drewN | apply below_drew1 | (refine below_step ?_ (by assumption))) | exact Below.refl _ _) ) hb)
    clear hb
    go_wp2_with (fail)
    go_loopw [6, 7, 18] (fun p q k wr => ∃ i : Nat, i ≤ n ∧ k = .int .i64 i ∧ p = .int .i64 (imD xs i).1 ∧ q = .int .i64 (imD xs i).2 ∧ Aside0 (Below w.heap.size w wr)) (fun _ _ k _ => ((n : Int) - intOf k).toNat)
    case atStart => exact ⟨0, by omega, rfl, rfl, rfl, HB⟩
    case round =>
      clear HB
      obtain ⟨i, hi, rfl, rfl, rfl, HB⟩ := hrel
      by_cases hlt : i < n
      · have hz : (i : Int) < (n : Int) := by omega
        obtain ⟨ad, e1, x0, x1⟩ := PFnExactUnderCap.at_T52 (Kd.C_below hr.out HB.out) (i : Int) (by omega) hz
        subst e1
        rw [Int.toNat_natCast] at x0 x1
        have si := Aside0.mk (ho.out i (by have := hl.out; omega))
        have g := Aside0.mk (show imD xs (i + 1) = if (imD xs i).1 < 0 ∨ mxD xs i xs.length < (imD xs i).2 then ((i : Int), mxD xs i xs.length) else imD xs i from rfl)
        have hM := Aside0.mk (show maxI (rowD xs (rdS xs i).f0 (rdS xs i).f1 n) n = mxD xs i xs.length by
          obtain ⟨m, rfl⟩ : ∃ m, n = m + 1 := ⟨n - 1, by omega⟩
          rw [hl.out]; exact maxI_row xs i (m + 1) m (by omega))
        have bd := imD_bd xs i
        generalize imD xs i = t at *
        obtain ⟨be, le⟩ := t
        have b0 : -1 ≤ be := bd.1
        have b1 : be < i + 1 := bd.2.1
        have g : Aside0 (imD xs (i + 1) = if be < 0 ∨ mxD xs i xs.length < le then ((i : Int), mxD xs i xs.length) else (be, le)) := g
        clear bd
        go_wp2_with (fail)
        refine (impl_distancesFrom_c _ (Kd.C_below (Kd.C_below hr.out HB.out) ( by repeat (first | (with_reducible first | exact Below.refl _ _ | apply below_alloc | apply pw_below_drewN | apply below_drew1 | (refine below_step ?_ (by assumption))) | exact Below.refl _ _) )) hc n2 hok.out si.out).mono ?_
        rintro e w2 ⟨v0, rfl, hL, hb⟩
        have HB := Aside0.mk (show Below w.heap.size w w2 from below_step (by repeat (first | (with_reducible first | exact HB.out | apply below_alloc | apply pw_below_drewN | apply below_drew1) | exact HB.out)) hb)
        clear hb
        obtain ⟨B, d, e2⟩ := Kd.R_slice hL
        rw [rowD_len] at e2
        subst e2
        have HL := Aside0.mk hL
        clear hL
        go_wp2_with (fail)
        refine (Max_c _ (by have := (Kd.R_reads' HL.out).2.2; rwa [rowD_len] at this) n1 (by omega)).mono ?_
        rintro e w3 ⟨rfl, hb⟩
        have HB := Aside0.mk (show Below w.heap.size w w3 from below_step (by repeat (first | (with_reducible first | exact HB.out | apply below_alloc | apply pw_below_drewN | apply below_drew1) | exact HB.out)) hb)
        clear hb
        rw [hM.out]
        generalize mxD xs i xs.length = most at *
        by_cases z1 : be < 0
        · have g2 := Aside0.mk (show imD xs (i + 1) = ((i : Int), most) by rw [g.out]; exact if_pos (Or.inl z1))
          go_wp2
          go_roundw
          case rel => exact ⟨i + 1, by omega, by go_num, by rw [g2.out], by rw [g2.out], ⟨by repeat (first | (with_reducible first | exact HB.out | apply below_alloc | apply pw_below_drewN | apply below_drew1) | exact HB.out)⟩⟩
          case measure => simp [intOf]; omega
        · by_cases z2 : most < le
          · have g2 := Aside0.mk (show imD xs (i + 1) = ((i : Int), most) by rw [g.out]; exact if_pos (Or.inr z2))
            go_wp2
            go_roundw
            case rel => exact ⟨i + 1, by omega, by go_num, by rw [g2.out], by rw [g2.out], ⟨by repeat (first | (with_reducible first | exact HB.out | apply below_alloc | apply pw_below_drewN | apply below_drew1) | exact HB.out)⟩⟩
            case measure => simp [intOf]; omega
          · have g2 := Aside0.mk (show imD xs (i + 1) = (be, le) by rw [g.out]; exact if_neg (fun e => e.elim z1 z2))
            go_wp2
            go_roundw
            case rel => exact ⟨i + 1, by omega, by go_num, by rw [g2.out], by rw [g2.out], ⟨by repeat (first | (with_reducible first | exact HB.out | apply below_alloc | apply pw_below_drewN | apply below_drew1) | exact HB.out)⟩⟩
            case measure => simp [intOf]; omega
      · have e : i = n := by omega
        subst e
        have hz : ¬ (i : Int) < (i : Int) := by omega
        go_wp2
        go_ret3
        exact ⟨triple_eq2 f.out, by repeat (first | (with_reducible first | exact HB.out | apply below_alloc | apply pw_below_drewN | apply below_drew1) | exact HB.out)⟩
  · have f := Aside0.mk (show RMiddleSpot xs = (0, 0, codL xs 1 12) from if_neg h)
    have q : (codL xs 1 12 == 0) = false := by simp [h]
    clear hl h
    go_enter Try.func38, Try.ntmps38
    go_wp2_with (fail)
    refine (impl_spotsCode_c _ hr.out rfl).mono ?_
    rintro e w1 ⟨rfl, hb⟩
    have HB := Aside0.mk (show Below w.heap.size w w1 from below_step ( by repeat (first | (with_reducible first | exact Below.refl _ _ | apply below_alloc | apply pw_below_drewN | apply below_drew1 | (refine below_step ?_ (by assumption))) | exact Below.refl _ _) ) hb)
    clear hb
    go_wp2
    go_ret3
    exact ⟨triple_eq2 f.out, HB.out⟩
end Go.Proofs.Ytkfbbaaniglaeaa.Con
end
section
namespace Go.Proofs.Ytkfbbaaniglaeaa.Con
open Go.RowKit Go.Proofs.YtkfbbaaniglaeaaW.PrintWords Go.Proofs.YtkfbbaaniglaeaaW.PrintLast Go.Proofs.YtkfbbaaniglaeaaW.PrintMore Go.Proofs.Ytkfbbaaniglaeaa.Mth
attribute [local go_sem] max2_int min2_int max_two min_two max_three min_three
set_option linter.unusedVariables false
set_option linter.unusedSimpArgs false
theorem linfo : (Try.prog.info? 2).map (fun i => (i.zero, i.size, i.bytes)) = some (some (.int .i64 0), 1, 8) := by kernel_rfl
end Go.Proofs.Ytkfbbaaniglaeaa.Con
end
section
namespace Go.Proofs.Ytkfbbaaniglaeaa.Con
open Go.RowKit Go.Proofs.YtkfbbaaniglaeaaW.PrintWords Go.Proofs.YtkfbbaaniglaeaaW.PrintLast Go.Proofs.YtkfbbaaniglaeaaW.PrintMore Go.Proofs.Ytkfbbaaniglaeaa.Mth
attribute [local go_sem] max2_int min2_int max_two min_two max_three min_three
set_option linter.unusedVariables false
set_option linter.unusedSimpArgs false
/-- The numbers below n of what has a property, rising. -/
noncomputable def idxF (p : Nat → Prop) : Nat → List Int
  | 0 => []
  | n + 1 => open Classical in if p n then idxF p n ++ [(n : Int)] else idxF p n
theorem idxF_yes {p : Nat → Prop} {n : Nat} (h : p n) : idxF p (n + 1) = idxF p n ++ [(n : Int)] := if_pos h
theorem idxF_no {p : Nat → Prop} {n : Nat} (h : ¬ p n) : idxF p (n + 1) = idxF p n := if_neg h
theorem idxF_len (p : Nat → Prop) (n : Nat) : (idxF p n).length ≤ n := by
  induction n with
  | zero => exact Nat.le_refl _
  | succ n ih =>
    by_cases h : p n
    · rw [idxF_yes h, List.length_append]; show _ + 1 ≤ _; omega
    · rw [idxF_no h]; omega
noncomputable def RSpotsWithin (xs : List Sp) (a b m : Int) : List Int × Int := if sOk a b ∧ okL xs then (if xs.length ≤ 12 ∧ (0 ≤ m ∧ m ≤ 648000) then (idxF (fun i => dist (rdS xs i).f0 (rdS xs i).f1 a b ≤ m) xs.length, 0) else ([], 2)) else ([], 1)
set_option maxHeartbeats 4000000 in
set_option maxRecDepth 100000 in
theorem impl_SpotsWithin_l {A : Option Addr} {n c : Nat} {xs : List Sp} {a b m : Int} (w : World) (hr : Kd.C kSp w A n xs) : Calls Try.prog 41 #[.slice A n c, .agg #[.int .i64 a, .int .i64 b], .int .i64 m] w fun e w' => ∃ v0_ : Value, e = .returned (.tuple #[v0_, .int .i64 (RSpotsWithin xs a b m).2]) ∧ Kd.R (Kd.int .i64) 2 w' w.heap.size (fun _ => True) v0_ (RSpotsWithin xs a b m).1 ∧ Below w.heap.size w w' := by
  have hl := hr.1
  have hr := Aside0.mk hr
  have HB := Aside0.mk (below_alloc (Below.refl w.heap.size w) (.cells #[.int .i64 a, .int .i64 b] 52 (0, 0)))
  rcases dec (sOk a b) with ⟨ha, ba⟩ | ⟨ha, ba⟩
  · rcases dec (okL xs) with ⟨hx, bl⟩ | ⟨hx, bl⟩
    · by_cases h12 : n ≤ 12
      · rcases dec (0 ≤ m ∧ m ≤ 648000) with ⟨hm, bm⟩ | ⟨hm, bm⟩
        · have f := Aside0.mk (show RSpotsWithin xs a b m = (idxF (fun i => dist (rdS xs i).f0 (rdS xs i).f1 a b ≤ m) n, 0) by unfold RSpotsWithin; rw [if_pos ⟨ha, hx⟩, if_pos ⟨by omega, hm⟩, hl])
          have hq := Aside0.mk ((okL_iff xs).1 hx)
          have ha := Aside0.mk ha
          have hl := Aside0.mk hl
          have nq : (n : Int) ≤ 12 := by omega
          clear hx
          go_enter Try.func41, Try.ntmps41
          go_wp2_with (fail)
          refine (impl_ValidSpot_c ba.out _).mono ?_
          rintro e w1 ⟨rfl, hb⟩
          have BK := Aside0.mk (blk_below (blk_new w (.cells #[.int .i64 a, .int .i64 b] 52)) (below_step ( by repeat (first | (with_reducible first | exact Below.refl _ _ | apply below_alloc | apply pw_below_drewN | apply below_drew1 | (refine below_step ?_ (by assumption))) | exact Below.refl _ _) ) hb))
          have HB := Aside0.mk (show Below w.heap.size w w1 from below_step (by repeat (first | (with_reducible first | exact HB.out | apply below_alloc | apply pw_below_drewN | apply below_drew1) | exact HB.out)) hb)
          clear hb
          go_wp2_with (fail)
          refine (impl_areSpots_c _ (Kd.C_below hr.out (by repeat (first | (with_reducible first | exact HB.out | apply below_alloc | apply pw_below_drewN | apply below_drew1) | exact HB.out))) bl.out).mono ?_
          rintro e w2 ⟨rfl, hb⟩
          have BK := Aside0.mk (blk_below BK.out (below_step ( by repeat (first | (with_reducible first | exact Below.refl _ _ | apply below_alloc | apply pw_below_drewN | apply below_drew1 | (refine below_step ?_ (by assumption))) | exact Below.refl _ _) ) hb))
          have HB := Aside0.mk (show Below w.heap.size w w2 from below_step (by repeat (first | (with_reducible first | exact HB.out | apply below_alloc | apply pw_below_drewN | apply below_drew1) | exact HB.out)) hb)
          clear hb
          go_wp2_with (fail)
          refine (impl_within_d _ bm.out).mono ?_
          rintro e w' ⟨rfl, ⟨nd, rfl⟩⟩
          go_wp2_with (fail)
          refine (impl_check_tt _).mono ?_
          rintro e V ⟨rfl, hb⟩
          have hb := hb.below
          have BK := Aside0.mk (blk_below BK.out (below_step ( by repeat (first | (with_reducible first | exact Below.refl _ _ | apply below_alloc | apply pw_below_drewN | apply below_drew1 | (refine below_step ?_ (by assumption))) | exact Below.refl _ _) ) hb))
          have HB := Aside0.mk (show Below w.heap.size w V from below_step (by repeat (first | (with_reducible first | exact HB.out | apply below_alloc | apply pw_below_drewN | apply below_drew1) | exact HB.out)) hb)
          clear hb
          have HV := HB
          have k0 := (blk_cell BK.out 0).trans (by rfl : _ = some (Value.int .i64 a))
          have k1 := (blk_cell BK.out 1).trans (by rfl : _ = some (Value.int .i64 b))
          have gV := blk_lt BK.out
          have hrV := Aside0.mk (Kd.C_below hr.out HV.out)
          clear HB
          go_wp2_with (first | ((with_reducible refine gate_dst (N := 29) rfl ?_); refine Kd.R_lit (Kd.int .i64) _ 2 ?hg (N := 29) ?hd (xs := ([] : List Int)) (inner := []) (ok := fun _ => True) (okp := fun _ => True) ?hr ?hp (fun _ hk => hk) trivial (Below.refl _ _) (Nat.le_refl _) (by simp) ?_; (case hd => rfl); (case hg => rfl); (case hr => first | (go_simp; done) | (go_simp; rfl)); (case hp => exact (Reps.none _ _)); intro v0 w5 ho hb hg_ hnew_; clear hg_ hnew_) | ((with_reducible refine gate_dst (N := 28) rfl ?_); refine Kd.R_lit (Kd.int .i64) _ 2 ?hg (N := 28) ?hd (xs := ([] : List Int)) (inner := []) (ok := fun _ => True) (okp := fun _ => True) ?hr ?hp (fun _ hk => hk) trivial (Below.refl _ _) (Nat.le_refl _) (by simp) ?_; (case hd => rfl); (case hg => rfl); (case hr => first | (go_simp; done) | (go_simp; rfl)); (case hp => exact (Reps.none _ _)); intro v0 w5 ho hb hg_ hnew_; clear hg_ hnew_) | ((with_reducible refine gate_dst (N := 27) rfl ?_); refine Kd.R_lit (Kd.int .i64) _ 2 ?hg (N := 27) ?hd (xs := ([] : List Int)) (inner := []) (ok := fun _ => True) (okp := fun _ => True) ?hr ?hp (fun _ hk => hk) trivial (Below.refl _ _) (Nat.le_refl _) (by simp) ?_; (case hd => rfl); (case hg => rfl); (case hr => first | (go_simp; done) | (go_simp; rfl)); (case hp => exact (Reps.none _ _)); intro v0 w5 ho hb hg_ hnew_; clear hg_ hnew_))
          have HO := Aside0.mk (Kd.R_lower ho (below_size ( by repeat (first | (with_reducible first | exact Below.refl _ _ | apply below_alloc | apply pw_below_drewN | apply below_drew1 | (refine below_step ?_ (by assumption))) | exact Below.refl _ _) ) : V.heap.size ≤ _))
          have HB := Aside0.mk (show Below V.heap.size V w5 from below_step ( by repeat (first | (with_reducible first | exact Below.refl _ _ | apply below_alloc | apply pw_below_drewN | apply below_drew1 | (refine below_step ?_ (by assumption))) | exact Below.refl _ _) ) hb)
          clear ho hb
          go_loopw [9, 32] (fun u k wr => ∃ i : Nat, i ≤ n ∧ k = .int .i64 i ∧ Aside0 (Kd.R (Kd.int .i64) 2 wr V.heap.size (fun _ => True) u (idxF (fun i => dist (rdS xs i).f0 (rdS xs i).f1 a b ≤ m) i)) ∧ Aside0 (Below V.heap.size V wr)) (fun _ k _ => ((n : Int) - intOf k).toNat)
          case atStart => exact ⟨0, by omega, rfl, ⟨(by (with_reducible repeat (first | apply Kd.R_alloc | apply Kd.R_drewN | apply Kd.R_drew)); exact HO.out)⟩, ⟨by repeat (first | (with_reducible first | exact HB.out | apply below_alloc | apply pw_below_drewN | apply below_drew1) | exact HB.out)⟩⟩
          case round =>
            clear HO HB
            obtain ⟨i, hi, rfl, HO, HB⟩ := hrel
            by_cases hlt : i < n
            · have hz : (i : Int) < (n : Int) := by omega
              obtain ⟨ad, e1, x0, x1⟩ := PFnExactUnderCap.at_T52 (Kd.C_below hrV.out HB.out) (i : Int) (by omega) hz
              subst e1
              rw [Int.toNat_natCast] at x0 x1
              have s1 := Aside0.mk (hq.out i (by have := hl.out; omega))
              have ad_l := sp_lt (Kd.C_below hrV.out HB.out) (by omega)
              have q := HB.out.size
              have c0 := (HB.out.cell (p := ⟨w.heap.size, 0, none⟩) gV).trans k0
              have c1 := (HB.out.cell (p := ⟨w.heap.size, 1, none⟩) gV).trans k1
              have il := idxF_len (fun i => dist (rdS xs i).f0 (rdS xs i).f1 a b ≤ m) i
              have gl : w.heap.size < wr.heap.size := by omega
              have gn := Nat.ne_of_lt gl
              have gm := Nat.ne_of_gt gl
              go_wp2_with (fail)
              refine (impl_distance_c s1.out ha.out _).mono ?_
              rintro e W ⟨rfl, hb⟩
              have hbb := Aside0.mk (show Below wr.heap.size wr W from below_step ( by repeat (first | (with_reducible first | exact Below.refl _ _ | apply below_alloc | apply pw_below_drewN | apply below_drew1 | (refine below_step ?_ (by assumption))) | exact Below.refl _ _) ) hb)
              clear hb
              have HB := Aside0.mk (below_step HB.out hbb.out)
              have HO := Aside0.mk (Kd.R_below HO.out hbb.out)
              by_cases lt : dist (rdS xs i).f0 (rdS xs i).f1 a b ≤ m
              · go_wp2_with (first | (at_builtin; refine Kd.R_append (Kd.int .i64) (w0 := V) V.heap.size rfl _ _ 22 2 (.int .i64 0) 8 rfl Try.underlying22 linfo rfl (by decide) (by omega) u9 (idxF (fun i => dist (rdS xs i).f0 (rdS xs i).f1 a b ≤ m) i) ((i : Int)) [.int .i64 ((i : Int))] (fun _ => True) (fun _ => False) rfl rfl ?aP (fun _ hk => hk.elim) ?aF ?aO ?aB ?aS ?aL ?_; (case aP => exact rfl); (case aB => exact (by repeat (first | (with_reducible first | exact HB.out | apply below_alloc | apply pw_below_drewN | apply below_drew1) | exact HB.out))); (case aF => exact (fun _ _ => trivial)); (case aO => exact (by (with_reducible repeat (first | apply Kd.R_alloc | apply Kd.R_drewN | apply Kd.R_drew)); exact HO.out)); (case aS => exact (below_size (by repeat (first | (with_reducible first | exact HB.out | apply below_alloc | apply pw_below_drewN | apply below_drew1) | exact HB.out)))); (case aL => first | omega | (simp; omega)); intro v1 w9 ho hb hg hat))
                rw [← idxF_yes (p := (fun i => dist (rdS xs i).f0 (rdS xs i).f1 a b ≤ m)) lt] at ho
                go_roundw
                case rel => exact ⟨i + 1, by omega, by go_num, ⟨(by (with_reducible repeat (first | apply Kd.R_alloc | apply Kd.R_drewN | apply Kd.R_drew)); exact ho)⟩, ⟨by repeat (first | (with_reducible first | exact hb | apply below_alloc | apply pw_below_drewN | apply below_drew1) | exact hb)⟩⟩
                case measure => simp [intOf]; omega
              · go_wp2
                go_roundw
                case rel => exact ⟨i + 1, by omega, by go_num, ⟨by rw [idxF_no (p := (fun i => dist (rdS xs i).f0 (rdS xs i).f1 a b ≤ m)) (by show ¬ _ ≤ m; omega)]; exact (by (with_reducible repeat (first | apply Kd.R_alloc | apply Kd.R_drewN | apply Kd.R_drew)); exact HO.out)⟩, ⟨by repeat (first | (with_reducible first | exact HB.out | apply below_alloc | apply pw_below_drewN | apply below_drew1) | exact HB.out)⟩⟩
                case measure => simp [intOf]; omega
            · have e : i = n := by omega
              subst e
              have hz : ¬ (i : Int) < (i : Int) := by omega
              go_wp2
              go_ret2
              exact ⟨_, by rw [f.out]; rfl, by rw [f.out]; exact Kd.R_lower HO.out (by have := HV.out.size; omega), below_step HV.out HB.out⟩
        · have nq : (n : Int) ≤ 12 := by omega
          have f := Aside0.mk (show RSpotsWithin xs a b m = ([], 2) by unfold RSpotsWithin; rw [if_pos ⟨ha, hx⟩, if_neg (fun e => hm e.2)])
          clear ha hx hm hl
          go_enter Try.func41, Try.ntmps41
          go_wp2_with (fail)
          refine (impl_ValidSpot_c ba.out _).mono ?_
          rintro e w1 ⟨rfl, hb⟩
          have BK := Aside0.mk (blk_below (blk_new w (.cells #[.int .i64 a, .int .i64 b] 52)) (below_step ( by repeat (first | (with_reducible first | exact Below.refl _ _ | apply below_alloc | apply pw_below_drewN | apply below_drew1 | (refine below_step ?_ (by assumption))) | exact Below.refl _ _) ) hb))
          have HB := Aside0.mk (show Below w.heap.size w w1 from below_step (by repeat (first | (with_reducible first | exact HB.out | apply below_alloc | apply pw_below_drewN | apply below_drew1) | exact HB.out)) hb)
          clear hb
          go_wp2_with (fail)
          refine (impl_areSpots_c _ (Kd.C_below hr.out (by repeat (first | (with_reducible first | exact HB.out | apply below_alloc | apply pw_below_drewN | apply below_drew1) | exact HB.out))) bl.out).mono ?_
          rintro e w2 ⟨rfl, hb⟩
          have BK := Aside0.mk (blk_below BK.out (below_step ( by repeat (first | (with_reducible first | exact Below.refl _ _ | apply below_alloc | apply pw_below_drewN | apply below_drew1 | (refine below_step ?_ (by assumption))) | exact Below.refl _ _) ) hb))
          have HB := Aside0.mk (show Below w.heap.size w w2 from below_step (by repeat (first | (with_reducible first | exact HB.out | apply below_alloc | apply pw_below_drewN | apply below_drew1) | exact HB.out)) hb)
          clear hb
          go_wp2_with (fail)
          refine (impl_within_d _ bm.out).mono ?_
          rintro e w' ⟨rfl, ⟨nd, rfl⟩⟩
          go_wp2_with (fail)
          refine (impl_check_tf _).mono ?_
          rintro e w' ⟨rfl, ⟨nd, rfl⟩⟩
          go_wp2
          go_ret2
          exact ⟨_, by rw [f.out]; rfl, by rw [f.out]; exact Kd.R_nil .., by repeat (first | (with_reducible first | exact HB.out | apply below_alloc | apply pw_below_drewN | apply below_drew1) | exact HB.out)⟩
      · have nq : ¬ (n : Int) ≤ 12 := by omega
        have f := Aside0.mk (show RSpotsWithin xs a b m = ([], 2) by unfold RSpotsWithin; rw [if_pos ⟨ha, hx⟩, if_neg (fun e => h12 (by omega))])
        clear ha hx hl
        go_enter Try.func41, Try.ntmps41
        go_wp2_with (fail)
        refine (impl_ValidSpot_c ba.out _).mono ?_
        rintro e w1 ⟨rfl, hb⟩
        have BK := Aside0.mk (blk_below (blk_new w (.cells #[.int .i64 a, .int .i64 b] 52)) (below_step ( by repeat (first | (with_reducible first | exact Below.refl _ _ | apply below_alloc | apply pw_below_drewN | apply below_drew1 | (refine below_step ?_ (by assumption))) | exact Below.refl _ _) ) hb))
        have HB := Aside0.mk (show Below w.heap.size w w1 from below_step (by repeat (first | (with_reducible first | exact HB.out | apply below_alloc | apply pw_below_drewN | apply below_drew1) | exact HB.out)) hb)
        clear hb
        go_wp2_with (fail)
        refine (impl_areSpots_c _ (Kd.C_below hr.out (by repeat (first | (with_reducible first | exact HB.out | apply below_alloc | apply pw_below_drewN | apply below_drew1) | exact HB.out))) bl.out).mono ?_
        rintro e w2 ⟨rfl, hb⟩
        have BK := Aside0.mk (blk_below BK.out (below_step ( by repeat (first | (with_reducible first | exact Below.refl _ _ | apply below_alloc | apply pw_below_drewN | apply below_drew1 | (refine below_step ?_ (by assumption))) | exact Below.refl _ _) ) hb))
        have HB := Aside0.mk (show Below w.heap.size w w2 from below_step (by repeat (first | (with_reducible first | exact HB.out | apply below_alloc | apply pw_below_drewN | apply below_drew1) | exact HB.out)) hb)
        clear hb
        go_wp2_with (fail)
        refine (impl_check_tf _).mono ?_
        rintro e w' ⟨rfl, ⟨nd, rfl⟩⟩
        go_wp2
        go_ret2
        exact ⟨_, by rw [f.out]; rfl, by rw [f.out]; exact Kd.R_nil .., by repeat (first | (with_reducible first | exact HB.out | apply below_alloc | apply pw_below_drewN | apply below_drew1) | exact HB.out)⟩
    · clear hl
      have f := Aside0.mk (show RSpotsWithin xs a b m = ([], 1) by unfold RSpotsWithin; rw [if_neg (fun e => hx e.2)])
      clear ha hx
      rcases dec (0 ≤ m ∧ m ≤ 648000) with ⟨hm, bm⟩ | ⟨hm, bm⟩
      all_goals
        clear hm
        by_cases h12 : n ≤ 12
        · have nq : (n : Int) ≤ 12 := by omega
          go_enter Try.func41, Try.ntmps41
          go_wp2_with (fail)
          refine (impl_ValidSpot_c ba.out _).mono ?_
          rintro e w1 ⟨rfl, hb⟩
          have BK := Aside0.mk (blk_below (blk_new w (.cells #[.int .i64 a, .int .i64 b] 52)) (below_step ( by repeat (first | (with_reducible first | exact Below.refl _ _ | apply below_alloc | apply pw_below_drewN | apply below_drew1 | (refine below_step ?_ (by assumption))) | exact Below.refl _ _) ) hb))
          have HB := Aside0.mk (show Below w.heap.size w w1 from below_step (by repeat (first | (with_reducible first | exact HB.out | apply below_alloc | apply pw_below_drewN | apply below_drew1) | exact HB.out)) hb)
          clear hb
          go_wp2_with (fail)
          refine (impl_areSpots_c _ (Kd.C_below hr.out (by repeat (first | (with_reducible first | exact HB.out | apply below_alloc | apply pw_below_drewN | apply below_drew1) | exact HB.out))) bl.out).mono ?_
          rintro e w2 ⟨rfl, hb⟩
          have BK := Aside0.mk (blk_below BK.out (below_step ( by repeat (first | (with_reducible first | exact Below.refl _ _ | apply below_alloc | apply pw_below_drewN | apply below_drew1 | (refine below_step ?_ (by assumption))) | exact Below.refl _ _) ) hb))
          have HB := Aside0.mk (show Below w.heap.size w w2 from below_step (by repeat (first | (with_reducible first | exact HB.out | apply below_alloc | apply pw_below_drewN | apply below_drew1) | exact HB.out)) hb)
          clear hb
          go_wp2_with (fail)
          refine (impl_within_d _ bm.out).mono ?_
          rintro e w' ⟨rfl, ⟨nd, rfl⟩⟩
          go_wp2_with (fail)
          refine (impl_check_f _).mono ?_
          rintro e w' ⟨rfl, ⟨nd, rfl⟩⟩
          go_wp2
          go_ret2
          exact ⟨_, by rw [f.out]; rfl, by rw [f.out]; exact Kd.R_nil .., by repeat (first | (with_reducible first | exact HB.out | apply below_alloc | apply pw_below_drewN | apply below_drew1) | exact HB.out)⟩
        · have nq : ¬ (n : Int) ≤ 12 := by omega
          go_enter Try.func41, Try.ntmps41
          go_wp2_with (fail)
          refine (impl_ValidSpot_c ba.out _).mono ?_
          rintro e w1 ⟨rfl, hb⟩
          have BK := Aside0.mk (blk_below (blk_new w (.cells #[.int .i64 a, .int .i64 b] 52)) (below_step ( by repeat (first | (with_reducible first | exact Below.refl _ _ | apply below_alloc | apply pw_below_drewN | apply below_drew1 | (refine below_step ?_ (by assumption))) | exact Below.refl _ _) ) hb))
          have HB := Aside0.mk (show Below w.heap.size w w1 from below_step (by repeat (first | (with_reducible first | exact HB.out | apply below_alloc | apply pw_below_drewN | apply below_drew1) | exact HB.out)) hb)
          clear hb
          go_wp2_with (fail)
          refine (impl_areSpots_c _ (Kd.C_below hr.out (by repeat (first | (with_reducible first | exact HB.out | apply below_alloc | apply pw_below_drewN | apply below_drew1) | exact HB.out))) bl.out).mono ?_
          rintro e w2 ⟨rfl, hb⟩
          have BK := Aside0.mk (blk_below BK.out (below_step ( by repeat (first | (with_reducible first | exact Below.refl _ _ | apply below_alloc | apply pw_below_drewN | apply below_drew1 | (refine below_step ?_ (by assumption))) | exact Below.refl _ _) ) hb))
          have HB := Aside0.mk (show Below w.heap.size w w2 from below_step (by repeat (first | (with_reducible first | exact HB.out | apply below_alloc | apply pw_below_drewN | apply below_drew1) | exact HB.out)) hb)
          clear hb
          go_wp2_with (fail)
          refine (impl_check_f _).mono ?_
          rintro e w' ⟨rfl, ⟨nd, rfl⟩⟩
          go_wp2
          go_ret2
          exact ⟨_, by rw [f.out]; rfl, by rw [f.out]; exact Kd.R_nil .., by repeat (first | (with_reducible first | exact HB.out | apply below_alloc | apply pw_below_drewN | apply below_drew1) | exact HB.out)⟩
  · clear hl
    have f := Aside0.mk (show RSpotsWithin xs a b m = ([], 1) by unfold RSpotsWithin; rw [if_neg (fun e => ha e.1)])
    clear ha
    rcases dec (0 ≤ m ∧ m ≤ 648000) with ⟨hm, bm⟩ | ⟨hm, bm⟩
    all_goals
      clear hm
      by_cases h12 : n ≤ 12
      · have nq : (n : Int) ≤ 12 := by omega
        go_enter Try.func41, Try.ntmps41
        go_wp2_with (fail)
        refine (impl_ValidSpot_c ba.out _).mono ?_
        rintro e w1 ⟨rfl, hb⟩
        have BK := Aside0.mk (blk_below (blk_new w (.cells #[.int .i64 a, .int .i64 b] 52)) (below_step ( by repeat (first | (with_reducible first | exact Below.refl _ _ | apply below_alloc | apply pw_below_drewN | apply below_drew1 | (refine below_step ?_ (by assumption))) | exact Below.refl _ _) ) hb))
        have HB := Aside0.mk (show Below w.heap.size w w1 from below_step (by repeat (first | (with_reducible first | exact HB.out | apply below_alloc | apply pw_below_drewN | apply below_drew1) | exact HB.out)) hb)
        clear hb
        go_wp2_with (fail)
        refine (impl_within_d _ bm.out).mono ?_
        rintro e w' ⟨rfl, ⟨nd, rfl⟩⟩
        go_wp2_with (fail)
        refine (impl_check_f _).mono ?_
        rintro e w' ⟨rfl, ⟨nd, rfl⟩⟩
        go_wp2
        go_ret2
        exact ⟨_, by rw [f.out]; rfl, by rw [f.out]; exact Kd.R_nil .., by repeat (first | (with_reducible first | exact HB.out | apply below_alloc | apply pw_below_drewN | apply below_drew1) | exact HB.out)⟩
      · have nq : ¬ (n : Int) ≤ 12 := by omega
        go_enter Try.func41, Try.ntmps41
        go_wp2_with (fail)
        refine (impl_ValidSpot_c ba.out _).mono ?_
        rintro e w1 ⟨rfl, hb⟩
        have BK := Aside0.mk (blk_below (blk_new w (.cells #[.int .i64 a, .int .i64 b] 52)) (below_step ( by repeat (first | (with_reducible first | exact Below.refl _ _ | apply below_alloc | apply pw_below_drewN | apply below_drew1 | (refine below_step ?_ (by assumption))) | exact Below.refl _ _) ) hb))
        have HB := Aside0.mk (show Below w.heap.size w w1 from below_step (by repeat (first | (with_reducible first | exact HB.out | apply below_alloc | apply pw_below_drewN | apply below_drew1) | exact HB.out)) hb)
        clear hb
        go_wp2_with (fail)
        refine (impl_check_f _).mono ?_
        rintro e w' ⟨rfl, ⟨nd, rfl⟩⟩
        go_wp2
        go_ret2
        exact ⟨_, by rw [f.out]; rfl, by rw [f.out]; exact Kd.R_nil .., by repeat (first | (with_reducible first | exact HB.out | apply below_alloc | apply pw_below_drewN | apply below_drew1) | exact HB.out)⟩
end Go.Proofs.Ytkfbbaaniglaeaa.Con
end
section
namespace Go.Proofs.Ytkfbbaaniglaeaa.Con
open Go.RowKit Go.Proofs.YtkfbbaaniglaeaaW.PrintWords Go.Proofs.YtkfbbaaniglaeaaW.PrintLast Go.Proofs.YtkfbbaaniglaeaaW.PrintMore Go.Proofs.Ytkfbbaaniglaeaa.Mth
set_option linter.unusedVariables false
set_option linter.unusedSimpArgs false
/-- The distance of place i from a place. -/
noncomputable def dP (xs : List Sp) (a b : Int) (i : Int) : Int := dist (rdS xs i).f0 (rdS xs i).f1 a b
theorem near_step (xs : List Sp) (a b : Int) (n : Nat) : nearF xs a b (n + 1) = if dP xs a b n < dP xs a b (nearF xs a b n) then (n : Int) else nearF xs a b n := rfl
theorem near_min (xs : List Sp) (a b : Int) : ∀ n i : Nat, i < n → dP xs a b (nearF xs a b n) ≤ dP xs a b i := by
  intro n
  induction n with
  | zero => intro i h; omega
  | succ n ih =>
    intro i h
    rw [near_step]
    by_cases c : dP xs a b n < dP xs a b (nearF xs a b n)
    · rw [if_pos c]
      by_cases e : i = n
      · subst e; exact Int.le_refl _
      · have := ih i (by omega); omega
    · rw [if_neg c]
      by_cases e : i = n
      · subst e; omega
      · exact ih i (by omega)
theorem near_first (xs : List Sp) (a b : Int) : ∀ n i : Nat, (i : Int) < nearF xs a b n → dP xs a b (nearF xs a b n) < dP xs a b i := by
  intro n
  induction n with
  | zero => intro i h; rw [show nearF xs a b 0 = 0 from rfl] at h; omega
  | succ n ih =>
    intro i h
    rw [near_step] at h ⊢
    by_cases c : dP xs a b n < dP xs a b (nearF xs a b n)
    · rw [if_pos c] at h ⊢
      have := near_min xs a b n i (by omega)
      omega
    · rw [if_neg c] at h ⊢
      exact ih i h
theorem idxF_mem (p : Nat → Prop) (n : Nat) (x : Int) : x ∈ idxF p n ↔ ∃ i : Nat, i < n ∧ p i ∧ x = (i : Int) := by
  induction n with
  | zero => exact ⟨fun h => (by cases h), fun ⟨i, h, _⟩ => (by omega)⟩
  | succ n ih =>
    by_cases c : p n
    · rw [idxF_yes c, List.mem_append, ih, List.mem_singleton]
      constructor
      · rintro (⟨i, h1, h2, h3⟩ | h)
        · exact ⟨i, by omega, h2, h3⟩
        · exact ⟨n, by omega, c, h⟩
      · rintro ⟨i, h1, h2, h3⟩
        by_cases e : i = n
        · subst e; exact .inr h3
        · exact .inl ⟨i, by omega, h2, h3⟩
    · rw [idxF_no c, ih]
      constructor
      · rintro ⟨i, h1, h2, h3⟩; exact ⟨i, by omega, h2, h3⟩
      · rintro ⟨i, h1, h2, h3⟩
        by_cases e : i = n
        · subst e; exact absurd h2 c
        · exact ⟨i, by omega, h2, h3⟩
theorem rd_at {l : List Int} {k : Nat} (h : k < l.length) : rd l (k : Int) = l[k] := by
  unfold rd
  rw [Int.toNat_natCast, List.getD_eq_getElem?_getD, List.getElem?_eq_getElem h]
  rfl
/-- A list of numbers from 0 to n - 1 that rises. -/
def Rise (n : Nat) (l : List Int) : Prop := (∀ k : Nat, k < l.length → 0 ≤ rd l k ∧ rd l k < n) ∧ ∀ k : Nat, k + 1 < l.length → rd l (k : Int) < rd l ((k + 1 : Nat) : Int)
theorem rd_left {l m : List Int} {k : Nat} (h : k < l.length) : rd (l ++ m) (k : Int) = rd l (k : Int) := by
  unfold rd
  rw [Int.toNat_natCast, List.getD_eq_getElem?_getD, List.getD_eq_getElem?_getD, List.getElem?_append_left h]
theorem rd_last (l : List Int) (x : Int) : rd (l ++ [x]) (l.length : Int) = x := by
  unfold rd
  rw [Int.toNat_natCast, List.getD_eq_getElem?_getD, List.getElem?_append_right (Nat.le_refl _), Nat.sub_self]
  rfl
theorem idxF_rise (p : Nat → Prop) (n : Nat) : Rise n (idxF p n) := by
  induction n with
  | zero => exact ⟨fun k h => by simp [idxF] at h, fun k h => by simp [idxF] at h⟩
  | succ n ih =>
    by_cases c : p n
    · rw [idxF_yes c]
      refine ⟨fun k hk => ?_, fun k hk => ?_⟩
      · rw [List.length_append] at hk
        by_cases e : k = (idxF p n).length
        · subst e; rw [rd_last]; omega
        · have hk' : k < (idxF p n).length := by simp at hk; omega
          rw [rd_left hk']
          have := ih.1 k hk'
          omega
      · rw [List.length_append] at hk
        have hk' : k < (idxF p n).length := by simp at hk; omega
        rw [rd_left hk']
        by_cases e : k + 1 = (idxF p n).length
        · rw [e, rd_last]; exact (ih.1 k hk').2
        · have hk2 : k + 1 < (idxF p n).length := by simp at hk; omega
          rw [rd_left hk2]
          exact ih.2 k hk2
    · rw [idxF_no c]
      exact ⟨fun k hk => by have := ih.1 k hk; omega, ih.2⟩
theorem idxF_head (p : Nat → Prop) (n k : Nat) (hk : k < n) (hp : p k) (hn : ∀ i : Nat, i < k → ¬ p i) : 0 < (idxF p n).length ∧ rd (idxF p n) 0 = (k : Int) := by
  induction n with
  | zero => omega
  | succ n ih =>
    by_cases e : k = n
    · subst e
      have z : idxF p k = [] := by
        refine List.eq_nil_iff_forall_not_mem.2 (fun x hx => ?_)
        obtain ⟨i, h1, h2, _⟩ := (idxF_mem p k x).1 hx
        exact hn i h1 h2
      rw [idxF_yes hp, z]
      exact ⟨by simp, rfl⟩
    · obtain ⟨h1, h2⟩ := ih (by omega)
      by_cases c : p n
      · rw [idxF_yes c]
        refine ⟨by simp, ?_⟩
        have := rd_left (m := [(n : Int)]) h1
        exact this.trans h2
      · rw [idxF_no c]; exact ⟨h1, h2⟩
theorem mx_step (xs : List Sp) (i : Int) (m : Nat) : mxD xs i (m + 1) = if dS xs i m < mxD xs i m then mxD xs i m else dS xs i m := rfl
theorem mx_ge (xs : List Sp) (i : Int) : ∀ m j : Nat, j < m → dS xs i j ≤ mxD xs i m := by
  intro m
  induction m with
  | zero => intro j h; omega
  | succ m ih =>
    intro j h
    rw [mx_step]
    by_cases e : j = m
    · subst e; split <;> omega
    · have := ih j (by omega); split <;> omega
theorem mx_le (xs : List Sp) (i : Int) (B : Int) (h0 : 0 ≤ B) : ∀ m : Nat, (∀ j : Nat, j < m → dS xs i j ≤ B) → mxD xs i m ≤ B := by
  intro m
  induction m with
  | zero => intro _; exact h0
  | succ m ih =>
    intro h
    rw [mx_step]
    have := ih (fun j hj => h j (by omega))
    have := h m (by omega)
    split <;> omega
theorem ms_step (xs : List Sp) (m : Nat) : msD xs (m + 1) = if (msD xs m).2 < 0 ∨ mxD xs m xs.length < (msD xs m).2 then ((m : Int), mxD xs m xs.length) else msD xs m := rfl
theorem ms_facts (xs : List Sp) : ∀ m : Nat, 1 ≤ m → 0 ≤ (msD xs m).1 ∧ (msD xs m).1 < m ∧ (msD xs m).2 = mxD xs (msD xs m).1 xs.length ∧ ∀ i : Nat, i < m → (msD xs m).2 ≤ mxD xs i xs.length := by
  intro m
  induction m with
  | zero => intro h; omega
  | succ m ih =>
    intro _
    rw [ms_step]
    by_cases c : (msD xs m).2 < 0 ∨ mxD xs m xs.length < (msD xs m).2
    · rw [if_pos c]
      refine ⟨by show (0 : Int) ≤ m; omega, by show (m : Int) < ((m + 1 : Nat) : Int); omega, rfl, fun i hi => ?_⟩
      show mxD xs m xs.length ≤ _
      by_cases e : i = m
      · subst e; exact Int.le_refl _
      · have hm : 1 ≤ m := by omega
        obtain ⟨_, _, h3, h4⟩ := ih hm
        have := h4 i (by omega)
        have := (mxD_bd xs (msD xs m).1 xs.length).1
        rcases c with c | c <;> omega
    · rw [if_neg c]
      have hm : 1 ≤ m := by
        rcases Nat.eq_zero_or_pos m with z | z
        · subst z; exact absurd (.inl (by show (-1 : Int) < 0; omega)) c
        · exact z
      obtain ⟨h1, h2, h3, h4⟩ := ih hm
      refine ⟨h1, by omega, h3, fun i hi => ?_⟩
      by_cases e : i = m
      · subst e
        have : ¬ mxD xs i xs.length < (msD xs i).2 := fun q => c (.inr q)
        omega
      · exact h4 i (by omega)
theorem fpI_ge (xs : List Sp) (i : Int) (s : Int × Int) : ∀ d : Nat, dS xs s.1 s.2 ≤ dS xs (fpI xs i s d).1 (fpI xs i s d).2 ∧ ∀ e : Nat, e < d → dS xs i (i + 1 + e) ≤ dS xs (fpI xs i s d).1 (fpI xs i s d).2 := by
  intro d
  induction d with
  | zero => exact ⟨Int.le_refl _, fun e h => by omega⟩
  | succ d ih =>
    obtain ⟨h1, h2⟩ := ih
    rw [fpI_step]
    by_cases c : dS xs (fpI xs i s d).1 (fpI xs i s d).2 < dS xs i (i + 1 + d)
    · rw [if_pos c]
      refine ⟨by show _ ≤ dS xs i (i + 1 + d); omega, fun e he => ?_⟩
      show _ ≤ dS xs i (i + 1 + d)
      by_cases q : e = d
      · subst q; exact Int.le_refl _
      · have := h2 e (by omega); omega
    · rw [if_neg c]
      refine ⟨h1, fun e he => ?_⟩
      by_cases q : e = d
      · subst q; omega
      · exact h2 e (by omega)
theorem fpI_lt (xs : List Sp) (i : Int) (s : Int × Int) (hs : s.1 < s.2) : ∀ d : Nat, (fpI xs i s d).1 < (fpI xs i s d).2 := by
  intro d
  induction d with
  | zero => exact hs
  | succ d ih =>
    rw [fpI_step]
    split
    · show i < i + 1 + (d : Int); omega
    · exact ih
theorem fpO_step (xs : List Sp) (n i : Nat) : fpO xs n (i + 1) = fpI xs i (fpO xs n i) (n - 1 - i) := rfl
theorem fpO_facts (xs : List Sp) (n : Nat) : ∀ m : Nat, (fpO xs n m).1 < (fpO xs n m).2 ∧ ∀ i j : Nat, i < m → i < j → j < n → dS xs i j ≤ dS xs (fpO xs n m).1 (fpO xs n m).2 := by
  intro m
  induction m with
  | zero => exact ⟨by show (0 : Int) < 1; omega, fun i j h => by omega⟩
  | succ m ih =>
    obtain ⟨h1, h2⟩ := ih
    rw [fpO_step]
    obtain ⟨g1, g2⟩ := fpI_ge xs m (fpO xs n m) (n - 1 - m)
    refine ⟨fpI_lt xs m _ h1 _, fun i j hi hj hn => ?_⟩
    by_cases e : i = m
    · subst e
      have := g2 (j - i - 1) (by omega)
      rwa [show (i : Int) + 1 + ((j - i - 1 : Nat) : Int) = (j : Int) by omega] at this
    · have := h2 i j (by omega) hj hn
      omega
/-- The greatest distance of all. -/
noncomputable def grF (xs : List Sp) : Nat → Int
  | 0 => 0
  | m + 1 => if mxD xs m xs.length < grF xs m then grF xs m else mxD xs m xs.length
theorem gr_step (xs : List Sp) (m : Nat) : grF xs (m + 1) = if mxD xs m xs.length < grF xs m then grF xs m else mxD xs m xs.length := rfl
theorem gr_ge (xs : List Sp) : ∀ m i : Nat, i < m → mxD xs i xs.length ≤ grF xs m := by
  intro m
  induction m with
  | zero => intro i h; omega
  | succ m ih =>
    intro i h
    rw [gr_step]
    by_cases e : i = m
    · subst e; split <;> omega
    · have := ih i (by omega); split <;> omega
theorem gr_le (xs : List Sp) (B : Int) (h0 : 0 ≤ B) : ∀ m : Nat, (∀ i : Nat, i < m → mxD xs i xs.length ≤ B) → grF xs m ≤ B := by
  intro m
  induction m with
  | zero => intro _; exact h0
  | succ m ih =>
    intro h
    rw [gr_step]
    have := ih (fun j hj => h j (by omega))
    have := h m (by omega)
    split <;> omega
theorem dS_bd (xs : List Sp) (i j : Int) : 0 ≤ dS xs i j ∧ dS xs i j ≤ 648000 := dist_bd _ _ _ _
theorem dS_self (xs : List Sp) (i : Int) : dS xs i i = 0 := by unfold dS dist; rw [if_pos ⟨rfl, rfl⟩]
theorem dS_sym (xs : List Sp) (i j : Int) : dS xs j i = dS xs i j := dist_sym _ _ _ _
/-- The farthest pair is as far apart as any. -/
theorem far_great (xs : List Sp) (h : 2 ≤ xs.length) : dS xs (fpO xs xs.length xs.length).1 (fpO xs xs.length xs.length).2 = grF xs xs.length := by
  obtain ⟨h1, h2⟩ := fpO_facts xs xs.length xs.length
  obtain ⟨p0, p1, p2, p3⟩ := fpO_in xs h xs.length (Nat.le_refl _)
  obtain ⟨x, hx⟩ := Int.eq_ofNat_of_zero_le p0
  obtain ⟨y, hy⟩ := Int.eq_ofNat_of_zero_le p2
  have hg : dS xs (fpO xs xs.length xs.length).1 (fpO xs xs.length xs.length).2 ≤ grF xs xs.length := by
    have q1 := gr_ge xs xs.length x (by omega)
    have q2 := mx_ge xs x xs.length y (by omega)
    rw [hx, hy]
    omega
  have hl : grF xs xs.length ≤ dS xs (fpO xs xs.length xs.length).1 (fpO xs xs.length xs.length).2 := by
    refine gr_le xs _ (dS_bd _ _ _).1 _ (fun i hi => mx_le xs i _ (dS_bd _ _ _).1 _ (fun j hj => ?_))
    rcases Nat.lt_trichotomy i j with c | c | c
    · exact h2 i j hi c hj
    · subst c; rw [dS_self]; exact (dS_bd _ _ _).1
    · rw [← dS_sym]; exact h2 j i (by omega) c hi
  omega
end Go.Proofs.Ytkfbbaaniglaeaa.Con
end
