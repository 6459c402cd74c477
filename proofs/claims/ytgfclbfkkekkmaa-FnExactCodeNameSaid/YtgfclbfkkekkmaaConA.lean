/- Contracts of the program's functions on whole numbers: each returns what the named Lean function tells, for arguments in the stated bounds. -/
import Derived.Test.YtgfclbfkkekkmaaMth
import Derived.Test.YtgfclbfkkekkmaaProg
import Derived.WalkKit
import Derived.WalkSpells
import Derived.Deep.QuietTactic
import Derived.BigQuiet
import Derived.Outline
import Derived.Deep.DeepCutAuto
namespace Go.Proofs.Ytgfclbfkkekkmaa.Con
open Go.RowKit Go.Proofs.YtgfclbfkkekkmaaW.PrintWords Go.Proofs.YtgfclbfkkekkmaaW.PrintLast Go.Proofs.YtgfclbfkkekkmaaW.PrintMore Go.Proofs.Ytgfclbfkkekkmaa.Mth
attribute [local go_sem] max2_int min2_int max_two min_two max_three min_three
set_option linter.unusedVariables false
set_option linter.unusedSimpArgs false
theorem ret_int {k : IntKind} {a b : Int} (h : a = b) : Ending.returned (.int k a) = .returned (.int k b) := by rw [h]
theorem ret_two {k : IntKind} {a b c d : Int} (h : (a, c) = (b, d)) : Ending.returned (.tuple #[.int k a, .int k c]) = .returned (.tuple #[.int k b, .int k d]) := by cases h; rfl
theorem quiet0 {P : Program} {f : FuncId} {args : Array Value} {w : World} {n : Nat} {v : Value}
    (h : Calls P f args (w.drewN n) fun e w' => e = .returned v ∧ Drawn0 (w.drewN n) w') : Calls P f args (w.drewN n) fun e w'' => e = .returned v ∧ ∃ m, w'' = w.drewN m :=
  Calls.quiet_of (h.mono fun _ _ ⟨he, ⟨hm⟩⟩ => ⟨he, hm⟩)
theorem pair_eq {a b : Int} {p : Int × Int} (h : p = (a, b)) : Ending.returned (.tuple #[.int .i64 a, .int .i64 b]) = .returned (.tuple #[.int .i64 p.1, .int .i64 p.2]) := by rw [h]
theorem dec (p : Prop) [Decidable p] : (p ∧ Aside0 (decide p = true)) ∨ (¬ p ∧ Aside0 (decide p = false)) := by
  by_cases h : p
  · exact Or.inl ⟨h, Aside0.mk (decide_eq_true h)⟩
  · exact Or.inr ⟨h, Aside0.mk (decide_eq_false h)⟩
theorem impl_within_c (a b c : Int) (w : World) : Calls Try.prog 43 #[.int .i64 a, .int .i64 b, .int .i64 c] w fun e w' => e = .returned (.bool (decide (b ≤ a ∧ a ≤ c))) ∧ Drawn0 w w' := by
  by_cases h : b ≤ a
  all_goals
    go_enter Try.func43, Try.ntmps43
    go_wp2
    go_ret
    exact ⟨by simp; omega, Drawn0.refl _⟩
theorem impl_within_d {a b c : Int} {r : Bool} (w : World) (hr : decide (b ≤ a ∧ a ≤ c) = r) : Calls Try.prog 43 #[.int .i64 a, .int .i64 b, .int .i64 c] w fun e w' => e = .returned (.bool (r)) ∧ Drawn0 w w' := by
  subst hr; exact impl_within_c a b c w
theorem spec_l00In_c (a b c : Int) (w : World) : Calls Try.prog 45 #[.int .i64 a, .int .i64 b, .int .i64 c] w fun e w' => e = .returned (.bool (decide (b ≤ a ∧ a ≤ c))) ∧ Drawn0 w w' := by
  by_cases h : b ≤ a
  all_goals
    go_enter Try.func45, Try.ntmps45
    go_wp2
    go_ret
    exact ⟨by simp; omega, Drawn0.refl _⟩
theorem spec_l00In_d {a b c : Int} {r : Bool} (w : World) (hr : decide (b ≤ a ∧ a ≤ c) = r) : Calls Try.prog 45 #[.int .i64 a, .int .i64 b, .int .i64 c] w fun e w' => e = .returned (.bool (r)) ∧ Drawn0 w w' := by
  subst hr; exact spec_l00In_c a b c w
theorem impl_floorDiv_c {a b : Int} (w : World) (hb : 0 < b) (h0 : -4611686018427387904 ≤ a) (h1 : a ≤ 4611686018427387904) : Calls Try.prog 71 #[.int .i64 a, .int .i64 b] w fun e w' => e = .returned (.int .i64 (a / b)) ∧ Drawn0 w w' := by
  have hz : (b == 0) = false := by simp; omega
  by_cases h : Int.tmod a b < 0
  · have hf := Aside0.mk (floor_neg hb h0 h1 h)
    go_enter Try.func71, Try.ntmps71
    go_wp2
    go_ret
    exact ⟨ret_int hf.out, Drawn0.refl _⟩
  · have hf := Aside0.mk (floor_pos2 hb h)
    go_enter Try.func71, Try.ntmps71
    go_wp2
    go_ret
    exact ⟨ret_int hf.out, Drawn0.refl _⟩
theorem spec_l00Floor_c {a b : Int} (w : World) (hb : 0 < b) (h0 : -4611686018427387904 ≤ a) (h1 : a ≤ 4611686018427387904) : Calls Try.prog 76 #[.int .i64 a, .int .i64 b] w fun e w' => e = .returned (.int .i64 (a / b)) ∧ Drawn0 w w' := by
  have hz : (b == 0) = false := by simp; omega
  by_cases h : Int.tmod a b < 0
  · have hf := Aside0.mk (floor_neg hb h0 h1 h)
    go_enter Try.func76, Try.ntmps76
    go_wp2
    go_ret
    exact ⟨ret_int hf.out, Drawn0.refl _⟩
  · have hf := Aside0.mk (floor_pos2 hb h)
    go_enter Try.func76, Try.ntmps76
    go_wp2
    go_ret
    exact ⟨ret_int hf.out, Drawn0.refl _⟩
theorem impl_nearest_c {a b : Int} (w : World) (hb : 0 < b) (hb' : b ≤ 1000000000000000000) (h0 : -2000000000000000000 ≤ a) (h1 : a ≤ 1700000000000000000) : Calls Try.prog 74 #[.int .i64 a, .int .i64 b] w fun e w' => e = .returned (.int .i64 (near a b)) ∧ Drawn0 w w' := by
  go_enter Try.func74, Try.ntmps74
  go_wp2_with (go_at_call 71; refine (impl_floorDiv_c _ (by omega) (by omega) (by omega)).mono ?_; rintro e w' ⟨rfl, ⟨nd, rfl⟩⟩)
  go_ret
  exact ⟨rfl, by repeat (first | exact Drawn0.refl _ | apply Drawn0.step)⟩
theorem spec_l00Round_c {a b : Int} (w : World) (hb : 0 < b) (hb' : b ≤ 1000000000000000000) (h0 : -2000000000000000000 ≤ a) (h1 : a ≤ 1700000000000000000) : Calls Try.prog 73 #[.int .i64 a, .int .i64 b] w fun e w' => e = .returned (.int .i64 (near a b)) ∧ Drawn0 w w' := by
  go_enter Try.func73, Try.ntmps73
  go_wp2_with (go_at_call 76; refine (spec_l00Floor_c _ (by omega) (by omega) (by omega)).mono ?_; rintro e w' ⟨rfl, ⟨nd, rfl⟩⟩)
  go_ret
  exact ⟨rfl, by repeat (first | exact Drawn0.refl _ | apply Drawn0.step)⟩
theorem impl_around_c {a : Int} (w : World) : Calls Try.prog 65 #[.int .i64 a] w fun e w' => e = .returned (.int .i64 (a % 1296000)) ∧ Drawn0 w w' := by
  go_enter Try.func65, Try.ntmps65
  go_wp2
  go_ret
  exact ⟨by simp [around_f], Drawn0.refl _⟩
theorem impl_isAngle_c {a : Int} {r : Bool} (w : World) (hr : decide (angOk a) = r) : Calls Try.prog 48 #[.int .i64 a] w fun e w' => e = .returned (.bool (r)) ∧ Drawn0 w w' := by
  go_enter Try.func48, Try.ntmps48
  go_wp2_with (first | (go_at_call 43; (with_reducible refine (impl_within_c a _ _ _).mono ?_); rintro e w' ⟨rfl, ⟨nd, rfl⟩⟩))
  go_ret
  exact ⟨by subst hr; rfl, by repeat (first | exact Drawn0.refl _ | apply Drawn0.step)⟩
theorem spec_l02Angle_c {a : Int} {r : Bool} (w : World) (hr : decide (angOk a) = r) : Calls Try.prog 46 #[.int .i64 a] w fun e w' => e = .returned (.bool (r)) ∧ Drawn0 w w' := by
  go_enter Try.func46, Try.ntmps46
  go_wp2_with (first | (go_at_call 45; (with_reducible refine (spec_l00In_c a _ _ _).mono ?_); rintro e w' ⟨rfl, ⟨nd, rfl⟩⟩))
  go_ret
  exact ⟨by subst hr; rfl, by repeat (first | exact Drawn0.refl _ | apply Drawn0.step)⟩
theorem impl_sine_half_c {y : Int} (w : World) (h0 : 0 ≤ y) (h1 : y < 648000) : Calls Try.prog 69 #[.int .i64 y] w fun e w' => e = .returned (.int .i64 (H y)) ∧ Drawn0 w w' := by
  have m0 : 0 ≤ y * (648000 - y) := P_nn h0 (by omega)
  have m1 : y * (648000 - y) ≤ 104976000000 := P_le y
  go_enter Try.func69, Try.ntmps69
  go_wp2_with (first | (go_at_call 65; refine (impl_around_c _).mono ?_; rintro e w' ⟨rfl, ⟨nd, rfl⟩⟩; rw [show y % 1296000 = y by omega]) | (go_at_call 74; (with_reducible refine (impl_nearest_c _ (by omega) (by omega) (by omega) (by omega)).mono ?_); rintro e w' ⟨rfl, ⟨nd, rfl⟩⟩))
  go_ret
  exact ⟨rfl, by repeat (first | exact Drawn0.refl _ | apply Drawn0.step)⟩
theorem impl_sine_c {x : Int} (w : World) : Calls Try.prog 69 #[.int .i64 x] w fun e w' => e = .returned (.int .i64 (S x)) ∧ Drawn0 w w' := by
  by_cases h : 648000 ≤ x % 1296000
  · have a := H_nn (y := x % 1296000 - 648000) (by omega) (by omega)
    have b := H_le (y := x % 1296000 - 648000) (by omega) (by omega)
    have c : x % 1296000 < 1296000 := by omega
    have f := Aside0.mk (show S x = -H (x % 1296000 - 648000) from if_pos h)
    go_enter Try.func69, Try.ntmps69
    go_wp2_with (first | (go_at_call 65; (with_reducible refine (impl_around_c _).mono ?_); rintro e w' ⟨rfl, ⟨nd, rfl⟩⟩) | (go_at_call 69; (with_reducible refine (impl_sine_half_c _ (by omega) (by omega)).mono ?_); rintro e w' ⟨rfl, ⟨nd, rfl⟩⟩))
    go_ret
    exact ⟨ret_int f.out.symm, by repeat (first | exact Drawn0.refl _ | apply Drawn0.step)⟩
  · have c : 0 ≤ x % 1296000 := by omega
    have h' : x % 1296000 < 648000 := by omega
    have m0 : 0 ≤ x % 1296000 * (648000 - x % 1296000) := P_nn c (by omega)
    have m1 : x % 1296000 * (648000 - x % 1296000) ≤ 104976000000 := P_le _
    have f := Aside0.mk (show S x = H (x % 1296000) from if_neg h)
    go_enter Try.func69, Try.ntmps69
    go_wp2_with (first | (go_at_call 65; (with_reducible refine (impl_around_c _).mono ?_); rintro e w' ⟨rfl, ⟨nd, rfl⟩⟩) | (go_at_call 74; (with_reducible refine (impl_nearest_c _ (by omega) (by omega) (by omega) (by omega)).mono ?_); rintro e w' ⟨rfl, ⟨nd, rfl⟩⟩))
    go_ret
    exact ⟨ret_int f.out.symm, by repeat (first | exact Drawn0.refl _ | apply Drawn0.step)⟩
theorem impl_cosine_c {x : Int} (w : World) (h : -4000000000000000000 ≤ x) (h' : x ≤ 4000000000000000000) : Calls Try.prog 70 #[.int .i64 x] w fun e w' => e = .returned (.int .i64 (Co x)) ∧ Drawn0 w w' := by
  go_enter Try.func70, Try.ntmps70
  go_wp2_with (first | (go_at_call 69; (with_reducible refine (impl_sine_c _).mono ?_); rintro e w' ⟨rfl, ⟨nd, rfl⟩⟩))
  go_ret
  exact ⟨rfl, by repeat (first | exact Drawn0.refl _ | apply Drawn0.step)⟩
theorem impl_wrap_c {a : Int} (w : World) (h : -4000000000000000000 ≤ a) (h' : a ≤ 4000000000000000000) : Calls Try.prog 49 #[.int .i64 a] w fun e w' => e = .returned (.int .i64 (W a)) ∧ Drawn0 w w' := by
  have c : 0 ≤ (a + 648000) % 1296000 := by omega
  have d : (a + 648000) % 1296000 < 1296000 := by omega
  go_enter Try.func49, Try.ntmps49
  go_wp2_with (first | (go_at_call 65; (with_reducible refine (impl_around_c _).mono ?_); rintro e w' ⟨rfl, ⟨nd, rfl⟩⟩))
  go_ret
  exact ⟨rfl, by repeat (first | exact Drawn0.refl _ | apply Drawn0.step)⟩
theorem spec_l02Wrap_c {a : Int} (w : World) (h : -4000000000000000000 ≤ a) (h' : a ≤ 4000000000000000000) : Calls Try.prog 47 #[.int .i64 a] w fun e w' => e = .returned (.int .i64 (W a)) ∧ Drawn0 w w' := by
  by_cases h0 : 0 ≤ a + 648000
  · have c : 0 ≤ (a + 648000) % 1296000 := by omega
    have d : (a + 648000) % 1296000 < 1296000 := by omega
    go_enter Try.func47, Try.ntmps47
    go_wp2
    go_ret
    exact ⟨rfl, by repeat (first | exact Drawn0.refl _ | apply Drawn0.step)⟩
  · have ht := tmod_T (a + 648000)
    rw [if_neg h0] at ht
    have t0 : -1296000 < Int.tmod (a + 648000) 1296000 := by omega
    have t1 : Int.tmod (a + 648000) 1296000 ≤ 0 := by omega
    have f1 : Int.tmod (a + 648000) 1296000 < 0 → Int.tmod (a + 648000) 1296000 + 1296000 - 648000 = W a := by unfold W; omega
    have f2 : ¬ Int.tmod (a + 648000) 1296000 < 0 → Int.tmod (a + 648000) 1296000 - 648000 = W a := by unfold W; omega
    clear ht
    generalize hz : Int.tmod (a + 648000) 1296000 = t at t0 t1 f1 f2
    by_cases g : t < 0
    · have f := Aside0.mk (f1 g)
      clear f1 f2
      go_enter Try.func47, Try.ntmps47
      go_wp2
      go_ret
      exact ⟨ret_int (by rw [← f.out]), by repeat (first | exact Drawn0.refl _ | apply Drawn0.step)⟩
    · have f := Aside0.mk (f2 g)
      clear f1 f2
      go_enter Try.func47, Try.ntmps47
      go_wp2
      go_ret
      exact ⟨ret_int f.out, by repeat (first | exact Drawn0.refl _ | apply Drawn0.step)⟩
end Go.Proofs.Ytgfclbfkkekkmaa.Con
