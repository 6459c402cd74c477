/- Contracts of the program's functions on whole numbers: each returns what the named Lean function tells, for arguments in the stated bounds. -/
import Derived.Test.YtkfbbaaniglaeaaMth
import Derived.Test.YtkfbbaaniglaeaaProg
import Derived.WalkKit
import Derived.WalkSpells
import Derived.Deep.QuietTactic
import Derived.BigQuiet
import Derived.Outline
import Derived.Deep.DeepCutAuto
namespace Go.Proofs.Ytkfbbaaniglaeaa.Con
open Go.RowKit Go.Proofs.YtkfbbaaniglaeaaW.PrintWords Go.Proofs.YtkfbbaaniglaeaaW.PrintLast Go.Proofs.YtkfbbaaniglaeaaW.PrintMore Go.Proofs.Ytkfbbaaniglaeaa.Mth
attribute [local go_sem] max2_int min2_int max_two min_two max_three min_three
set_option linter.unusedVariables false
set_option linter.unusedSimpArgs false
theorem ret_int {k : IntKind} {a b : Int} (h : a = b) : Ending.returned (.int k a) = .returned (.int k b) := by rw [h]
theorem ret_two {k : IntKind} {a b c d : Int} (h : (a, c) = (b, d)) : Ending.returned (.tuple #[.int k a, .int k c]) = .returned (.tuple #[.int k b, .int k d]) := by cases h; rfl
theorem quiet0 {P : Program} {f : FuncId} {args : Array Value} {w : World} {n : Nat} {v : Value}
    (h : Calls P f args (w.drewN n) fun e w' => e = .returned v ∧ Drawn0 (w.drewN n) w') : Calls P f args (w.drewN n) fun e w'' => e = .returned v ∧ ∃ m, w'' = w.drewN m :=
  Calls.quiet_of (h.mono fun _ _ ⟨he, ⟨hm⟩⟩ => ⟨he, hm⟩)
theorem pair_eq {a b : Int} {p : Int × Int} (h : p = (a, b)) : Ending.returned (.tuple #[.int .i64 a, .int .i64 b]) = .returned (.tuple #[.int .i64 p.1, .int .i64 p.2]) := by rw [h]
theorem dec (p : Prop) [Decidable p] : (p ∧ Aside0 (decide p = true)) ∨ (¬ p ∧ Aside0 (decide p = false)) := by
  by_cases h : p
  · exact Or.inl ⟨h, Aside0.mk (decide_eq_true h)⟩
  · exact Or.inr ⟨h, Aside0.mk (decide_eq_false h)⟩
theorem impl_within_c (a b c : Int) (w : World) : Calls Try.prog 136 #[.int .i64 a, .int .i64 b, .int .i64 c] w fun e w' => e = .returned (.bool (decide (b ≤ a ∧ a ≤ c))) ∧ Drawn0 w w' := by
  by_cases h : b ≤ a
  all_goals
    go_enter Try.func136, Try.ntmps136
    go_wp2
    go_ret
    exact ⟨by simp; omega, Drawn0.refl _⟩
theorem impl_within_d {a b c : Int} {r : Bool} (w : World) (hr : decide (b ≤ a ∧ a ≤ c) = r) : Calls Try.prog 136 #[.int .i64 a, .int .i64 b, .int .i64 c] w fun e w' => e = .returned (.bool (r)) ∧ Drawn0 w w' := by
  subst hr; exact impl_within_c a b c w
theorem spec_l00In_c (a b c : Int) (w : World) : Calls Try.prog 144 #[.int .i64 a, .int .i64 b, .int .i64 c] w fun e w' => e = .returned (.bool (decide (b ≤ a ∧ a ≤ c))) ∧ Drawn0 w w' := by
  by_cases h : b ≤ a
  all_goals
    go_enter Try.func144, Try.ntmps144
    go_wp2
    go_ret
    exact ⟨by simp; omega, Drawn0.refl _⟩
theorem spec_l00In_d {a b c : Int} {r : Bool} (w : World) (hr : decide (b ≤ a ∧ a ≤ c) = r) : Calls Try.prog 144 #[.int .i64 a, .int .i64 b, .int .i64 c] w fun e w' => e = .returned (.bool (r)) ∧ Drawn0 w w' := by
  subst hr; exact spec_l00In_c a b c w
theorem impl_floorDiv_c {a b : Int} (w : World) (hb : 0 < b) (h0 : -4611686018427387904 ≤ a) (h1 : a ≤ 4611686018427387904) : Calls Try.prog 172 #[.int .i64 a, .int .i64 b] w fun e w' => e = .returned (.int .i64 (a / b)) ∧ Drawn0 w w' := by
  have hz : (b == 0) = false := by simp; omega
  by_cases h : Int.tmod a b < 0
  · have hf := Aside0.mk (floor_neg hb h0 h1 h)
    go_enter Try.func172, Try.ntmps172
    go_wp2
    go_ret
    exact ⟨ret_int hf.out, Drawn0.refl _⟩
  · have hf := Aside0.mk (floor_pos2 hb h)
    go_enter Try.func172, Try.ntmps172
    go_wp2
    go_ret
    exact ⟨ret_int hf.out, Drawn0.refl _⟩
theorem spec_l00Floor_c {a b : Int} (w : World) (hb : 0 < b) (h0 : -4611686018427387904 ≤ a) (h1 : a ≤ 4611686018427387904) : Calls Try.prog 197 #[.int .i64 a, .int .i64 b] w fun e w' => e = .returned (.int .i64 (a / b)) ∧ Drawn0 w w' := by
  have hz : (b == 0) = false := by simp; omega
  by_cases h : Int.tmod a b < 0
  · have hf := Aside0.mk (floor_neg hb h0 h1 h)
    go_enter Try.func197, Try.ntmps197
    go_wp2
    go_ret
    exact ⟨ret_int hf.out, Drawn0.refl _⟩
  · have hf := Aside0.mk (floor_pos2 hb h)
    go_enter Try.func197, Try.ntmps197
    go_wp2
    go_ret
    exact ⟨ret_int hf.out, Drawn0.refl _⟩
theorem impl_nearest_c {a b : Int} (w : World) (hb : 0 < b) (hb' : b ≤ 1000000000000000000) (h0 : -2000000000000000000 ≤ a) (h1 : a ≤ 1700000000000000000) : Calls Try.prog 185 #[.int .i64 a, .int .i64 b] w fun e w' => e = .returned (.int .i64 (near a b)) ∧ Drawn0 w w' := by
  go_enter Try.func185, Try.ntmps185
  go_wp2_with (go_at_call 172; refine (impl_floorDiv_c _ (by omega) (by omega) (by omega)).mono ?_; rintro e w' ⟨rfl, ⟨nd, rfl⟩⟩)
  go_ret
  exact ⟨rfl, by repeat (first | exact Drawn0.refl _ | apply Drawn0.step)⟩
theorem spec_l00Round_c {a b : Int} (w : World) (hb : 0 < b) (hb' : b ≤ 1000000000000000000) (h0 : -2000000000000000000 ≤ a) (h1 : a ≤ 1700000000000000000) : Calls Try.prog 187 #[.int .i64 a, .int .i64 b] w fun e w' => e = .returned (.int .i64 (near a b)) ∧ Drawn0 w w' := by
  go_enter Try.func187, Try.ntmps187
  go_wp2_with (go_at_call 197; refine (spec_l00Floor_c _ (by omega) (by omega) (by omega)).mono ?_; rintro e w' ⟨rfl, ⟨nd, rfl⟩⟩)
  go_ret
  exact ⟨rfl, by repeat (first | exact Drawn0.refl _ | apply Drawn0.step)⟩
theorem impl_around_c {a : Int} (w : World) : Calls Try.prog 178 #[.int .i64 a] w fun e w' => e = .returned (.int .i64 (a % 1296000)) ∧ Drawn0 w w' := by
  go_enter Try.func178, Try.ntmps178
  go_wp2
  go_ret
  exact ⟨by simp [around_f], Drawn0.refl _⟩
theorem impl_sine_half_c {y : Int} (w : World) (h0 : 0 ≤ y) (h1 : y < 648000) : Calls Try.prog 198 #[.int .i64 y] w fun e w' => e = .returned (.int .i64 (H y)) ∧ Drawn0 w w' := by
  have m0 : 0 ≤ y * (648000 - y) := P_nn h0 (by omega)
  have m1 : y * (648000 - y) ≤ 104976000000 := P_le y
  go_enter Try.func198, Try.ntmps198
  go_wp2_with (first | (go_at_call 178; refine (impl_around_c _).mono ?_; rintro e w' ⟨rfl, ⟨nd, rfl⟩⟩; rw [show y % 1296000 = y by omega]) | (go_at_call 185; (with_reducible refine (impl_nearest_c _ (by omega) (by omega) (by omega) (by omega)).mono ?_); rintro e w' ⟨rfl, ⟨nd, rfl⟩⟩))
  go_ret
  exact ⟨rfl, by repeat (first | exact Drawn0.refl _ | apply Drawn0.step)⟩
theorem impl_sine_c {x : Int} (w : World) : Calls Try.prog 198 #[.int .i64 x] w fun e w' => e = .returned (.int .i64 (S x)) ∧ Drawn0 w w' := by
  by_cases h : 648000 ≤ x % 1296000
  · have a := H_nn (y := x % 1296000 - 648000) (by omega) (by omega)
    have b := H_le (y := x % 1296000 - 648000) (by omega) (by omega)
    have c : x % 1296000 < 1296000 := by omega
    have f := Aside0.mk (show S x = -H (x % 1296000 - 648000) from if_pos h)
    go_enter Try.func198, Try.ntmps198
    go_wp2_with (first | (go_at_call 178; (with_reducible refine (impl_around_c _).mono ?_); rintro e w' ⟨rfl, ⟨nd, rfl⟩⟩) | (go_at_call 198; (with_reducible refine (impl_sine_half_c _ (by omega) (by omega)).mono ?_); rintro e w' ⟨rfl, ⟨nd, rfl⟩⟩))
    go_ret
    exact ⟨ret_int f.out.symm, by repeat (first | exact Drawn0.refl _ | apply Drawn0.step)⟩
  · have c : 0 ≤ x % 1296000 := by omega
    have h' : x % 1296000 < 648000 := by omega
    have m0 : 0 ≤ x % 1296000 * (648000 - x % 1296000) := P_nn c (by omega)
    have m1 : x % 1296000 * (648000 - x % 1296000) ≤ 104976000000 := P_le _
    have f := Aside0.mk (show S x = H (x % 1296000) from if_neg h)
    go_enter Try.func198, Try.ntmps198
    go_wp2_with (first | (go_at_call 178; (with_reducible refine (impl_around_c _).mono ?_); rintro e w' ⟨rfl, ⟨nd, rfl⟩⟩) | (go_at_call 185; (with_reducible refine (impl_nearest_c _ (by omega) (by omega) (by omega) (by omega)).mono ?_); rintro e w' ⟨rfl, ⟨nd, rfl⟩⟩))
    go_ret
    exact ⟨ret_int f.out.symm, by repeat (first | exact Drawn0.refl _ | apply Drawn0.step)⟩
theorem impl_cosine_c {x : Int} (w : World) (h : -4000000000000000000 ≤ x) (h' : x ≤ 4000000000000000000) : Calls Try.prog 190 #[.int .i64 x] w fun e w' => e = .returned (.int .i64 (Co x)) ∧ Drawn0 w w' := by
  go_enter Try.func190, Try.ntmps190
  go_wp2_with (first | (go_at_call 198; (with_reducible refine (impl_sine_c _).mono ?_); rintro e w' ⟨rfl, ⟨nd, rfl⟩⟩))
  go_ret
  exact ⟨rfl, by repeat (first | exact Drawn0.refl _ | apply Drawn0.step)⟩
theorem spec_l03Sine_half_c {y : Int} (w : World) (h0 : 0 ≤ y) (h1 : y ≤ 648000) : Calls Try.prog 195 #[.int .i64 y] w fun e w' => e = .returned (.int .i64 (H y)) ∧ Drawn0 w w' := by
  have m0 : 0 ≤ y * (648000 - y) := P_nn h0 (by omega)
  have m1 : y * (648000 - y) ≤ 104976000000 := P_le y
  have e := Aside0.mk (show near (16 * (y * (648000 - y)) * 1000000) (2099520000000 - 4 * (y * (648000 - y))) = H y by unfold H Hp P; congr 1; omega)
  have q : y % 1296000 = y := by omega
  go_enter Try.func195, Try.ntmps195
  go_wp2_with (first | (go_at_call 187; (with_reducible refine (spec_l00Round_c _ (by omega) (by omega) (by omega) (by omega)).mono ?_); rintro e w' ⟨rfl, ⟨nd, rfl⟩⟩))
  go_ret
  exact ⟨ret_int e.out, by repeat (first | exact Drawn0.refl _ | apply Drawn0.step)⟩
theorem l03_e (y : Int) : near (16 * (y * (648000 - y)) * 1000000) (2099520000000 - 4 * (y * (648000 - y))) = H y := by unfold H Hp P; congr 1; omega
theorem spec_l03Sine_c {x : Int} (w : World) : Calls Try.prog 195 #[.int .i64 x] w fun e w' => e = .returned (.int .i64 (S x)) ∧ Drawn0 w w' := by
  by_cases hx : 0 ≤ x
  · by_cases h : 648000 < x % 1296000
    · have a := H_nn (y := x % 1296000 - 648000) (by omega) (by omega)
      have b := H_le (y := x % 1296000 - 648000) (by omega) (by omega)
      have c : x % 1296000 < 1296000 := by omega
      have f := Aside0.mk (show S x = -H (x % 1296000 - 648000) from if_pos (by omega))
      go_enter Try.func195, Try.ntmps195
      go_wp2_with (first | (go_at_call 195; (with_reducible refine (spec_l03Sine_half_c _ (by omega) (by omega)).mono ?_); rintro e w' ⟨rfl, ⟨nd, rfl⟩⟩))
      go_ret
      exact ⟨ret_int f.out.symm, by repeat (first | exact Drawn0.refl _ | apply Drawn0.step)⟩
    · have c : 0 ≤ x % 1296000 := by omega
      have h' : x % 1296000 ≤ 648000 := by omega
      have m0 : 0 ≤ x % 1296000 * (648000 - x % 1296000) := P_nn c (by omega)
      have m1 : x % 1296000 * (648000 - x % 1296000) ≤ 104976000000 := P_le _
      have f := Aside0.mk (show near (16 * (x % 1296000 * (648000 - x % 1296000)) * 1000000) (2099520000000 - 4 * (x % 1296000 * (648000 - x % 1296000))) = S x by rw [l03_e, ← S_half c h', S_turn])
      go_enter Try.func195, Try.ntmps195
      go_wp2_with (first | (go_at_call 187; (with_reducible refine (spec_l00Round_c _ (by omega) (by omega) (by omega) (by omega)).mono ?_); rintro e w' ⟨rfl, ⟨nd, rfl⟩⟩))
      go_ret
      exact ⟨ret_int f.out, by repeat (first | exact Drawn0.refl _ | apply Drawn0.step)⟩
  · have ht := tmod_T x
    rw [if_neg hx] at ht
    have t0 : -1296000 < Int.tmod x 1296000 := by omega
    have t1 : Int.tmod x 1296000 ≤ 0 := by omega
    have hc : S (Int.tmod x 1296000) = S x := S_cong (by omega)
    have hc2 : S (Int.tmod x 1296000 + 1296000) = S x := S_cong (by omega)
    clear ht
    generalize ht : Int.tmod x 1296000 = t at t0 t1 hc hc2
    have hc := Aside0.mk hc
    have hc2 := Aside0.mk hc2
    have hz : (x.tmod 1296000) = t := ht
    by_cases h0 : t < 0
    · by_cases h : 648000 < t + 1296000
      · have a := H_nn (y := t + 1296000 - 648000) (by omega) (by omega)
        have b := H_le (y := t + 1296000 - 648000) (by omega) (by omega)
        have f := Aside0.mk (show -H (t + 1296000 - 648000) = S x by rw [← hc2.out]; unfold S; rw [if_pos (by omega)]; congr 2; omega)
        have a' : 0 ≤ H (t + 648000) := by rw [show t + 648000 = t + 1296000 - 648000 by omega]; exact a
        have b' : H (t + 648000) ≤ 1000000 := by rw [show t + 648000 = t + 1296000 - 648000 by omega]; exact b
        go_enter Try.func195, Try.ntmps195
        go_wp2_with (first | (go_at_call 195; (with_reducible refine (spec_l03Sine_half_c _ (by omega) (by omega)).mono ?_); rintro e w' ⟨rfl, ⟨nd, rfl⟩⟩))
        go_ret
        exact ⟨ret_int (by rw [← f.out]), by repeat (first | exact Drawn0.refl _ | apply Drawn0.step)⟩
      · have m0 : 0 ≤ (t + 1296000) * (648000 - (t + 1296000)) := P_nn (by omega) (by omega)
        have m1 : (t + 1296000) * (648000 - (t + 1296000)) ≤ 104976000000 := P_le _
        have f := Aside0.mk (show near (16 * ((t + 1296000) * (648000 - (t + 1296000))) * 1000000) (2099520000000 - 4 * ((t + 1296000) * (648000 - (t + 1296000)))) = S x by rw [l03_e, ← S_half (by omega) (by omega), hc2.out])
        go_enter Try.func195, Try.ntmps195
        go_wp2_with (first | (go_at_call 187; (with_reducible refine (spec_l00Round_c _ (by omega) (by omega) (by omega) (by omega)).mono ?_); rintro e w' ⟨rfl, ⟨nd, rfl⟩⟩))
        go_ret
        exact ⟨ret_int f.out, by repeat (first | exact Drawn0.refl _ | apply Drawn0.step)⟩
    · have h1 : t = 0 := by omega
      subst h1
      have f := Aside0.mk (show near 0 2099520000000 = S x by rw [← hc.out]; decide)
      go_enter Try.func195, Try.ntmps195
      go_wp2_with (first | (go_at_call 187; (with_reducible refine (spec_l00Round_c _ (by omega) (by omega) (by omega) (by omega)).mono ?_); rintro e w' ⟨rfl, ⟨nd, rfl⟩⟩))
      go_ret
      exact ⟨ret_int f.out, by repeat (first | exact Drawn0.refl _ | apply Drawn0.step)⟩
theorem impl_wrap_c {a : Int} (w : World) (h : -4000000000000000000 ≤ a) (h' : a ≤ 4000000000000000000) : Calls Try.prog 170 #[.int .i64 a] w fun e w' => e = .returned (.int .i64 (W a)) ∧ Drawn0 w w' := by
  have c : 0 ≤ (a + 648000) % 1296000 := by omega
  have d : (a + 648000) % 1296000 < 1296000 := by omega
  go_enter Try.func170, Try.ntmps170
  go_wp2_with (first | (go_at_call 178; (with_reducible refine (impl_around_c _).mono ?_); rintro e w' ⟨rfl, ⟨nd, rfl⟩⟩))
  go_ret
  exact ⟨rfl, by repeat (first | exact Drawn0.refl _ | apply Drawn0.step)⟩
theorem spec_l02Wrap_c {a : Int} (w : World) (h : -4000000000000000000 ≤ a) (h' : a ≤ 4000000000000000000) : Calls Try.prog 171 #[.int .i64 a] w fun e w' => e = .returned (.int .i64 (W a)) ∧ Drawn0 w w' := by
  by_cases h0 : 0 ≤ a + 648000
  · have c : 0 ≤ (a + 648000) % 1296000 := by omega
    have d : (a + 648000) % 1296000 < 1296000 := by omega
    go_enter Try.func171, Try.ntmps171
    go_wp2
    go_ret
    exact ⟨rfl, by repeat (first | exact Drawn0.refl _ | apply Drawn0.step)⟩
  · have ht := tmod_T (a + 648000)
    rw [if_neg h0] at ht
    have t0 : -1296000 < Int.tmod (a + 648000) 1296000 := by omega
    have t1 : Int.tmod (a + 648000) 1296000 ≤ 0 := by omega
    have f1 : Int.tmod (a + 648000) 1296000 < 0 → Int.tmod (a + 648000) 1296000 + 1296000 - 648000 = W a := by unfold W; omega
    have f2 : ¬ Int.tmod (a + 648000) 1296000 < 0 → Int.tmod (a + 648000) 1296000 - 648000 = W a := by unfold W; omega
    clear ht
    generalize hz : Int.tmod (a + 648000) 1296000 = t at t0 t1 f1 f2
    by_cases g : t < 0
    · have f := Aside0.mk (f1 g)
      clear f1 f2
      go_enter Try.func171, Try.ntmps171
      go_wp2
      go_ret
      exact ⟨ret_int (by rw [← f.out]), by repeat (first | exact Drawn0.refl _ | apply Drawn0.step)⟩
    · have f := Aside0.mk (f2 g)
      clear f1 f2
      go_enter Try.func171, Try.ntmps171
      go_wp2
      go_ret
      exact ⟨ret_int f.out, by repeat (first | exact Drawn0.refl _ | apply Drawn0.step)⟩
theorem spec_l03Cosine_c {x : Int} (w : World) (h : -4000000000000000000 ≤ x) (h' : x ≤ 4000000000000000000) : Calls Try.prog 188 #[.int .i64 x] w fun e w' => e = .returned (.int .i64 (Co x)) ∧ Drawn0 w w' := by
  go_enter Try.func188, Try.ntmps188
  go_wp2_with (first | (go_at_call 195; (with_reducible refine (spec_l03Sine_c _).mono ?_); rintro e w' ⟨rfl, ⟨nd, rfl⟩⟩))
  go_ret
  exact ⟨rfl, by repeat (first | exact Drawn0.refl _ | apply Drawn0.step)⟩
end Go.Proofs.Ytkfbbaaniglaeaa.Con
