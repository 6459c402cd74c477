/- Contracts of the program's functions on whole numbers, second part. Conditions: as stated. -/
import Derived.Test.YtkfbbaaniglaeaaConA
import Derived.LoopTactic
namespace Go.Proofs.Ytkfbbaaniglaeaa.Con
open Go.RowKit Go.Proofs.YtkfbbaaniglaeaaW.PrintWords Go.Proofs.YtkfbbaaniglaeaaW.PrintLast Go.Proofs.YtkfbbaaniglaeaaW.PrintMore Go.Proofs.Ytkfbbaaniglaeaa.Mth
attribute [local go_sem] max2_int min2_int max_two min_two max_three min_three
set_option linter.unusedVariables false
set_option linter.unusedSimpArgs false
theorem impl_arc_c {s : Int} (w : World) (hs0 : 0 ≤ s) (hs1 : s ≤ 1000000) : Calls Try.prog 184 #[.int .i64 s] w fun e w' => e = .returned (.int .i64 (Ar s)) ∧ Drawn0 w w' := by
  go_enter Try.func184, Try.ntmps184
  go_wp2
  go_loopw [3, 4] (fun v3 v4 wr => ∃ l h : Int, 0 ≤ l ∧ l ≤ h ∧ h ≤ 324000 ∧ s ≤ S h ∧ (∀ y, 0 ≤ y → y < l → S y < s) ∧ v3 = .int .i64 l ∧ v4 = .int .i64 h ∧ Drawn0 w wr) (fun v3 v4 _ => (intOf v4 - intOf v3).toNat)
  case atStart => exact ⟨0, 324000, by omega, by omega, by omega, by rw [S_q]; omega, fun y a b => by omega, rfl, rfl, Drawn0.refl _⟩
  case round =>
    obtain ⟨l, h, a, b, c, e, f, rfl, rfl, hd⟩ := hrel
    have f := Aside0.mk f
    have e := Aside0.mk e
    have hd := Aside0.mk hd
    by_cases hlt : l < h
    · by_cases q : s ≤ S ((l + h) / 2)
      · go_wp2_with ((go_at_call 198; (with_reducible refine (impl_sine_c _).mono ?_); rintro e w' ⟨rfl, ⟨nd, rfl⟩⟩))
        go_roundw
        case rel => exact ⟨l, (l + h) / 2, a, by omega, by omega, q, f.out, rfl, rfl, hd.out.step _⟩
        case measure => simp [intOf]; omega
      · go_wp2_with ((go_at_call 198; (with_reducible refine (impl_sine_c _).mono ?_); rintro e w' ⟨rfl, ⟨nd, rfl⟩⟩))
        go_roundw
        case rel =>
          refine ⟨(l + h) / 2 + 1, h, by omega, by omega, c, e.out, ?_, rfl, rfl, hd.out.step _⟩
          intro y y0 y1
          have := S_mono y0 (show y ≤ (l + h) / 2 by omega) (by omega)
          omega
        case measure => simp [intOf]; omega
    · have hh : l = h := by omega
      subst hh
      have g := Aside0.mk (IsArc.eq ⟨a, c, e.out, f.out⟩)
      go_wp2
      go_ret
      exact ⟨ret_int g.out.symm, hd.out⟩
theorem spec_l03Arc_c {s : Int} (w : World) (hs0 : 0 ≤ s) (hs1 : s ≤ 1000000) : Calls Try.prog 182 #[.int .i64 s] w fun e w' => e = .returned (.int .i64 (Ar s)) ∧ Drawn0 w w' := by
  go_enter Try.func182, Try.ntmps182
  go_wp2
  go_loopw [3, 4] (fun v3 v4 wr => ∃ l h : Int, -1 ≤ l ∧ l < h ∧ h ≤ 324000 ∧ s ≤ S h ∧ (∀ y, 0 ≤ y → y ≤ l → S y < s) ∧ v3 = .int .i64 l ∧ v4 = .int .i64 h ∧ Drawn0 w wr) (fun v3 v4 _ => (intOf v4 - intOf v3).toNat)
  case atStart => exact ⟨-1, 324000, by omega, by omega, by omega, by rw [S_q]; omega, fun y a b => by omega, rfl, rfl, Drawn0.refl _⟩
  case round =>
    obtain ⟨l, h, a, b, c, e, f, rfl, rfl, hd⟩ := hrel
    have f := Aside0.mk f
    have e := Aside0.mk e
    have hd := Aside0.mk hd
    by_cases hlt : 1 < h - l
    · by_cases q : s ≤ S ((l + h) / 2)
      · go_wp2_with ((go_at_call 195; (with_reducible refine (spec_l03Sine_c _).mono ?_); rintro e w' ⟨rfl, ⟨nd, rfl⟩⟩))
        go_roundw
        case rel => exact ⟨l, (l + h) / 2, a, by omega, by omega, q, f.out, rfl, rfl, hd.out.step _⟩
        case measure => simp [intOf]; omega
      · go_wp2_with ((go_at_call 195; (with_reducible refine (spec_l03Sine_c _).mono ?_); rintro e w' ⟨rfl, ⟨nd, rfl⟩⟩))
        go_roundw
        case rel =>
          refine ⟨(l + h) / 2, h, by omega, by omega, c, e.out, ?_, rfl, rfl, hd.out.step _⟩
          intro y y0 y1
          have := S_mono y0 y1 (by omega)
          omega
        case measure => simp [intOf]; omega
    · have hh : h = l + 1 := by omega
      subst hh
      have g := Aside0.mk (IsArc.eq ⟨show 0 ≤ l + 1 by omega, c, e.out, fun y y0 y1 => f.out y y0 (by omega)⟩)
      go_wp2
      go_ret
      exact ⟨ret_int g.out.symm, hd.out⟩
end Go.Proofs.Ytkfbbaaniglaeaa.Con
