/- Contracts of the program's functions that read lists of numbers. Conditions: as stated. -/
import Derived.Test.YtkfbbaaniglaeaaConG
namespace Go.Proofs.Ytkfbbaaniglaeaa.Con
open Go.RowKit Go.Proofs.YtkfbbaaniglaeaaW.PrintWords Go.Proofs.YtkfbbaaniglaeaaW.PrintLast Go.Proofs.YtkfbbaaniglaeaaW.PrintMore Go.Proofs.Ytkfbbaaniglaeaa.Mth
attribute [local go_sem] max2_int min2_int max_two min_two max_three min_three
set_option linter.unusedVariables false
set_option linter.unusedSimpArgs false
theorem impl_absolute_c {n : Int} (w : World) (h0 : -1000000000000 ≤ n) (h1 : n ≤ 1000000000000) : Calls Try.prog 157 #[.int .i64 n] w fun e w' => e = .returned (.int .i64 (ab n)) ∧ Drawn0 w w' := by
  have f := Aside0.mk (ab_mx n)
  unfold mx at f
  by_cases z : n < -n
  · have f := Aside0.mk (show -n = ab n by have := f.out; rw [if_pos z] at this; exact this)
    go_enter Try.func157, Try.ntmps157
    go_wp2
    go_ret
    exact ⟨ret_int f.out, by repeat (first | exact Drawn0.refl _ | apply Drawn0.step)⟩
  · have f := Aside0.mk (show n = ab n by have := f.out; rw [if_neg z] at this; exact this)
    go_enter Try.func157, Try.ntmps157
    go_wp2
    go_ret
    exact ⟨ret_int f.out, by repeat (first | exact Drawn0.refl _ | apply Drawn0.step)⟩
theorem spec_l00Size_c {n : Int} (w : World) (h0 : -1000000000000 ≤ n) (h1 : n ≤ 1000000000000) : Calls Try.prog 159 #[.int .i64 n] w fun e w' => e = .returned (.int .i64 (ab n)) ∧ Drawn0 w w' := by
  by_cases z : n < 0
  · have f := Aside0.mk (show ab n = -n from if_pos z)
    go_enter Try.func159, Try.ntmps159
    go_wp2
    go_ret
    exact ⟨ret_int f.out.symm, by repeat (first | exact Drawn0.refl _ | apply Drawn0.step)⟩
  · have f := Aside0.mk (show ab n = n from if_neg z)
    go_enter Try.func159, Try.ntmps159
    go_wp2
    go_ret
    exact ⟨ret_int f.out.symm, by repeat (first | exact Drawn0.refl _ | apply Drawn0.step)⟩
theorem spec_l00Max_m {a b : Int} (w : World) : Calls Try.prog 145 #[.int .i64 a, .int .i64 b] w fun e w' => e = .returned (.int .i64 (mx a b)) ∧ Drawn0 w w' := spec_l00Max_c w (by unfold mx; split <;> split <;> omega)
end Go.Proofs.Ytkfbbaaniglaeaa.Con
