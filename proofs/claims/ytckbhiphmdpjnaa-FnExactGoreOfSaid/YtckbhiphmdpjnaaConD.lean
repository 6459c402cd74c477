/- Contracts of the program's functions on gores, discs and rims, second part. Conditions: as stated. -/
import Derived.Test.YtckbhiphmdpjnaaConC
import Derived.Test.YtckbhiphmdpjnaaMgo
import Derived.LoopTactic
namespace Go.Proofs.Ytckbhiphmdpjnaa.Con
open Go.RowKit Go.Proofs.YtckbhiphmdpjnaaW.PrintWords Go.Proofs.YtckbhiphmdpjnaaW.PrintLast Go.Proofs.YtckbhiphmdpjnaaW.PrintMore Go.Proofs.Ytckbhiphmdpjnaa.Mth
attribute [local go_sem] max2_int min2_int max_two min_two max_three min_three
set_option linter.unusedVariables false
set_option linter.unusedSimpArgs false
theorem impl_parallel_c {n l : Int} (w : World) (hn : arOk n) (hl : latOk l) : Calls Try.prog 81 #[.int .i64 n, .int .i64 l] w fun e w' => e = .returned (.int .i64 (par n l)) ∧ Drawn0 w w' := by
  obtain ⟨m0, m1⟩ := nCo_bd hn l
  go_enter Try.func81, Try.ntmps81
  go_wp2_with (first | (go_at_call 58; (with_reducible refine (impl_cosine_c _ (by omega) (by omega)).mono ?_); rintro e w' ⟨rfl, ⟨nd, rfl⟩⟩) | (go_at_call 62; (with_reducible refine (impl_nearest_c _ (by omega) (by omega) (by omega) (by omega)).mono ?_); rintro e w' ⟨rfl, ⟨nd, rfl⟩⟩))
  go_ret
  exact ⟨rfl, by repeat (first | exact Drawn0.refl _ | apply Drawn0.step)⟩
end Go.Proofs.Ytckbhiphmdpjnaa.Con
