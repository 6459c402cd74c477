/- Names of codes: what both programs answer. Conditions: none. -/
import Derived.Test.YtgfclbfkkekkmaaConA
import Derived.Test.YtgfclbfkkekkmaaPkC
namespace Go.Proofs.Ytgfclbfkkekkmaa.Con
open Go.RowKit Go.Proofs.YtgfclbfkkekkmaaW.PrintWords Go.Proofs.YtgfclbfkkekkmaaW.PrintLast Go.Proofs.YtgfclbfkkekkmaaW.PrintMore Go.Proofs.Ytgfclbfkkekkmaa.Mth
attribute [local go_sem] max2_int min2_int max_two min_two max_three min_three
set_option linter.unusedVariables false
set_option linter.unusedSimpArgs false
def nameOf (a : Int) : ByteArray := if a = 0 then (⟨#[111, 107]⟩ : ByteArray) else if a = 1 then (⟨#[105, 110, 118, 97, 108, 105, 100]⟩ : ByteArray) else if a = 2 then (⟨#[114, 97, 110, 103, 101]⟩ : ByteArray) else if a = 3 then (⟨#[110, 111, 116, 45, 102, 111, 117, 110, 100]⟩ : ByteArray) else if a = 4 then (⟨#[101, 120, 105, 115, 116, 115]⟩ : ByteArray) else if a = 5 then (⟨#[102, 117, 108, 108]⟩ : ByteArray) else if a = 6 then (⟨#[115, 116, 97, 116, 101]⟩ : ByteArray) else if a = 7 then (⟨#[115, 121, 110, 116, 97, 120]⟩ : ByteArray) else if a = 8 then (⟨#[102, 111, 114, 109, 97, 116]⟩ : ByteArray) else if a = 9 then (⟨#[99, 108, 97, 115, 104]⟩ : ByteArray) else if a = 10 then (⟨#[103, 97, 112]⟩ : ByteArray) else (⟨#[]⟩ : ByteArray)
set_option maxHeartbeats 4000000 in
set_option maxRecDepth 100000 in
theorem impl_CodeName_c {a : Int} (w : World) : Calls Try.prog 21 #[.int .i64 a] w fun e w' => e = .returned (.string (nameOf a)) ∧ Below w.heap.size w w' := by
  rcases dec (0 ≤ a ∧ a ≤ 10) with ⟨h, b⟩ | ⟨h, b⟩
  · have k : a = 0 ∨ a = 1 ∨ a = 2 ∨ a = 3 ∨ a = 4 ∨ a = 5 ∨ a = 6 ∨ a = 7 ∨ a = 8 ∨ a = 9 ∨ a = 10 := by omega
    rcases k with rfl | rfl | rfl | rfl | rfl | rfl | rfl | rfl | rfl | rfl | rfl
    all_goals
      clear h
      go_enter Try.func21, Try.ntmps21
      go_wp2_with (first | (go_at_call 43; (with_reducible refine (impl_within_d _ b.out).mono ?_); rintro e w' ⟨rfl, ⟨nd, rfl⟩⟩))
      go_ret
      exact ⟨rfl, by repeat (first | (with_reducible first | exact Below.refl _ _ | apply below_alloc | apply pw_below_drewN | apply below_drew1 | (refine below_step ?_ (by assumption))) | exact Below.refl _ _)⟩
  · have f := Aside0.mk (show nameOf a = ⟨#[]⟩ by unfold nameOf; rw [if_neg (by omega)]; rw [if_neg (by omega)]; rw [if_neg (by omega)]; rw [if_neg (by omega)]; rw [if_neg (by omega)]; rw [if_neg (by omega)]; rw [if_neg (by omega)]; rw [if_neg (by omega)]; rw [if_neg (by omega)]; rw [if_neg (by omega)]; rw [if_neg (by omega)])
    clear h
    go_enter Try.func21, Try.ntmps21
    go_wp2_with (first | (go_at_call 43; (with_reducible refine (impl_within_d _ b.out).mono ?_); rintro e w' ⟨rfl, ⟨nd, rfl⟩⟩))
    go_ret
    exact ⟨by rw [f.out]; rfl, by repeat (first | (with_reducible first | exact Below.refl _ _ | apply below_alloc | apply pw_below_drewN | apply below_drew1 | (refine below_step ?_ (by assumption))) | exact Below.refl _ _)⟩
theorem spec_CodeName_c {a : Int} (w : World) : Calls Try.prog 20 #[.int .i64 a] w fun e w' => e = .returned (.string (nameOf a)) ∧ Below w.heap.size w w' := by
  by_cases h : 0 ≤ a ∧ a ≤ 10
  · have k : a = 0 ∨ a = 1 ∨ a = 2 ∨ a = 3 ∨ a = 4 ∨ a = 5 ∨ a = 6 ∨ a = 7 ∨ a = 8 ∨ a = 9 ∨ a = 10 := by omega
    rcases k with rfl | rfl | rfl | rfl | rfl | rfl | rfl | rfl | rfl | rfl | rfl
    all_goals exact PFnExactCodeName.spec_CodeName.calls _ _ w (by kernel_rfl)
  · have f : nameOf a = ⟨#[]⟩ := by unfold nameOf; rw [if_neg (by omega)]; rw [if_neg (by omega)]; rw [if_neg (by omega)]; rw [if_neg (by omega)]; rw [if_neg (by omega)]; rw [if_neg (by omega)]; rw [if_neg (by omega)]; rw [if_neg (by omega)]; rw [if_neg (by omega)]; rw [if_neg (by omega)]; rw [if_neg (by omega)]
    rw [f]
    refine PFnExactCodeName.spec_CodeName.calls _ _ w ?_
    have e : ∀ (n : Int), n = 10 → PFnExactCodeName.spec_l00In.f a 0 n = some false := by
      intro n hn
      subst hn
      unfold PFnExactCodeName.spec_l00In.f
      by_cases k : a ≥ 0
      · rw [if_pos k, decide_eq_false (by omega)]
      · rw [if_neg k]
    unfold PFnExactCodeName.spec_CodeName.f
    rw [Option.bind_some]
    rw [e _ (by kernel_rfl), Option.bind_some]
    exact if_neg (by decide)
theorem FnExactCodeName_c (a : Int) (w : World) (_ : (Lit.int .i64 a).wf = true) : Calls Try.prog 6 #[.int .i64 a] w fun e w' => e = .returned (.bool true) ∧ Below w.heap.size w w' := by
  go_enter Try.func6, Try.ntmps6
  go_wp2_with (fail)
  refine (spec_CodeName_c _).mono ?_
  rintro e w1 ⟨rfl, hb1⟩
  go_wp2_with (fail)
  refine (impl_CodeName_c _).mono ?_
  rintro e w2 ⟨rfl, hb2⟩
  go_wp2
  go_ret
  exact ⟨rfl, by repeat (first | (with_reducible first | exact Below.refl _ _ | apply below_alloc | apply pw_below_drewN | apply below_drew1 | (refine below_step ?_ (by assumption))) | exact Below.refl _ _)⟩
end Go.Proofs.Ytgfclbfkkekkmaa.Con
