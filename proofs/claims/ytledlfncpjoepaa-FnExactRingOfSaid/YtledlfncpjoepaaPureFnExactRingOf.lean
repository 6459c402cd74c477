/- What FnExactRingOf's printed functions come to, and that the law answers true: for every input of its kinds. Conditions: none beyond the printed bounds. -/
import Derived.Test.YtledlfncpjoepaaPFnExactRingOfx2
import Derived.Test.YtledlfncpjoepaaMth
import Derived.Test.YtledlfncpjoepaaMli
namespace Go.Proofs.Ytledlfncpjoepaa.Pure
namespace FnExactRingOfB
open Go.RowKit Go.Proofs.Ytledlfncpjoepaa.PFnExactRingOf Go.Proofs.YtledlfncpjoepaaW.PrintWords Go.Proofs.YtledlfncpjoepaaW.PrintLast Go.Proofs.YtledlfncpjoepaaW.PrintMore Go.Proofs.Ytledlfncpjoepaa.Mth
set_option linter.unusedVariables false
set_option linter.unusedSimpArgs false
theorem spec_l00In_eq (a b c : Int) : spec_l00In.f a b c = some (decide (b ≤ a ∧ a ≤ c)) := by
  unfold spec_l00In.f; by_cases h : b ≤ a <;> simp [h]
theorem impl_within_eq (a b c : Int) : impl_within.f a b c = some (decide (b ≤ a ∧ a ≤ c)) := by
  unfold impl_within.f; by_cases h : b ≤ a <;> simp [h]
theorem spec_l02Ok_eq (a b : Int) : spec_l02Ok.f a b = some (decide (sOk a b)) := by
  unfold spec_l02Ok.f; simp only [spec_l00In_eq, Option.bind_some, decide_eq_true_eq]
  by_cases h : -324000 ≤ a ∧ a ≤ 324000
  · rw [if_pos h]; simp [sOk, h]
  · rw [if_neg h]; simp [sOk, h]
theorem impl_ValidSpot_eq (a b : Int) : impl_ValidSpot.f a b = some (decide (sOk a b)) := by
  unfold impl_ValidSpot.f; simp only [impl_within_eq, Option.bind_some, decide_eq_true_eq]
  by_cases h : -324000 ≤ a ∧ a ≤ 324000
  · rw [if_pos h]; simp [sOk, h]
  · rw [if_neg h]; simp [sOk, h]
theorem laws_toSpot_eq (a b : Int) : laws_toSpot.f a b = some (a, b) := rfl
theorem impl_floorDiv_eq {a b : Int} (hb : 0 < b) (h : -9223372036854775808 ≤ a) (h' : a ≤ 9223372036854775807) : impl_floorDiv.f a b = some (a / b) := by
  unfold impl_floorDiv.f; exact floor_f hb h h'
theorem impl_isAround_eq (a : Int) : impl_isAround.f a = some (decide (arOk a)) := by
  unfold impl_isAround.f; rw [impl_within_eq]; rfl
theorem impl_isRadius_eq (a : Int) : impl_isRadius.f a = some (decide (radOk a)) := by
  unfold impl_isRadius.f; rw [impl_within_eq]; rfl
theorem spec_l06Radius_eq {k : Nat} (hk : 60 ≤ k) (n r : Int) : spec_l06Radius.f k n r = some (discC n r True) := by
  obtain ⟨k, rfl⟩ : ∃ m, k = m + 1 := ⟨k - 1, by omega⟩
  unfold spec_l06Radius.f discC; simp only [spec_l00In_eq, Option.bind_some, decide_eq_true_eq, spec_l06Radius.j0, Bool.not_eq_true', decide_eq_false_iff_not, if_true]
  by_cases h : arOk n
  · by_cases g : radOk r
    · rw [if_pos h, if_neg (fun e => e g), if_pos (show arOk n ∧ radOk r ∧ True from ⟨h, g, trivial⟩), w64 (by omega) (by omega)]; split <;> simp_all
    · rw [if_pos h, if_pos g, if_neg (fun e => g e.2.1)]
  · rw [if_neg h, if_neg (fun e => h e.1)]
theorem impl_discCode_eq {k : Nat} (hk : 60 ≤ k) (n r : Int) (ok : Prop) [Decidable ok] : impl_discCode.f k n r (decide ok) = some (discC n r ok) := by
  obtain ⟨k, rfl⟩ : ∃ m, k = m + 1 := ⟨k - 1, by omega⟩
  unfold impl_discCode.f discC; simp only [impl_isAround_eq, impl_isRadius_eq, Option.bind_some, decide_eq_true_eq, impl_discCode.j0, Bool.not_eq_true', decide_eq_false_iff_not, if_true]
  by_cases h : arOk n
  · by_cases g : radOk r
    · by_cases o : ok
      · rw [if_pos h, if_pos g, if_neg (fun e => e o), if_pos (show arOk n ∧ radOk r ∧ ok from ⟨h, g, o⟩), w64 (by omega) (by omega)]; split <;> simp_all
      · rw [if_pos h, if_pos g, if_pos o, if_neg (fun e => o e.2.2)]
    · rw [if_pos h, if_neg g, if_neg (fun e => g e.2.1)]
  · rw [if_neg h, if_neg (fun e => h e.1)]
theorem impl_discCode_true {k : Nat} (hk : 60 ≤ k) (n r : Int) : impl_discCode.f k n r true = some (discC n r True) := by
  have := impl_discCode_eq hk n r True; simpa using this
theorem spec_l06Edge_eq {n r : Int} (hn : arOk n) (hr : radOk r) (h : 4 * r ≤ n) : spec_l06Edge.f n r = some (edge n r) := by
  have q0 : 0 ≤ r * 1296000 / n := Int.ediv_nonneg (by omega) (by omega)
  have q1 := Int.ediv_le_self n (show 0 ≤ r * 1296000 by omega)
  unfold spec_l06Edge.f; rw [if_neg (by omega), w64 (n := r * 1296000) (by omega) (by omega), tdiv_nn (by omega), w64 (n := r * 1296000 / n) (by omega) (by omega), w64 (by omega) (by omega)]; rfl
theorem impl_capEdge_eq {n r : Int} (hn : arOk n) (hr : radOk r) (h : 4 * r ≤ n) : impl_capEdge.f n r = some (edge n r) := by
  have q0 : 0 ≤ r * 1296000 / n := Int.ediv_nonneg (by omega) (by omega)
  have q1 := Int.ediv_le_self n (show 0 ≤ r * 1296000 by omega)
  unfold impl_capEdge.f; rw [if_neg (by omega), w64 (n := r * 1296000) (by omega) (by omega), tdiv_nn (by omega), w64 (n := r * 1296000 / n) (by omega) (by omega), w64 (by omega) (by omega)]; rfl
theorem impl_isBreadth_eq (a : Int) : impl_isBreadth.f a = some (decide (brOk a)) := by
  unfold impl_isBreadth.f; rw [impl_within_eq]; rfl
theorem impl_ceilDiv_eq {a b : Int} (hb : 0 < b) (h0 : 0 ≤ a) (h1 : a ≤ 1000000000000) : impl_ceilDiv.f a b = some (-(-a / b)) := by
  have c := ceil_bd hb h0 h1
  unfold impl_ceilDiv.f; rw [w64 (n := -a) (by omega) (by omega), impl_floorDiv_eq hb (by omega) (by omega), Option.bind_some, w64 (by omega) (by omega)]
theorem spec_l06Rings_eq {k : Nat} (hk : 1 ≤ k) (r w : Int) : spec_l06Rings.f k r w = some (if radOk r ∧ brOk w then (if 60 < -(-r / w) then 5 else 0) else 2) := by
  obtain ⟨k, rfl⟩ : ∃ m, k = m + 1 := ⟨k - 1, by omega⟩
  unfold spec_l06Rings.f; simp only [spec_l00In_eq, Option.bind_some, decide_eq_true_eq, spec_l06Rings.j0, Bool.not_eq_true', decide_eq_false_iff_not, if_true]
  by_cases h : radOk r
  · by_cases g : brOk w
    · have q0 : 0 ≤ (r + w - 1) / w := Int.ediv_nonneg (by omega) (by omega)
      have q1 : (r + w - 1) / w ≤ 200000 := Int.le_trans (Int.ediv_le_self w (by omega)) (by omega)
      rw [if_pos h, if_neg (fun e => e g), if_pos (show radOk r ∧ brOk w from ⟨h, g⟩), if_neg (by omega), w64 (n := r + w) (by omega) (by omega), w64 (n := r + w - 1) (by omega) (by omega), tdiv_nn (by omega), w64 (by omega) (by omega), ceil_eq (by omega)]
      split <;> rfl
    · rw [if_pos h, if_pos g, if_neg (fun e => g e.2)]
  · rw [if_neg h, if_neg (fun e => h e.1)]
theorem impl_discCode_b {k : Nat} (hk : 60 ≤ k) (n r : Int) (ok : Bool) : impl_discCode.f k n r ok = some (discB n r ok) := by
  obtain ⟨k, rfl⟩ : ∃ m, k = m + 1 := ⟨k - 1, by omega⟩
  unfold impl_discCode.f discB; simp only [impl_isAround_eq, impl_isRadius_eq, Option.bind_some, decide_eq_true_eq, impl_discCode.j0, if_true]
  by_cases h : arOk n
  · by_cases g : radOk r
    · cases ok with
      | true => rw [if_pos h, if_pos g, if_neg (by simp), if_pos (show arOk n ∧ radOk r ∧ true = true from ⟨h, g, rfl⟩), w64 (by omega) (by omega)]; split <;> simp_all
      | false => rw [if_pos h, if_pos g, if_pos (by simp), if_neg (by simp)]
    · rw [if_pos h, if_neg g, if_neg (fun e => g e.2.1)]
  · rw [if_neg h, if_neg (fun e => h e.1)]
theorem impl_RingOf_eq {k : Nat} (hk : 100 ≤ k) {n r w a b : Int} : impl_RingOf.f k n r w a b = some (RRingOf n r w a b) := by
  unfold impl_RingOf.f RRingOf; simp only [impl_ValidSpot_eq, impl_isBreadth_eq, Option.bind_some, decide_eq_true_eq]
  by_cases h : sOk a b
  · rw [if_pos h, if_pos h, impl_discCode_b (by omega), Option.bind_some]
    by_cases z : discB n r (decide (brOk w)) = 0
    · obtain ⟨hn, hr, h4, hw⟩ := discB_0 z
      have hw := of_decide_eq_true hw
      rw [if_pos z, if_pos z, impl_ceilDiv_eq (by omega) (by omega) (by omega), Option.bind_some]
      by_cases y : 60 < -(-r / w)
      · rw [if_pos y, if_pos y]
      · have eb := edge_bd hn hr h4
        rw [if_neg y, if_neg y, impl_capEdge_eq hn hr h4, Option.bind_some]
        by_cases x : a < edge n r
        · rw [if_pos x, if_pos x]
        · obtain ⟨m0, m1⟩ := spec_wa hn (a := a) (by omega) (by omega)
          have q0 : 0 ≤ n * (324000 - a) / 1296000 / w := Int.ediv_nonneg (by omega) (by omega)
          have q1 : n * (324000 - a) / 1296000 / w ≤ 324000000000 := Int.le_trans (Int.ediv_le_self w (by omega)) (by omega)
          rw [if_neg x, if_neg x, if_neg (by omega), w64 (n := 324000 - a) (by omega) (by omega), w64 (n := n * (324000 - a)) (by omega) (by omega), tdiv_nn (b := 1296000) (by omega), w64 (n := n * (324000 - a) / 1296000) (by omega) (by omega), tdiv_nn (by omega), w64 (by omega) (by omega)]
    · rw [if_neg z, if_neg z]
  · rw [if_neg h, if_neg h]
theorem spec_l06Radius_b {k : Nat} (hk : 60 ≤ k) (n r : Int) : spec_l06Radius.f k n r = some (discB n r true) := by
  rw [spec_l06Radius_eq hk]; unfold discC discB; simp
theorem spec_RingOf_j1 {k : Nat} (hk : 1 ≤ k) {n r w a b : Int} (h : sOk a b) (hn : arOk n) (hr : radOk r) (h4 : 4 * r ≤ n) (hw : brOk w) : spec_RingOf.j1 k n r w 0 a b = some (if a < edge n r then (0, 3) else (n * (324000 - a) / 1296000 / w, 0)) := by
  obtain ⟨k, rfl⟩ : ∃ m, k = m + 1 := ⟨k - 1, by omega⟩
  have eb := edge_bd hn hr h4
  rw [spec_RingOf.j1, if_pos rfl, spec_l06Edge_eq hn hr h4, Option.bind_some]
  by_cases x : a < edge n r
  · rw [if_pos x, if_pos x]
  · obtain ⟨m0, m1⟩ := spec_wa hn (a := a) (by omega) (by omega)
    have q0 : 0 ≤ n * (324000 - a) / 1296000 / w := Int.ediv_nonneg (by omega) (by omega)
    have q1 : n * (324000 - a) / 1296000 / w ≤ 324000000000 := Int.le_trans (Int.ediv_le_self w (by omega)) (by omega)
    rw [if_neg x, if_neg x, if_neg (by omega), w64 (n := 324000 - a) (by omega) (by omega), w64 (n := n * (324000 - a)) (by omega) (by omega), tdiv_nn (b := 1296000) (by omega), w64 (n := n * (324000 - a) / 1296000) (by omega) (by omega), tdiv_nn (by omega), w64 (by omega) (by omega)]
theorem spec_RingOf_eq {k : Nat} (hk : 100 ≤ k) {n r w a b : Int} : spec_RingOf.f k n r w a b = some (RRingOf n r w a b) := by
  obtain ⟨k, rfl⟩ : ∃ m, k = m + 2 := ⟨k - 2, by omega⟩
  unfold spec_RingOf.f RRingOf; simp only [spec_l02Ok_eq, spec_l00In_eq, Option.bind_some, decide_eq_true_eq]
  by_cases h : sOk a b
  · rw [if_pos h, if_pos h, spec_l06Radius_b (by omega), Option.bind_some]
    by_cases hnr : arOk n ∧ radOk r
    · rw [discB_tt hnr]
      by_cases h4 : n < 4 * r
      · rw [if_pos h4, if_neg (by omega), spec_RingOf.j0]
        by_cases hw : brOk w
        · rw [if_neg (by simpa using hw), if_neg (by omega), spec_RingOf.j1, if_neg (by omega), show decide (brOk w) = true from decide_eq_true hw, discB_tt hnr, if_pos h4, if_neg (by omega)]
        · rw [if_pos (by rw [Bool.not_eq_true', decide_eq_false_iff_not]; exact hw), show decide (brOk w) = false from decide_eq_false hw, show discB n r false = 2 from if_neg (by simp), if_neg (by omega)]
      · rw [if_neg h4, if_neg (by omega), spec_RingOf.j0]
        by_cases hw : brOk w
        · rw [if_neg (by simpa using hw), if_pos rfl, spec_l06Rings_eq (by omega), Option.bind_some, if_pos ⟨hnr.2, hw⟩, show decide (brOk w) = true from decide_eq_true hw, discB_tt hnr, if_neg h4, if_pos rfl]
          by_cases y : 60 < -(-r / w)
          · rw [if_pos y, if_pos y, spec_RingOf.j1, if_neg (by omega)]
          · rw [if_neg y, if_neg y, spec_RingOf_j1 (by omega) h hnr.1 hnr.2 (by omega) hw]
        · rw [if_pos (by rw [Bool.not_eq_true', decide_eq_false_iff_not]; exact hw), show decide (brOk w) = false from decide_eq_false hw, show discB n r false = 2 from if_neg (by simp), if_neg (by omega)]
    · rw [discB_2 hnr, discB_2 hnr, if_pos rfl, spec_RingOf.j0, if_pos rfl, if_neg (by omega)]
  · rw [if_neg h, if_neg h]
end FnExactRingOfB
open Go.RowKit Go.Proofs.Ytledlfncpjoepaa.PFnExactRingOf Go.Proofs.YtledlfncpjoepaaW.PrintWords Go.Proofs.YtledlfncpjoepaaW.PrintLast Go.Proofs.YtledlfncpjoepaaW.PrintMore Go.Proofs.Ytledlfncpjoepaa.Mth FnExactRingOfB
set_option linter.unusedVariables false in
set_option linter.unusedSimpArgs false in
theorem FnExactRingOf : ∀ (a0 : Int) (a1 : Int) (a2 : Int) (a3_0 : Int) (a3_1 : Int), (Lit.int .i64 a0).wf = true → (Lit.int .i64 a1).wf = true → (Lit.int .i64 a2).wf = true → (Lit.int .i64 a3_0).wf = true → (Lit.int .i64 a3_1).wf = true → ∃ k, laws_FnExactRingOf.f k a0 a1 a2 a3_0 a3_1 = some true := by
  intro n r w a b _ _ _ _ _
  refine ⟨200, ?_⟩
  unfold laws_FnExactRingOf.f
  simp only [laws_toSpot_eq, Option.bind_some, spec_RingOf_eq (show 100 ≤ 200 by omega), impl_RingOf_eq (show 100 ≤ 200 by omega)]; simp
end Go.Proofs.Ytledlfncpjoepaa.Pure
