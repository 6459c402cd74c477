/- What the sections of FnCaps come to. Conditions: as stated. -/
import Derived.Test.YtkfbbaaniglaeaaPkC3
import Derived.Test.YtkfbbaaniglaeaaMgo
import Derived.Test.YtkfbbaaniglaeaaMli
import Derived.Test.YtkfbbaaniglaeaaMdi
namespace Go.Proofs.Ytkfbbaaniglaeaa.Con
namespace BankU
open Go.RowKit Go.Proofs.Ytkfbbaaniglaeaa.PFnExactUnderCap Go.Proofs.YtkfbbaaniglaeaaW.PrintWords Go.Proofs.YtkfbbaaniglaeaaW.PrintLast Go.Proofs.YtkfbbaaniglaeaaW.PrintMore Go.Proofs.Ytkfbbaaniglaeaa.Mth
set_option linter.unusedVariables false
set_option linter.unusedSimpArgs false
theorem spec_l00In_eq (a b c : Int) : spec_l00In.f a b c = some (decide (b ≤ a ∧ a ≤ c)) := by
  unfold spec_l00In.f; by_cases h : b ≤ a <;> simp [h]
theorem impl_within_eq (a b c : Int) : impl_within.f a b c = some (decide (b ≤ a ∧ a ≤ c)) := by
  unfold impl_within.f; by_cases h : b ≤ a <;> simp [h]
theorem spec_l02Ok_eq (a b : Int) : spec_l02Ok.f a b = some (decide (sOk a b)) := by
  unfold spec_l02Ok.f; simp only [spec_l00In_eq, Option.bind_some, decide_eq_true_eq]
  by_cases h : -324000 ≤ a ∧ a ≤ 324000
  · rw [if_pos h]; simp [sOk, h]
  · rw [if_neg h]; simp [sOk, h]
theorem impl_ValidSpot_eq (a b : Int) : impl_ValidSpot.f a b = some (decide (sOk a b)) := by
  unfold impl_ValidSpot.f; simp only [impl_within_eq, Option.bind_some, decide_eq_true_eq]
  by_cases h : -324000 ≤ a ∧ a ≤ 324000
  · rw [if_pos h]; simp [sOk, h]
  · rw [if_neg h]; simp [sOk, h]
theorem spec_l00Floor_eq {a b : Int} (hb : 0 < b) (h : -9223372036854775808 ≤ a) (h' : a ≤ 9223372036854775807) : spec_l00Floor.f a b = some (a / b) := by
  unfold spec_l00Floor.f; exact floor_f hb h h'
theorem impl_floorDiv_eq {a b : Int} (hb : 0 < b) (h : -9223372036854775808 ≤ a) (h' : a ≤ 9223372036854775807) : impl_floorDiv.f a b = some (a / b) := by
  unfold impl_floorDiv.f; exact floor_f hb h h'
theorem spec_l00Round_eq {a b : Int} (hb : 0 < b) (hb' : b ≤ 4000000000000000000) (h : -4000000000000000000 ≤ a) (h' : a ≤ 2000000000000000000) : spec_l00Round.f a b = some (near a b) := by
  unfold spec_l00Round.f; rw [w64 (n := 2 * a) (by omega) (by omega), w64 (n := 2 * b) (by omega) (by omega), w64 (by omega) (by omega), spec_l00Floor_eq (by omega) (by omega) (by omega)]; rfl
theorem impl_nearest_eq {a b : Int} (hb : 0 < b) (hb' : b ≤ 4000000000000000000) (h : -4000000000000000000 ≤ a) (h' : a ≤ 2000000000000000000) : impl_nearest.f a b = some (near a b) := by
  unfold impl_nearest.f; rw [w64 (n := 2 * a) (by omega) (by omega), w64 (n := 2 * b) (by omega) (by omega), w64 (by omega) (by omega), impl_floorDiv_eq (by omega) (by omega) (by omega)]; rfl
theorem impl_isAround_eq (a : Int) : impl_isAround.f a = some (decide (arOk a)) := by
  unfold impl_isAround.f; rw [impl_within_eq]; rfl
theorem impl_isRadius_eq (a : Int) : impl_isRadius.f a = some (decide (radOk a)) := by
  unfold impl_isRadius.f; rw [impl_within_eq]; rfl
theorem spec_l06Arc_eq {n a : Int} (hn : arOk n) (ha : 0 ≤ a ∧ a ≤ 1296000) : spec_l06Arc.f n a = some (arcLen n a) := by
  have m := mul_nn_bd (x := n) (y := a) (X := 1000000) (Y := 1296000) (by omega) (by omega)
  unfold spec_l06Arc.f; rw [w64 (by omega) (by omega), spec_l00Round_eq (by omega) (by omega) (by omega) (by omega)]; rfl
theorem impl_arcLength_eq {n a : Int} (hn : arOk n) (ha : 0 ≤ a ∧ a ≤ 1296000) : impl_arcLength.f n a = some (arcLen n a) := by
  have m := mul_nn_bd (x := n) (y := a) (X := 1000000) (Y := 1296000) (by omega) (by omega)
  unfold impl_arcLength.f; rw [w64 (by omega) (by omega), impl_nearest_eq (by omega) (by omega) (by omega) (by omega)]; rfl
theorem spec_ArcLength_eq (n a : Int) : spec_ArcLength.f n a = some (RArcLength n a) := by
  unfold spec_ArcLength.f RArcLength; simp only [spec_l00In_eq, Option.bind_some, decide_eq_true_eq]
  by_cases h : 1 ≤ n ∧ n ≤ 1000000
  · by_cases g : 0 ≤ a ∧ a ≤ 1296000
    · rw [if_pos h, if_pos g, if_pos ⟨h, g⟩, spec_l06Arc_eq h g]; rfl
    · rw [if_pos h, if_neg g, if_neg (fun e => g e.2)]
  · rw [if_neg h, if_neg (fun e => h e.1)]
theorem impl_ArcLength_eq (n a : Int) : impl_ArcLength.f n a = some (RArcLength n a) := by
  unfold impl_ArcLength.f RArcLength; simp only [impl_isAround_eq, impl_within_eq, Option.bind_some, decide_eq_true_eq]
  by_cases h : arOk n
  · by_cases g : 0 ≤ a ∧ a ≤ 1296000
    · rw [if_pos h, if_pos g, if_pos ⟨h, g⟩, impl_arcLength_eq h g]; rfl
    · rw [if_pos h, if_neg g, if_neg (fun e => g e.2)]
  · rw [if_neg h, if_neg (fun e => h e.1)]
theorem spec_l06Radius_eq {k : Nat} (hk : 60 ≤ k) (n r : Int) : spec_l06Radius.f k n r = some (discC n r True) := by
  obtain ⟨k, rfl⟩ : ∃ m, k = m + 1 := ⟨k - 1, by omega⟩
  unfold spec_l06Radius.f discC; simp only [spec_l00In_eq, Option.bind_some, decide_eq_true_eq, spec_l06Radius.j0, Bool.not_eq_true', decide_eq_false_iff_not, if_true]
  by_cases h : arOk n
  · by_cases g : radOk r
    · rw [if_pos h, if_neg (fun e => e g), if_pos (show arOk n ∧ radOk r ∧ True from ⟨h, g, trivial⟩), w64 (by omega) (by omega)]; split <;> simp_all
    · rw [if_pos h, if_pos g, if_neg (fun e => g e.2.1)]
  · rw [if_neg h, if_neg (fun e => h e.1)]
theorem impl_discCode_eq {k : Nat} (hk : 60 ≤ k) (n r : Int) (ok : Prop) [Decidable ok] : impl_discCode.f k n r (decide ok) = some (discC n r ok) := by
  obtain ⟨k, rfl⟩ : ∃ m, k = m + 1 := ⟨k - 1, by omega⟩
  unfold impl_discCode.f discC; simp only [impl_isAround_eq, impl_isRadius_eq, Option.bind_some, decide_eq_true_eq, impl_discCode.j0, Bool.not_eq_true', decide_eq_false_iff_not, if_true]
  by_cases h : arOk n
  · by_cases g : radOk r
    · by_cases o : ok
      · rw [if_pos h, if_pos g, if_neg (fun e => e o), if_pos (show arOk n ∧ radOk r ∧ ok from ⟨h, g, o⟩), w64 (by omega) (by omega)]; split <;> simp_all
      · rw [if_pos h, if_pos g, if_pos o, if_neg (fun e => o e.2.2)]
    · rw [if_pos h, if_neg g, if_neg (fun e => g e.2.1)]
  · rw [if_neg h, if_neg (fun e => h e.1)]
theorem impl_discCode_true {k : Nat} (hk : 60 ≤ k) (n r : Int) : impl_discCode.f k n r true = some (discC n r True) := by
  have := impl_discCode_eq hk n r True; simpa using this
theorem spec_l06Edge_eq {n r : Int} (hn : arOk n) (hr : radOk r) (h : 4 * r ≤ n) : spec_l06Edge.f n r = some (edge n r) := by
  have q0 : 0 ≤ r * 1296000 / n := Int.ediv_nonneg (by omega) (by omega)
  have q1 := Int.ediv_le_self n (show 0 ≤ r * 1296000 by omega)
  unfold spec_l06Edge.f; rw [if_neg (by omega), w64 (n := r * 1296000) (by omega) (by omega), tdiv_nn (by omega), w64 (n := r * 1296000 / n) (by omega) (by omega), w64 (by omega) (by omega)]; rfl
theorem impl_capEdge_eq {n r : Int} (hn : arOk n) (hr : radOk r) (h : 4 * r ≤ n) : impl_capEdge.f n r = some (edge n r) := by
  have q0 : 0 ≤ r * 1296000 / n := Int.ediv_nonneg (by omega) (by omega)
  have q1 := Int.ediv_le_self n (show 0 ≤ r * 1296000 by omega)
  unfold impl_capEdge.f; rw [if_neg (by omega), w64 (n := r * 1296000) (by omega) (by omega), tdiv_nn (by omega), w64 (n := r * 1296000 / n) (by omega) (by omega), w64 (by omega) (by omega)]; rfl
theorem impl_isBreadth_eq (a : Int) : impl_isBreadth.f a = some (decide (brOk a)) := by
  unfold impl_isBreadth.f; rw [impl_within_eq]; rfl
theorem impl_ceilDiv_eq {a b : Int} (hb : 0 < b) (h0 : 0 ≤ a) (h1 : a ≤ 1000000000000) : impl_ceilDiv.f a b = some (-(-a / b)) := by
  have c := ceil_bd hb h0 h1
  unfold impl_ceilDiv.f; rw [w64 (n := -a) (by omega) (by omega), impl_floorDiv_eq hb (by omega) (by omega), Option.bind_some, w64 (by omega) (by omega)]
theorem impl_RingsOf_l {r w : Int} (hr : radOk r) (hw : brOk w) (d : Nat) : ∀ (k : Nat) (acc : List Int) (x : Int), 0 ≤ x → x ≤ 300000 → r ≤ x + d * w → acc.length + d ≤ 1000 → d < k →
    impl_RingsOf.l0 k r w acc x = some (acc ++ ringL (d + 1) r w x, 0) := by
  induction d with
  | zero =>
    intro k acc x h0 h1 h2 h3 hk
    obtain ⟨k, rfl⟩ : ∃ m, k = m + 1 := ⟨k - 1, by omega⟩
    have hx : ¬ x < r := by simp at h2; omega
    by_cases z : 0 < r
    · rw [impl_RingsOf.l0, if_neg hx, if_pos z, if_pos (by omega), ringL_no1 _ hx z]
    · rw [impl_RingsOf.l0, if_neg hx, if_neg z, ringL_no2 _ hx z]; simp
  | succ d ih =>
    intro k acc x h0 h1 h2 h3 hk
    obtain ⟨k, rfl⟩ : ∃ m, k = m + 1 := ⟨k - 1, by omega⟩
    have e : ((d + 1 : Nat) : Int) * w = d * w + w := by grind
    by_cases z : x < r
    · rw [impl_RingsOf.l0, if_pos z, if_pos (by omega), w64 (by omega) (by omega), ih k _ (x + w) (by omega) (by omega) (by omega) (by simp; omega) (by omega), ringL_yes _ z]; simp
    · by_cases y : 0 < r
      · rw [impl_RingsOf.l0, if_neg z, if_pos y, if_pos (by omega), ringL_no1 _ z y]
      · rw [impl_RingsOf.l0, if_neg z, if_neg y, ringL_no2 _ z y]; simp
theorem impl_RingsOf_eq {k : Nat} (hk : 100 ≤ k) (r w : Int) : impl_RingsOf.f k r w = some (RRingsOf r w) := by
  obtain ⟨k, rfl⟩ : ∃ m, k = m + 1 := ⟨k - 1, by omega⟩
  unfold impl_RingsOf.f RRingsOf; simp only [impl_isRadius_eq, impl_isBreadth_eq, Option.bind_some, decide_eq_true_eq, impl_RingsOf.j0, Bool.not_eq_true', decide_eq_false_iff_not, if_true]
  by_cases h : radOk r
  · by_cases g : brOk w
    · rw [if_pos h, if_neg (fun e => e g), if_pos ⟨h, g⟩, impl_ceilDiv_eq (by omega) (by omega) (by omega), Option.bind_some]
      by_cases z : -(-r / w) > 60
      · rw [if_pos z, if_pos z]
      · rw [if_neg z, if_neg z, impl_RingsOf_l h g 60 k [] w (by omega) (by omega) ?_ (by simp) (by omega)]
        · rfl
        · have a := Int.emod_nonneg (-r) (show w ≠ 0 by omega)
          have b := Int.mul_ediv_add_emod (-r) w
          have c : 0 ≤ w * (60 - -(-r / w)) := Int.mul_nonneg (by omega) (by omega)
          rw [Int.mul_sub, Int.mul_neg] at c
          show r ≤ w + ((60 : Nat) : Int) * w
          have : ((60 : Nat) : Int) = 60 := rfl
          rw [this]; omega
    · rw [if_pos h, if_pos g, if_neg (fun e => g e.2)]
  · rw [if_neg h, if_neg (fun e => h e.1)]
theorem spec_l06Rings_eq {k : Nat} (hk : 1 ≤ k) (r w : Int) : spec_l06Rings.f k r w = some (if radOk r ∧ brOk w then (if 60 < -(-r / w) then 5 else 0) else 2) := by
  obtain ⟨k, rfl⟩ : ∃ m, k = m + 1 := ⟨k - 1, by omega⟩
  unfold spec_l06Rings.f; simp only [spec_l00In_eq, Option.bind_some, decide_eq_true_eq, spec_l06Rings.j0, Bool.not_eq_true', decide_eq_false_iff_not, if_true]
  by_cases h : radOk r
  · by_cases g : brOk w
    · have q0 : 0 ≤ (r + w - 1) / w := Int.ediv_nonneg (by omega) (by omega)
      have q1 : (r + w - 1) / w ≤ 200000 := Int.le_trans (Int.ediv_le_self w (by omega)) (by omega)
      rw [if_pos h, if_neg (fun e => e g), if_pos (show radOk r ∧ brOk w from ⟨h, g⟩), if_neg (by omega), w64 (n := r + w) (by omega) (by omega), w64 (n := r + w - 1) (by omega) (by omega), tdiv_nn (by omega), w64 (by omega) (by omega), ceil_eq (by omega)]
      split <;> rfl
    · rw [if_pos h, if_pos g, if_neg (fun e => g e.2)]
  · rw [if_neg h, if_neg (fun e => h e.1)]
theorem spec_RingsOf_l {r w : Int} (hr : radOk r) (hw : brOk w) (d : Nat) : ∀ (k : Nat) (acc : List Int) (x : Int), 0 ≤ x → x ≤ 300000 → r ≤ x + d * w → acc.length + d ≤ 1000 → d < k →
    spec_RingsOf.l0 k r w acc x = some (acc ++ ringL (d + 1) r w x, 0) := by
  induction d with
  | zero =>
    intro k acc x h0 h1 h2 h3 hk
    obtain ⟨k, rfl⟩ : ∃ m, k = m + 1 := ⟨k - 1, by omega⟩
    have hx : ¬ x < r := by simp at h2; omega
    by_cases z : 0 < r
    · rw [spec_RingsOf.l0, if_neg hx, if_pos z, if_pos (by omega), ringL_no1 _ hx z]
    · rw [spec_RingsOf.l0, if_neg hx, if_neg z, ringL_no2 _ hx z]; simp
  | succ d ih =>
    intro k acc x h0 h1 h2 h3 hk
    obtain ⟨k, rfl⟩ : ∃ m, k = m + 1 := ⟨k - 1, by omega⟩
    have e : ((d + 1 : Nat) : Int) * w = d * w + w := by grind
    by_cases z : x < r
    · rw [spec_RingsOf.l0, if_pos z, if_pos (by omega), w64 (by omega) (by omega), ih k _ (x + w) (by omega) (by omega) (by omega) (by simp; omega) (by omega), ringL_yes _ z]; simp
    · by_cases y : 0 < r
      · rw [spec_RingsOf.l0, if_neg z, if_pos y, if_pos (by omega), ringL_no1 _ z y]
      · rw [spec_RingsOf.l0, if_neg z, if_neg y, ringL_no2 _ z y]; simp
theorem spec_RingsOf_eq {k : Nat} (hk : 100 ≤ k) (r w : Int) : spec_RingsOf.f k r w = some (RRingsOf r w) := by
  unfold spec_RingsOf.f RRingsOf; rw [spec_l06Rings_eq (by omega), Option.bind_some]
  by_cases h : radOk r ∧ brOk w
  · rw [if_pos h, if_pos h]
    by_cases z : 60 < -(-r / w)
    · rw [if_pos z, if_pos z, if_neg (by omega)]
    · rw [if_neg z, if_neg z, if_pos rfl, spec_RingsOf_l h.1 h.2 60 k [] w (by omega) (by omega) ?_ (by simp) (by omega)]
      · rfl
      · have a := Int.emod_nonneg (-r) (show w ≠ 0 by omega)
        have b := Int.mul_ediv_add_emod (-r) w
        have c : 0 ≤ w * (60 - -(-r / w)) := Int.mul_nonneg (by omega) (by omega)
        rw [Int.mul_sub, Int.mul_neg] at c
        show r ≤ w + ((60 : Nat) : Int) * w
        have : ((60 : Nat) : Int) = 60 := rfl
        rw [this]; omega
  · rw [if_neg h, if_neg h, if_neg (by omega)]
theorem impl_discCode_b {k : Nat} (hk : 60 ≤ k) (n r : Int) (ok : Bool) : impl_discCode.f k n r ok = some (discB n r ok) := by
  obtain ⟨k, rfl⟩ : ∃ m, k = m + 1 := ⟨k - 1, by omega⟩
  unfold impl_discCode.f discB; simp only [impl_isAround_eq, impl_isRadius_eq, Option.bind_some, decide_eq_true_eq, impl_discCode.j0, if_true]
  by_cases h : arOk n
  · by_cases g : radOk r
    · cases ok with
      | true => rw [if_pos h, if_pos g, if_neg (by simp), if_pos (show arOk n ∧ radOk r ∧ true = true from ⟨h, g, rfl⟩), w64 (by omega) (by omega)]; split <;> simp_all
      | false => rw [if_pos h, if_pos g, if_pos (by simp), if_neg (by simp)]
    · rw [if_pos h, if_neg g, if_neg (fun e => g e.2.1)]
  · rw [if_neg h, if_neg (fun e => h e.1)]
theorem impl_RingOf_eq {k : Nat} (hk : 100 ≤ k) {n r w a b : Int} : impl_RingOf.f k n r w a b = some (RRingOf n r w a b) := by
  unfold impl_RingOf.f RRingOf; simp only [impl_ValidSpot_eq, impl_isBreadth_eq, Option.bind_some, decide_eq_true_eq]
  by_cases h : sOk a b
  · rw [if_pos h, if_pos h, impl_discCode_b (by omega), Option.bind_some]
    by_cases z : discB n r (decide (brOk w)) = 0
    · obtain ⟨hn, hr, h4, hw⟩ := discB_0 z
      have hw := of_decide_eq_true hw
      rw [if_pos z, if_pos z, impl_ceilDiv_eq (by omega) (by omega) (by omega), Option.bind_some]
      by_cases y : 60 < -(-r / w)
      · rw [if_pos y, if_pos y]
      · have eb := edge_bd hn hr h4
        rw [if_neg y, if_neg y, impl_capEdge_eq hn hr h4, Option.bind_some]
        by_cases x : a < edge n r
        · rw [if_pos x, if_pos x]
        · obtain ⟨m0, m1⟩ := spec_wa hn (a := a) (by omega) (by omega)
          have q0 : 0 ≤ n * (324000 - a) / 1296000 / w := Int.ediv_nonneg (by omega) (by omega)
          have q1 : n * (324000 - a) / 1296000 / w ≤ 324000000000 := Int.le_trans (Int.ediv_le_self w (by omega)) (by omega)
          rw [if_neg x, if_neg x, if_neg (by omega), w64 (n := 324000 - a) (by omega) (by omega), w64 (n := n * (324000 - a)) (by omega) (by omega), tdiv_nn (b := 1296000) (by omega), w64 (n := n * (324000 - a) / 1296000) (by omega) (by omega), tdiv_nn (by omega), w64 (by omega) (by omega)]
    · rw [if_neg z, if_neg z]
  · rw [if_neg h, if_neg h]
theorem spec_l06Radius_b {k : Nat} (hk : 60 ≤ k) (n r : Int) : spec_l06Radius.f k n r = some (discB n r true) := by
  rw [spec_l06Radius_eq hk]; unfold discC discB; simp
theorem spec_RingOf_j1 {k : Nat} (hk : 1 ≤ k) {n r w a b : Int} (h : sOk a b) (hn : arOk n) (hr : radOk r) (h4 : 4 * r ≤ n) (hw : brOk w) : spec_RingOf.j1 k n r w 0 a b = some (if a < edge n r then (0, 3) else (n * (324000 - a) / 1296000 / w, 0)) := by
  obtain ⟨k, rfl⟩ : ∃ m, k = m + 1 := ⟨k - 1, by omega⟩
  have eb := edge_bd hn hr h4
  rw [spec_RingOf.j1, if_pos rfl, spec_l06Edge_eq hn hr h4, Option.bind_some]
  by_cases x : a < edge n r
  · rw [if_pos x, if_pos x]
  · obtain ⟨m0, m1⟩ := spec_wa hn (a := a) (by omega) (by omega)
    have q0 : 0 ≤ n * (324000 - a) / 1296000 / w := Int.ediv_nonneg (by omega) (by omega)
    have q1 : n * (324000 - a) / 1296000 / w ≤ 324000000000 := Int.le_trans (Int.ediv_le_self w (by omega)) (by omega)
    rw [if_neg x, if_neg x, if_neg (by omega), w64 (n := 324000 - a) (by omega) (by omega), w64 (n := n * (324000 - a)) (by omega) (by omega), tdiv_nn (b := 1296000) (by omega), w64 (n := n * (324000 - a) / 1296000) (by omega) (by omega), tdiv_nn (by omega), w64 (by omega) (by omega)]
theorem spec_RingOf_eq {k : Nat} (hk : 100 ≤ k) {n r w a b : Int} : spec_RingOf.f k n r w a b = some (RRingOf n r w a b) := by
  obtain ⟨k, rfl⟩ : ∃ m, k = m + 2 := ⟨k - 2, by omega⟩
  unfold spec_RingOf.f RRingOf; simp only [spec_l02Ok_eq, spec_l00In_eq, Option.bind_some, decide_eq_true_eq]
  by_cases h : sOk a b
  · rw [if_pos h, if_pos h, spec_l06Radius_b (by omega), Option.bind_some]
    by_cases hnr : arOk n ∧ radOk r
    · rw [discB_tt hnr]
      by_cases h4 : n < 4 * r
      · rw [if_pos h4, if_neg (by omega), spec_RingOf.j0]
        by_cases hw : brOk w
        · rw [if_neg (by simpa using hw), if_neg (by omega), spec_RingOf.j1, if_neg (by omega), show decide (brOk w) = true from decide_eq_true hw, discB_tt hnr, if_pos h4, if_neg (by omega)]
        · rw [if_pos (by rw [Bool.not_eq_true', decide_eq_false_iff_not]; exact hw), show decide (brOk w) = false from decide_eq_false hw, show discB n r false = 2 from if_neg (by simp), if_neg (by omega)]
      · rw [if_neg h4, if_neg (by omega), spec_RingOf.j0]
        by_cases hw : brOk w
        · rw [if_neg (by simpa using hw), if_pos rfl, spec_l06Rings_eq (by omega), Option.bind_some, if_pos ⟨hnr.2, hw⟩, show decide (brOk w) = true from decide_eq_true hw, discB_tt hnr, if_neg h4, if_pos rfl]
          by_cases y : 60 < -(-r / w)
          · rw [if_pos y, if_pos y, spec_RingOf.j1, if_neg (by omega)]
          · rw [if_neg y, if_neg y, spec_RingOf_j1 (by omega) h hnr.1 hnr.2 (by omega) hw]
        · rw [if_pos (by rw [Bool.not_eq_true', decide_eq_false_iff_not]; exact hw), show decide (brOk w) = false from decide_eq_false hw, show discB n r false = 2 from if_neg (by simp), if_neg (by omega)]
    · rw [discB_2 hnr, discB_2 hnr, if_pos rfl, spec_RingOf.j0, if_pos rfl, if_neg (by omega)]
  · rw [if_neg h, if_neg h]
end BankU

end Go.Proofs.Ytkfbbaaniglaeaa.Con
