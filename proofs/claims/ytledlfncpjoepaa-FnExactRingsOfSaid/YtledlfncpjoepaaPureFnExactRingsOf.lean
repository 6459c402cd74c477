/- What FnExactRingsOf's printed functions come to, and that the law answers true: for every input of its kinds. Conditions: none beyond the printed bounds. -/
import Derived.Test.YtledlfncpjoepaaPFnExactRingsOfx2
import Derived.Test.YtledlfncpjoepaaMth
import Derived.Test.YtledlfncpjoepaaMli
namespace Go.Proofs.Ytledlfncpjoepaa.Pure
namespace FnExactRingsOfB
open Go.RowKit Go.Proofs.Ytledlfncpjoepaa.PFnExactRingsOf Go.Proofs.YtledlfncpjoepaaW.PrintWords Go.Proofs.YtledlfncpjoepaaW.PrintLast Go.Proofs.YtledlfncpjoepaaW.PrintMore Go.Proofs.Ytledlfncpjoepaa.Mth
set_option linter.unusedVariables false
set_option linter.unusedSimpArgs false
theorem spec_l00In_eq (a b c : Int) : spec_l00In.f a b c = some (decide (b ≤ a ∧ a ≤ c)) := by
  unfold spec_l00In.f; by_cases h : b ≤ a <;> simp [h]
theorem impl_within_eq (a b c : Int) : impl_within.f a b c = some (decide (b ≤ a ∧ a ≤ c)) := by
  unfold impl_within.f; by_cases h : b ≤ a <;> simp [h]
theorem impl_floorDiv_eq {a b : Int} (hb : 0 < b) (h : -9223372036854775808 ≤ a) (h' : a ≤ 9223372036854775807) : impl_floorDiv.f a b = some (a / b) := by
  unfold impl_floorDiv.f; exact floor_f hb h h'
theorem impl_isRadius_eq (a : Int) : impl_isRadius.f a = some (decide (radOk a)) := by
  unfold impl_isRadius.f; rw [impl_within_eq]; rfl
theorem impl_isBreadth_eq (a : Int) : impl_isBreadth.f a = some (decide (brOk a)) := by
  unfold impl_isBreadth.f; rw [impl_within_eq]; rfl
theorem impl_ceilDiv_eq {a b : Int} (hb : 0 < b) (h0 : 0 ≤ a) (h1 : a ≤ 1000000000000) : impl_ceilDiv.f a b = some (-(-a / b)) := by
  have c := ceil_bd hb h0 h1
  unfold impl_ceilDiv.f; rw [w64 (n := -a) (by omega) (by omega), impl_floorDiv_eq hb (by omega) (by omega), Option.bind_some, w64 (by omega) (by omega)]
theorem laws_eqInt64S_l (l : List Int) (hl : l.length ≤ 1000000000) (d : Nat) : ∀ (k : Nat) (i : Int), 0 ≤ i → i + d = l.length → d < k → laws_eqInt64S.l0 k l l i = some true := by
  induction d with
  | zero =>
    intro k i h0 h1 hk
    obtain ⟨k, rfl⟩ : ∃ m, k = m + 1 := ⟨k - 1, by omega⟩
    rw [laws_eqInt64S.l0, if_neg (by omega)]
  | succ d ih =>
    intro k i h0 h1 hk
    obtain ⟨k, rfl⟩ : ∃ m, k = m + 1 := ⟨k - 1, by omega⟩
    rw [laws_eqInt64S.l0, if_pos (by omega), if_pos h0, if_pos (by omega), if_pos rfl, w64 (by omega) (by omega)]
    exact ih k (i + 1) (by omega) (by omega) (by omega)
theorem laws_eqInt64S_rfl {k : Nat} (l : List Int) (hl : l.length ≤ 1000000000) (hk : l.length < k) : laws_eqInt64S.f k l l = some true := by
  unfold laws_eqInt64S.f; rw [if_pos rfl]; exact laws_eqInt64S_l l hl l.length k 0 (by omega) (by omega) hk
theorem laws_markInt64S_l (n : Nat) (hn : n ≤ 1000000000) (d : Nat) : ∀ (k : Nat) (l : List Int) (x i : Int), l.length = n → 0 ≤ i → x = i + 1 → i + d = n → d < k → (∀ j : Int, 0 ≤ j → j < i → rd l j = j + 1) →
    ∃ l', laws_markInt64S.l0 k l x i = some ((n : Int) + 1, l') ∧ l'.length = n ∧ ∀ j : Int, 0 ≤ j → j < n → rd l' j = j + 1 := by
  induction d with
  | zero =>
    intro k l x i hl h0 hx h1 hk hm
    obtain ⟨k, rfl⟩ : ∃ m, k = m + 1 := ⟨k - 1, by omega⟩
    refine ⟨l, ?_, hl, fun j a b => hm j a (by omega)⟩
    rw [laws_markInt64S.l0, if_neg (by omega), hx, show i = (n : Int) by omega]
  | succ d ih =>
    intro k l x i hl h0 hx h1 hk hm
    obtain ⟨k, rfl⟩ : ∃ m, k = m + 1 := ⟨k - 1, by omega⟩
    rw [laws_markInt64S.l0, if_pos (by omega), if_pos h0, w64 (n := x + 1) (by omega) (by omega), w64 (n := i + 1) (by omega) (by omega)]
    refine ih k _ (x + 1) (i + 1) (by simpa using hl) (by omega) (by omega) (by omega) (by omega) ?_
    intro j a b
    by_cases e : j = i
    · subst e; rw [rd_set_eq _ a (by omega), hx]
    · rw [rd_set_ne _ h0 a (fun q => e q.symm)]; exact hm j a (by omega)
theorem laws_markInt64S_ok {k : Nat} (l : List Int) (hl : l.length ≤ 1000000000) (hk : l.length < k) :
    ∃ l', laws_markInt64S.f k l 1 = some ((l.length : Int) + 1, l') ∧ l'.length = l.length ∧ ∀ j : Int, 0 ≤ j → j < l.length → rd l' j = j + 1 := by
  unfold laws_markInt64S.f
  exact laws_markInt64S_l l.length hl l.length k l 1 0 rfl (by omega) (by omega) (by omega) hk (fun j a b => by omega)
theorem laws_heldInt64S_l (l : List Int) (hl : l.length ≤ 1000000000) (hm : ∀ j : Int, 0 ≤ j → j < l.length → rd l j = j + 1) (d : Nat) : ∀ (k : Nat) (x i : Int), 0 ≤ i → x = i + 1 → i + d = l.length → d < k →
    laws_heldInt64S.l0 k l x i = some ((l.length : Int) + 1) := by
  induction d with
  | zero =>
    intro k x i h0 hx h1 hk
    obtain ⟨k, rfl⟩ : ∃ m, k = m + 1 := ⟨k - 1, by omega⟩
    rw [laws_heldInt64S.l0, if_neg (by omega), hx, show i = (l.length : Int) by omega]
  | succ d ih =>
    intro k x i h0 hx h1 hk
    obtain ⟨k, rfl⟩ : ∃ m, k = m + 1 := ⟨k - 1, by omega⟩
    rw [laws_heldInt64S.l0, if_pos (by omega), if_pos h0, if_pos (by rw [hm i h0 (by omega), hx]), w64 (n := x + 1) (by omega) (by omega), w64 (n := i + 1) (by omega) (by omega)]
    exact ih k (x + 1) (i + 1) (by omega) (by omega) (by omega) (by omega)
theorem laws_heldInt64S_ok {k : Nat} (l : List Int) (hl : l.length ≤ 1000000000) (hk : l.length < k) (hm : ∀ j : Int, 0 ≤ j → j < l.length → rd l j = j + 1) :
    laws_heldInt64S.f k l 1 = some ((l.length : Int) + 1) := by
  unfold laws_heldInt64S.f
  exact laws_heldInt64S_l l hl hm l.length k 1 0 (by omega) (by omega) (by omega) hk
theorem impl_RingsOf_l {r w : Int} (hr : radOk r) (hw : brOk w) (d : Nat) : ∀ (k : Nat) (acc : List Int) (x : Int), 0 ≤ x → x ≤ 300000 → r ≤ x + d * w → acc.length + d ≤ 1000 → d < k →
    impl_RingsOf.l0 k r w acc x = some (acc ++ ringL (d + 1) r w x, 0) := by
  induction d with
  | zero =>
    intro k acc x h0 h1 h2 h3 hk
    obtain ⟨k, rfl⟩ : ∃ m, k = m + 1 := ⟨k - 1, by omega⟩
    have hx : ¬ x < r := by simp at h2; omega
    by_cases z : 0 < r
    · rw [impl_RingsOf.l0, if_neg hx, if_pos z, if_pos (by omega), ringL_no1 _ hx z]
    · rw [impl_RingsOf.l0, if_neg hx, if_neg z, ringL_no2 _ hx z]; simp
  | succ d ih =>
    intro k acc x h0 h1 h2 h3 hk
    obtain ⟨k, rfl⟩ : ∃ m, k = m + 1 := ⟨k - 1, by omega⟩
    have e : ((d + 1 : Nat) : Int) * w = d * w + w := by grind
    by_cases z : x < r
    · rw [impl_RingsOf.l0, if_pos z, if_pos (by omega), w64 (by omega) (by omega), ih k _ (x + w) (by omega) (by omega) (by omega) (by simp; omega) (by omega), ringL_yes _ z]; simp
    · by_cases y : 0 < r
      · rw [impl_RingsOf.l0, if_neg z, if_pos y, if_pos (by omega), ringL_no1 _ z y]
      · rw [impl_RingsOf.l0, if_neg z, if_neg y, ringL_no2 _ z y]; simp
theorem impl_RingsOf_eq {k : Nat} (hk : 100 ≤ k) (r w : Int) : impl_RingsOf.f k r w = some (RRingsOf r w) := by
  obtain ⟨k, rfl⟩ : ∃ m, k = m + 1 := ⟨k - 1, by omega⟩
  unfold impl_RingsOf.f RRingsOf; simp only [impl_isRadius_eq, impl_isBreadth_eq, Option.bind_some, decide_eq_true_eq, impl_RingsOf.j0, Bool.not_eq_true', decide_eq_false_iff_not, if_true]
  by_cases h : radOk r
  · by_cases g : brOk w
    · rw [if_pos h, if_neg (fun e => e g), if_pos ⟨h, g⟩, impl_ceilDiv_eq (by omega) (by omega) (by omega), Option.bind_some]
      by_cases z : -(-r / w) > 60
      · rw [if_pos z, if_pos z]
      · rw [if_neg z, if_neg z, impl_RingsOf_l h g 60 k [] w (by omega) (by omega) ?_ (by simp) (by omega)]
        · rfl
        · have a := Int.emod_nonneg (-r) (show w ≠ 0 by omega)
          have b := Int.mul_ediv_add_emod (-r) w
          have c : 0 ≤ w * (60 - -(-r / w)) := Int.mul_nonneg (by omega) (by omega)
          rw [Int.mul_sub, Int.mul_neg] at c
          show r ≤ w + ((60 : Nat) : Int) * w
          have : ((60 : Nat) : Int) = 60 := rfl
          rw [this]; omega
    · rw [if_pos h, if_pos g, if_neg (fun e => g e.2)]
  · rw [if_neg h, if_neg (fun e => h e.1)]
theorem spec_l06Rings_eq {k : Nat} (hk : 1 ≤ k) (r w : Int) : spec_l06Rings.f k r w = some (if radOk r ∧ brOk w then (if 60 < -(-r / w) then 5 else 0) else 2) := by
  obtain ⟨k, rfl⟩ : ∃ m, k = m + 1 := ⟨k - 1, by omega⟩
  unfold spec_l06Rings.f; simp only [spec_l00In_eq, Option.bind_some, decide_eq_true_eq, spec_l06Rings.j0, Bool.not_eq_true', decide_eq_false_iff_not, if_true]
  by_cases h : radOk r
  · by_cases g : brOk w
    · have q0 : 0 ≤ (r + w - 1) / w := Int.ediv_nonneg (by omega) (by omega)
      have q1 : (r + w - 1) / w ≤ 200000 := Int.le_trans (Int.ediv_le_self w (by omega)) (by omega)
      rw [if_pos h, if_neg (fun e => e g), if_pos (show radOk r ∧ brOk w from ⟨h, g⟩), if_neg (by omega), w64 (n := r + w) (by omega) (by omega), w64 (n := r + w - 1) (by omega) (by omega), tdiv_nn (by omega), w64 (by omega) (by omega), ceil_eq (by omega)]
      split <;> rfl
    · rw [if_pos h, if_pos g, if_neg (fun e => g e.2)]
  · rw [if_neg h, if_neg (fun e => h e.1)]
theorem spec_RingsOf_l {r w : Int} (hr : radOk r) (hw : brOk w) (d : Nat) : ∀ (k : Nat) (acc : List Int) (x : Int), 0 ≤ x → x ≤ 300000 → r ≤ x + d * w → acc.length + d ≤ 1000 → d < k →
    spec_RingsOf.l0 k r w acc x = some (acc ++ ringL (d + 1) r w x, 0) := by
  induction d with
  | zero =>
    intro k acc x h0 h1 h2 h3 hk
    obtain ⟨k, rfl⟩ : ∃ m, k = m + 1 := ⟨k - 1, by omega⟩
    have hx : ¬ x < r := by simp at h2; omega
    by_cases z : 0 < r
    · rw [spec_RingsOf.l0, if_neg hx, if_pos z, if_pos (by omega), ringL_no1 _ hx z]
    · rw [spec_RingsOf.l0, if_neg hx, if_neg z, ringL_no2 _ hx z]; simp
  | succ d ih =>
    intro k acc x h0 h1 h2 h3 hk
    obtain ⟨k, rfl⟩ : ∃ m, k = m + 1 := ⟨k - 1, by omega⟩
    have e : ((d + 1 : Nat) : Int) * w = d * w + w := by grind
    by_cases z : x < r
    · rw [spec_RingsOf.l0, if_pos z, if_pos (by omega), w64 (by omega) (by omega), ih k _ (x + w) (by omega) (by omega) (by omega) (by simp; omega) (by omega), ringL_yes _ z]; simp
    · by_cases y : 0 < r
      · rw [spec_RingsOf.l0, if_neg z, if_pos y, if_pos (by omega), ringL_no1 _ z y]
      · rw [spec_RingsOf.l0, if_neg z, if_neg y, ringL_no2 _ z y]; simp
theorem spec_RingsOf_eq {k : Nat} (hk : 100 ≤ k) (r w : Int) : spec_RingsOf.f k r w = some (RRingsOf r w) := by
  unfold spec_RingsOf.f RRingsOf; rw [spec_l06Rings_eq (by omega), Option.bind_some]
  by_cases h : radOk r ∧ brOk w
  · rw [if_pos h, if_pos h]
    by_cases z : 60 < -(-r / w)
    · rw [if_pos z, if_pos z, if_neg (by omega)]
    · rw [if_neg z, if_neg z, if_pos rfl, spec_RingsOf_l h.1 h.2 60 k [] w (by omega) (by omega) ?_ (by simp) (by omega)]
      · rfl
      · have a := Int.emod_nonneg (-r) (show w ≠ 0 by omega)
        have b := Int.mul_ediv_add_emod (-r) w
        have c : 0 ≤ w * (60 - -(-r / w)) := Int.mul_nonneg (by omega) (by omega)
        rw [Int.mul_sub, Int.mul_neg] at c
        show r ≤ w + ((60 : Nat) : Int) * w
        have : ((60 : Nat) : Int) = 60 := rfl
        rw [this]; omega
  · rw [if_neg h, if_neg h, if_neg (by omega)]
end FnExactRingsOfB
open Go.RowKit Go.Proofs.Ytledlfncpjoepaa.PFnExactRingsOf Go.Proofs.YtledlfncpjoepaaW.PrintWords Go.Proofs.YtledlfncpjoepaaW.PrintLast Go.Proofs.YtledlfncpjoepaaW.PrintMore Go.Proofs.Ytledlfncpjoepaa.Mth FnExactRingsOfB
set_option linter.unusedVariables false in
set_option linter.unusedSimpArgs false in
theorem FnExactRingsOf : laws_FnExactRingsOf.Pure := by
  intro r w _ _
  refine ⟨200, ?_⟩
  have hl := RRingsOf_len r w
  obtain ⟨l', hm, hl', hj⟩ := laws_markInt64S_ok (k := 199) (RRingsOf r w).1 (by omega) (by omega)
  have hh := laws_heldInt64S_ok (k := 199) l' (by omega) (by omega) (by rw [hl']; exact hj)
  have hh2 := laws_heldInt64S_ok (k := 198) l' (by omega) (by omega) (by rw [hl']; exact hj)
  unfold laws_FnExactRingsOf.f
  rw [spec_RingsOf_eq (by omega), Option.bind_some, impl_RingsOf_eq (by omega), Option.bind_some, laws_eqInt64S_rfl _ (by omega) (by omega), Option.bind_some, if_pos rfl]
  rw [show (200 : Nat) = 199 + 1 from rfl, laws_FnExactRingsOf.j0, if_neg (by simp), hm, Option.bind_some, hh, Option.bind_some, if_neg (by omega), if_pos (by rw [hl']), impl_RingsOf_eq (by omega), Option.bind_some, laws_eqInt64S_rfl _ (by omega) (by omega), Option.bind_some, if_pos rfl]
  rw [show (199 : Nat) = 198 + 1 from rfl, laws_FnExactRingsOf.j1, if_neg (by simp), hh2, Option.bind_some, if_neg (by omega), if_pos (by rw [hl'])]
end Go.Proofs.Ytledlfncpjoepaa.Pure
