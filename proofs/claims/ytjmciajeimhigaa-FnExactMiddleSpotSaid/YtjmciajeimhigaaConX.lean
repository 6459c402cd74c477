/- The middle place. Conditions: as stated. -/
import Derived.Test.YtjmciajeimhigaaConT
import Derived.Test.YtjmciajeimhigaaPkT
import Derived.Test.YtjmciajeimhigaaMds
namespace Go.Proofs.Ytjmciajeimhigaa.Con
open Go.RowKit Go.Proofs.YtjmciajeimhigaaW.PrintWords Go.Proofs.YtjmciajeimhigaaW.PrintLast Go.Proofs.YtjmciajeimhigaaW.PrintMore Go.Proofs.Ytjmciajeimhigaa.Mth
open Go.Proofs.Ytjmciajeimhigaa.PFnExactUnderCap (spec_l02Ok.f spec_l00In.f spec_l00Max.f spec_l05Code.f spec_l05Code.l0 spec_l05Table.f spec_l05Table.l0 spec_l05Table.l1 spec_MiddleSpot.f spec_MiddleSpot.l0 spec_MiddleSpot.l1 spec_l05Distance.f impl_distance.f impl_distancesFrom.f impl_distancesFrom.l0 rd_L3)
attribute [local go_sem] max2_int min2_int max_two min_two max_three min_three
set_option linter.unusedVariables false
set_option linter.unusedSimpArgs false
noncomputable def rowD (xs : List Sp) (a b : Int) (m : Nat) : List Int := (List.range m).map fun (j : Nat) => dist a b (rdS xs j).f0 (rdS xs j).f1
theorem rowD_len (xs : List Sp) (a b : Int) (m : Nat) : (rowD xs a b m).length = m := by simp [rowD]
theorem rowD_succ (xs : List Sp) (a b : Int) (m : Nat) : rowD xs a b (m + 1) = rowD xs a b m ++ [dist a b (rdS xs m).f0 (rdS xs m).f1] := by
  unfold rowD; rw [List.range_succ, List.map_append]; rfl
theorem rowD_rd (xs : List Sp) (a b : Int) (m : Nat) {j : Nat} (h : j < m) : rd (rowD xs a b m) (j : Int) = dist a b (rdS xs j).f0 (rdS xs j).f1 := by
  unfold rd rowD
  rw [List.getD_eq_getElem?_getD, List.getElem?_map, Int.toNat_natCast, List.getElem?_range h]; rfl
noncomputable def rowS (xs : List Sp) (i : Int) (m : Nat) : List Int := rowD xs (rdS xs i).f0 (rdS xs i).f1 m
noncomputable def tabS (xs : List Sp) (m : Nat) : List (List Int) := (List.range m).map fun (i : Nat) => rowS xs i xs.length
theorem tabS_len (xs : List Sp) (m : Nat) : (tabS xs m).length = m := by simp [tabS]
theorem tabS_succ (xs : List Sp) (m : Nat) : tabS xs (m + 1) = tabS xs m ++ [rowS xs m xs.length] := by
  unfold tabS; rw [List.range_succ, List.map_append]; rfl
theorem tabS_rd (xs : List Sp) (m : Nat) {i : Nat} (h : i < m) : rd_L3 (tabS xs m) (i : Int) = rowS xs i xs.length := by
  unfold rd_L3 tabS
  rw [List.getD_eq_getElem?_getD, List.getElem?_map, Int.toNat_natCast, List.getElem?_range h]; rfl
theorem l02Ok_f (a b : Int) : spec_l02Ok.f a b = some (decide (sOk a b)) := by
  unfold spec_l02Ok.f spec_l00In.f
  by_cases h1 : -324000 ≤ a
  · rw [if_pos h1, Option.bind_some]
    by_cases h2 : a ≤ 324000
    · rw [if_pos (by simpa using h2)]
      by_cases h3 : -648000 ≤ b
      · rw [if_pos h3, Option.bind_some]
        congr 1
        by_cases h4 : b ≤ 647999
        · rw [decide_eq_true h4, decide_eq_true (⟨⟨h1, h2⟩, h3, h4⟩ : sOk a b)]
        · rw [decide_eq_false h4, decide_eq_false (fun e : sOk a b => h4 e.2.2)]
      · rw [if_neg h3, Option.bind_some, decide_eq_false (fun e : sOk a b => h3 e.2.1)]
    · rw [if_neg (by simpa using h2), decide_eq_false (fun e : sOk a b => h2 e.1.2)]
  · rw [if_neg h1, Option.bind_some, if_neg (by simp), decide_eq_false (fun e : sOk a b => h1 e.1.1)]
theorem l05Code_f (xs : List Sp) (hx : xs.length ≤ 9223372036854775807) (a b : Int) (d : Nat) : ∀ (k i : Nat), i + d = xs.length → (∀ j : Nat, j < i → sOk (rdS xs j).f0 (rdS xs j).f1) → spec_l05Code.l0 (k + d + 1) xs a b (i : Int) = some (codL xs a b) := by
  induction d with
  | zero =>
    intro k i h hk
    rw [spec_l05Code.l0, if_neg (by omega)]
    unfold codL
    rw [if_pos ((okL_iff xs).2 (fun j hj => hk j (by omega)))]
    by_cases h1 : (xs.length : Int) ≤ b
    · rw [if_neg (by omega), if_pos h1]
      by_cases h2 : (xs.length : Int) < a
      · rw [if_pos h2, if_pos h2]
      · rw [if_neg h2, if_neg h2]
    · rw [if_pos (by omega), if_neg h1]
  | succ d ih =>
    intro k i h hk
    rw [show k + (d + 1) + 1 = (k + d + 1) + 1 by omega, spec_l05Code.l0, if_pos (by omega), if_pos (by omega), l02Ok_f, Option.bind_some]
    by_cases z : sOk (rdS xs i).f0 (rdS xs i).f1
    · rw [if_pos (by simpa using z), w64 (n := (i : Int) + 1) (by omega) (by omega)]
      exact ih k (i + 1) (by omega) (fun j hj => by
        by_cases e : j = i
        · subst e; exact z
        · exact hk j (by omega))
    · rw [if_neg (by simpa using z)]
      unfold codL
      rw [if_neg (fun e => z ((okL_iff xs).1 e i (by omega)))]
theorem table_1 {xs : List Sp} (hn : xs.length ≤ 12) (ho : okL xs) {i : Nat} (hi : i < xs.length) (d : Nat) : ∀ (k j : Nat), j + d = xs.length → spec_l05Table.l1 (k + d + 1) xs (tabS xs i) i (rowS xs i j) (j : Int) = spec_l05Table.l0 k xs (tabS xs (i + 1)) ((i : Int) + 1) := by
  induction d with
  | zero =>
    intro k j h
    rw [spec_l05Table.l1, if_neg (by omega), if_pos (by rw [tabS_len]; omega), w64 (n := (i : Int) + 1) (by omega) (by omega), tabS_succ, show j = xs.length by omega]
  | succ d ih =>
    intro k j h
    have so := (okL_iff xs).1 ho
    rw [show k + (d + 1) + 1 = (k + d + 1) + 1 by omega, spec_l05Table.l1, if_pos (by omega)]
    have e : rowS xs i j ++ [dist (rdS xs i).f0 (rdS xs i).f1 (rdS xs j).f0 (rdS xs j).f1] = rowS xs i (j + 1) := (rowD_succ _ _ _ _).symm
    have hlen : (rowS xs i j).length < 17592186044416 := by unfold rowS; rw [rowD_len]; omega
    by_cases z : (j : Int) < i
    · rw [if_pos z, if_pos (by omega), if_pos (by rw [tabS_len]; omega), if_pos (by omega), tabS_rd xs i (by omega), if_pos (by unfold rowS; rw [rowD_len]; omega), if_pos hlen, w64 (n := (j : Int) + 1) (by omega) (by omega)]
      rw [show rd (rowS xs (j : Int) xs.length) (i : Int) = dist (rdS xs i).f0 (rdS xs i).f1 (rdS xs j).f0 (rdS xs j).f1 by unfold rowS; rw [rowD_rd _ _ _ _ hi, dist_sym], e]
      exact ih k (j + 1) (by omega)
    · rw [if_neg z, if_pos (by omega), if_pos (by omega), if_pos (by omega)]
      unfold spec_l05Distance.f
      rw [if_pos ⟨so i hi, so j (by omega)⟩, Option.bind_some, if_pos hlen, w64 (n := (j : Int) + 1) (by omega) (by omega), e]
      exact ih k (j + 1) (by omega)
theorem table_0 {xs : List Sp} (hn : xs.length ≤ 12) (ho : okL xs) (d : Nat) : ∀ (k i : Nat), i + d = xs.length → spec_l05Table.l0 (k + d * (xs.length + 2) + 1) xs (tabS xs i) (i : Int) = some (tabS xs xs.length) := by
  induction d with
  | zero =>
    intro k i h
    rw [spec_l05Table.l0, if_neg (by omega), show i = xs.length by omega]
  | succ d ih =>
    intro k i h
    rw [spec_l05Table.l0, if_pos (by omega), show k + (d + 1) * (xs.length + 2) = (k + d * (xs.length + 2) + 1) + xs.length + 1 by rw [Nat.add_mul]; omega]
    have q := table_1 hn ho (i := i) (by omega) xs.length (k + d * (xs.length + 2) + 1) 0 (by omega)
    rw [show rowS xs (i : Int) 0 = [] from rfl] at q
    exact q.trans (ih k (i + 1) (by omega))
theorem table_f {xs : List Sp} (hn : xs.length ≤ 12) (ho : okL xs) {k : Nat} (hk : 200 ≤ k) : spec_l05Table.f k xs = some (tabS xs xs.length) := by
  have h2 : xs.length * (xs.length + 2) ≤ 12 * 14 := Nat.mul_le_mul hn (by omega)
  unfold spec_l05Table.f
  obtain ⟨m, rfl⟩ : ∃ m, k = m + xs.length * (xs.length + 2) + 1 := ⟨k - (xs.length * (xs.length + 2) + 1), by omega⟩
  exact table_0 hn ho xs.length m 0 (by omega)
/-- The greatest of the first m distances of place i. -/
noncomputable def mxD (xs : List Sp) (i : Int) : Nat → Int
  | 0 => 0
  | m + 1 => if dist (rdS xs i).f0 (rdS xs i).f1 (rdS xs m).f0 (rdS xs m).f1 < mxD xs i m then mxD xs i m else dist (rdS xs i).f0 (rdS xs i).f1 (rdS xs m).f0 (rdS xs m).f1
theorem mxD_bd (xs : List Sp) (i : Int) (m : Nat) : 0 ≤ mxD xs i m ∧ mxD xs i m ≤ 648000 := by
  induction m with
  | zero => exact ⟨Int.le_refl _, by show (0 : Int) ≤ 648000; omega⟩
  | succ m ih =>
    have := dist_bd (rdS xs i).f0 (rdS xs i).f1 (rdS xs m).f0 (rdS xs m).f1
    unfold mxD; split <;> omega
/-- The middle place of the first m, and its greatest distance; -1 where there is none yet. -/
noncomputable def msD (xs : List Sp) : Nat → Int × Int
  | 0 => (0, -1)
  | m + 1 => if (msD xs m).2 < 0 ∨ mxD xs m xs.length < (msD xs m).2 then ((m : Int), mxD xs m xs.length) else msD xs m
noncomputable def RMiddleSpot (xs : List Sp) : Int × Int × Int := if codL xs 1 12 = 0 then ((msD xs xs.length).1, (msD xs xs.length).2, 0) else (0, 0, codL xs 1 12)
theorem middle_1 {xs : List Sp} (hn : xs.length ≤ 12) (x y : Int) {i : Nat} (hi : i < xs.length) (d : Nat) : ∀ (k j : Nat), j + d = xs.length → spec_MiddleSpot.l1 (k + d + 1) (tabS xs xs.length) x y i (mxD xs i j) (j : Int) = (if y < 0 ∨ mxD xs i xs.length < y then spec_MiddleSpot.l0 k (tabS xs xs.length) i (mxD xs i xs.length) ((i : Int) + 1) else spec_MiddleSpot.l0 k (tabS xs xs.length) x y ((i : Int) + 1)) := by
  induction d with
  | zero =>
    intro k j h
    rw [spec_MiddleSpot.l1, if_neg (by rw [tabS_len]; omega), w64 (n := (i : Int) + 1) (by omega) (by omega), show j = xs.length by omega]
    by_cases z : y < 0
    · rw [if_pos z, if_pos (Or.inl z)]
    · rw [if_neg z]
      by_cases z2 : mxD xs i xs.length < y
      · rw [if_pos z2, if_pos (Or.inr z2)]
      · rw [if_neg z2, if_neg (by omega)]
  | succ d ih =>
    intro k j h
    rw [show k + (d + 1) + 1 = (k + d + 1) + 1 by omega, spec_MiddleSpot.l1, if_pos (by rw [tabS_len]; omega), if_pos (by omega), if_pos (by rw [tabS_len]; omega), if_pos (by omega), tabS_rd xs _ hi, if_pos (by unfold rowS; rw [rowD_len]; omega)]
    rw [show rd (rowS xs (i : Int) xs.length) (j : Int) = dist (rdS xs i).f0 (rdS xs i).f1 (rdS xs j).f0 (rdS xs j).f1 by unfold rowS; rw [rowD_rd _ _ _ _ (by omega)]]
    have e : spec_l00Max.f (mxD xs i j) (dist (rdS xs i).f0 (rdS xs i).f1 (rdS xs j).f0 (rdS xs j).f1) = some (mxD xs i (j + 1)) := by
      unfold spec_l00Max.f
      show _ = some (if _ then _ else _)
      by_cases z : dist (rdS xs i).f0 (rdS xs i).f1 (rdS xs j).f0 (rdS xs j).f1 < mxD xs i j
      · rw [if_pos z, if_pos z]
      · rw [if_neg z, if_neg z]
    rw [e, Option.bind_some, w64 (n := (j : Int) + 1) (by omega) (by omega)]
    exact ih k (j + 1) (by omega)
theorem middle_0 {xs : List Sp} (hn : xs.length ≤ 12) (d : Nat) : ∀ (k i : Nat), i + d = xs.length → spec_MiddleSpot.l0 (k + d * (xs.length + 2) + 1) (tabS xs xs.length) (msD xs i).1 (msD xs i).2 (i : Int) = some ((msD xs xs.length).1, (msD xs xs.length).2, 0) := by
  induction d with
  | zero =>
    intro k i h
    rw [spec_MiddleSpot.l0, if_neg (by rw [tabS_len]; omega), show i = xs.length by omega]
  | succ d ih =>
    intro k i h
    rw [spec_MiddleSpot.l0, if_pos (by rw [tabS_len]; omega), show k + (d + 1) * (xs.length + 2) = (k + d * (xs.length + 2) + 1) + xs.length + 1 by rw [Nat.add_mul]; omega]
    have q := middle_1 hn (msD xs i).1 (msD xs i).2 (i := i) (by omega) xs.length (k + d * (xs.length + 2) + 1) 0 (by omega)
    have r := ih k (i + 1) (by omega)
    refine q.trans ?_
    by_cases z : (msD xs i).2 < 0 ∨ mxD xs i xs.length < (msD xs i).2
    · rw [if_pos z]
      rw [show msD xs (i + 1) = ((i : Int), mxD xs i xs.length) from if_pos z] at r
      exact r
    · rw [if_neg z]
      rw [show msD xs (i + 1) = msD xs i from if_neg z] at r
      exact r
theorem middle_f (xs : List Sp) (hx : xs.length ≤ 9223372036854775807) : spec_MiddleSpot.f (xs.length + 300) xs = some (RMiddleSpot xs) := by
  unfold spec_MiddleSpot.f spec_l05Code.f
  have c := l05Code_f xs hx 1 12 xs.length 299 0 (by omega) (fun j hj => absurd hj (Nat.not_lt_zero _))
  rw [show xs.length + 300 = 299 + xs.length + 1 by omega]
  rw [show ((0 : Nat) : Int) = 0 from rfl] at c
  rw [c, Option.bind_some]
  unfold RMiddleSpot
  by_cases z : codL xs 1 12 = 0
  · rw [if_pos z, if_pos z]
    obtain ⟨ho, h1, h2⟩ := codL_0 z
    rw [table_f (by omega) ho (by omega), Option.bind_some]
    have h3 : xs.length * (xs.length + 2) ≤ 12 * 14 := Nat.mul_le_mul (by omega) (by omega)
    have q := middle_0 (xs := xs) (by omega) xs.length (299 + xs.length + 1 - (xs.length * (xs.length + 2) + 1)) 0 (by omega)
    rw [show 299 + xs.length + 1 - (xs.length * (xs.length + 2) + 1) + xs.length * (xs.length + 2) + 1 = 299 + xs.length + 1 by omega] at q
    exact q
  · rw [if_neg z, if_neg z]
theorem from_0 {xs : List Sp} (hn : xs.length ≤ 12) (ho : okL xs) {a b : Int} (hab : sOk a b) (d : Nat) : ∀ (k j : Nat), j + d = xs.length → impl_distancesFrom.l0 (k + d + 1) (rowD xs a b j) xs (xs.length : Int) (j : Int) a b = some (rowD xs a b xs.length) := by
  induction d with
  | zero =>
    intro k j h
    rw [impl_distancesFrom.l0, if_neg (by omega), show j = xs.length by omega]
  | succ d ih =>
    intro k j h
    rw [show k + (d + 1) + 1 = (k + d + 1) + 1 by omega, impl_distancesFrom.l0, if_pos (by omega), if_pos (by omega), if_pos (by omega)]
    unfold impl_distance.f
    rw [if_pos ⟨hab, (okL_iff xs).1 ho j (by omega)⟩, Option.bind_some, if_pos (by rw [rowD_len]; omega), w64 (n := (j : Int) + 1) (by omega) (by omega), ← rowD_succ]
    exact ih k (j + 1) (by omega)
theorem from_f {xs : List Sp} (hn : xs.length ≤ 12) (ho : okL xs) {a b : Int} (hab : sOk a b) : impl_distancesFrom.f (xs.length + 1) xs a b = some (rowD xs a b xs.length) := by
  unfold impl_distancesFrom.f
  have q := from_0 hn ho hab xs.length 0 0 (by omega)
  rw [Nat.zero_add] at q
  exact q
theorem spec_MiddleSpot_c {A : Option Addr} {n c : Nat} {xs : List Sp} (w : World) (hr : Kd.C kSp w A n xs) (hc : n ≤ c) : Calls Try.prog 52 #[.slice A n c] w fun e w' => e = .returned (.tuple #[.int .i64 (RMiddleSpot xs).1, .int .i64 (RMiddleSpot xs).2.1, .int .i64 (RMiddleSpot xs).2.2]) ∧ Below w.heap.size w w' := by
  have hn := hr.2.1
  obtain rfl : xs.length = n := hr.1
  exact PFnExactUnderCap.spec_MiddleSpot.calls (xs.length + 300) A c xs _ _ _ w hr hc (middle_f xs (by omega))
theorem impl_distancesFrom_c {A : Option Addr} {n c : Nat} {xs : List Sp} {a b : Int} (w : World) (hr : Kd.C kSp w A n xs) (hc : n ≤ c) (hn : n ≤ 12) (ho : okL xs) (hab : sOk a b) : Calls Try.prog 98 #[.slice A n c, .agg #[.int .i64 a, .int .i64 b]] w fun e w' => ∃ v0_ : Value, e = .returned (v0_) ∧ Kd.R (Kd.int .i64) 2 w' w.heap.size (fun _ => True) v0_ (rowD xs a b n) ∧ Below w.heap.size w w' := by
  obtain rfl : xs.length = n := hr.1
  exact PFnExactUnderCap.impl_distancesFrom.calls (xs.length + 1) A c xs a b _ w hr hc (from_f hn ho hab)
end Go.Proofs.Ytjmciajeimhigaa.Con
