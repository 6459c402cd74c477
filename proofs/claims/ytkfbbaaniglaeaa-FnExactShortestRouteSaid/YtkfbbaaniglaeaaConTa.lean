/- Tables of distances: plain facts. Conditions: as stated. -/
import Derived.Test.YtkfbbaaniglaeaaConN
import Derived.Test.YtkfbbaaniglaeaaPkT
import Derived.Test.YtkfbbaaniglaeaaMds
namespace Go.Proofs.Ytkfbbaaniglaeaa.Con
open Go.RowKit Go.Proofs.YtkfbbaaniglaeaaW.PrintWords Go.Proofs.YtkfbbaaniglaeaaW.PrintLast Go.Proofs.YtkfbbaaniglaeaaW.PrintMore Go.Proofs.Ytkfbbaaniglaeaa.Mth
open Go.Proofs.Ytkfbbaaniglaeaa.PFnExactUnderCap (spec_l02Ok.f spec_l00In.f spec_l05Code.f spec_l05Code.l0 spec_l05Table.f spec_l05Table.l0 spec_l05Table.l1 spec_DistanceTable.f spec_l05Distance.f impl_distance.f impl_distancesFrom.f impl_distancesFrom.l0 rd_L3 laws_eqInt64S.f laws_eqInt64S.l0 laws_eqInt64SS.f laws_eqInt64SS.l0 laws_markInt64S.f laws_markInt64S.l0 laws_heldInt64S.f laws_heldInt64S.l0 laws_heldInt64SS.f laws_heldInt64SS.l0)
attribute [local go_sem] max2_int min2_int max_two min_two max_three min_three
set_option linter.unusedVariables false
set_option linter.unusedSimpArgs false
noncomputable def rowD (xs : List Sp) (a b : Int) (m : Nat) : List Int := (List.range m).map fun (j : Nat) => dist a b (rdS xs j).f0 (rdS xs j).f1
theorem rowD_len (xs : List Sp) (a b : Int) (m : Nat) : (rowD xs a b m).length = m := by simp [rowD]
theorem rowD_succ (xs : List Sp) (a b : Int) (m : Nat) : rowD xs a b (m + 1) = rowD xs a b m ++ [dist a b (rdS xs m).f0 (rdS xs m).f1] := by
  unfold rowD; rw [List.range_succ, List.map_append]; rfl
theorem rowD_rd (xs : List Sp) (a b : Int) (m : Nat) {j : Nat} (h : j < m) : rd (rowD xs a b m) (j : Int) = dist a b (rdS xs j).f0 (rdS xs j).f1 := by
  unfold rd rowD
  rw [List.getD_eq_getElem?_getD, List.getElem?_map, Int.toNat_natCast, List.getElem?_range h]; rfl
noncomputable def rowS (xs : List Sp) (i : Int) (m : Nat) : List Int := rowD xs (rdS xs i).f0 (rdS xs i).f1 m
noncomputable def tabS (xs : List Sp) (m : Nat) : List (List Int) := (List.range m).map fun (i : Nat) => rowS xs i xs.length
theorem tabS_len (xs : List Sp) (m : Nat) : (tabS xs m).length = m := by simp [tabS]
theorem tabS_succ (xs : List Sp) (m : Nat) : tabS xs (m + 1) = tabS xs m ++ [rowS xs m xs.length] := by
  unfold tabS; rw [List.range_succ, List.map_append]; rfl
theorem tabS_rd (xs : List Sp) (m : Nat) {i : Nat} (h : i < m) : rd_L3 (tabS xs m) (i : Int) = rowS xs i xs.length := by
  unfold rd_L3 tabS
  rw [List.getD_eq_getElem?_getD, List.getElem?_map, Int.toNat_natCast, List.getElem?_range h]; rfl
theorem l02Ok_f (a b : Int) : spec_l02Ok.f a b = some (decide (sOk a b)) := by
  unfold spec_l02Ok.f spec_l00In.f
  by_cases h1 : -324000 ≤ a
  · rw [if_pos h1, Option.bind_some]
    by_cases h2 : a ≤ 324000
    · rw [if_pos (by simpa using h2)]
      by_cases h3 : -648000 ≤ b
      · rw [if_pos h3, Option.bind_some]
        congr 1
        by_cases h4 : b ≤ 647999
        · rw [decide_eq_true h4, decide_eq_true (⟨⟨h1, h2⟩, h3, h4⟩ : sOk a b)]
        · rw [decide_eq_false h4, decide_eq_false (fun e : sOk a b => h4 e.2.2)]
      · rw [if_neg h3, Option.bind_some, decide_eq_false (fun e : sOk a b => h3 e.2.1)]
    · rw [if_neg (by simpa using h2), decide_eq_false (fun e : sOk a b => h2 e.1.2)]
  · rw [if_neg h1, Option.bind_some, if_neg (by simp), decide_eq_false (fun e : sOk a b => h1 e.1.1)]
theorem l05Code_f (xs : List Sp) (hx : xs.length ≤ 9223372036854775807) (a b : Int) (d : Nat) : ∀ (k i : Nat), i + d = xs.length → (∀ j : Nat, j < i → sOk (rdS xs j).f0 (rdS xs j).f1) → spec_l05Code.l0 (k + d + 1) xs a b (i : Int) = some (codL xs a b) := by
  induction d with
  | zero =>
    intro k i h hk
    rw [spec_l05Code.l0, if_neg (by omega)]
    unfold codL
    rw [if_pos ((okL_iff xs).2 (fun j hj => hk j (by omega)))]
    by_cases h1 : (xs.length : Int) ≤ b
    · rw [if_neg (by omega), if_pos h1]
      by_cases h2 : (xs.length : Int) < a
      · rw [if_pos h2, if_pos h2]
      · rw [if_neg h2, if_neg h2]
    · rw [if_pos (by omega), if_neg h1]
  | succ d ih =>
    intro k i h hk
    rw [show k + (d + 1) + 1 = (k + d + 1) + 1 by omega, spec_l05Code.l0, if_pos (by omega), if_pos (by omega), l02Ok_f, Option.bind_some]
    by_cases z : sOk (rdS xs i).f0 (rdS xs i).f1
    · rw [if_pos (by simpa using z), w64 (n := (i : Int) + 1) (by omega) (by omega)]
      exact ih k (i + 1) (by omega) (fun j hj => by
        by_cases e : j = i
        · subst e; exact z
        · exact hk j (by omega))
    · rw [if_neg (by simpa using z)]
      unfold codL
      rw [if_neg (fun e => z ((okL_iff xs).1 e i (by omega)))]
theorem table_1 {xs : List Sp} (hn : xs.length ≤ 12) (ho : okL xs) {i : Nat} (hi : i < xs.length) (d : Nat) : ∀ (k j : Nat), j + d = xs.length → spec_l05Table.l1 (k + d + 1) xs (tabS xs i) i (rowS xs i j) (j : Int) = spec_l05Table.l0 k xs (tabS xs (i + 1)) ((i : Int) + 1) := by
  induction d with
  | zero =>
    intro k j h
    rw [spec_l05Table.l1, if_neg (by omega), if_pos (by rw [tabS_len]; omega), w64 (n := (i : Int) + 1) (by omega) (by omega), tabS_succ, show j = xs.length by omega]
  | succ d ih =>
    intro k j h
    have so := (okL_iff xs).1 ho
    rw [show k + (d + 1) + 1 = (k + d + 1) + 1 by omega, spec_l05Table.l1, if_pos (by omega)]
    have e : rowS xs i j ++ [dist (rdS xs i).f0 (rdS xs i).f1 (rdS xs j).f0 (rdS xs j).f1] = rowS xs i (j + 1) := (rowD_succ _ _ _ _).symm
    have hlen : (rowS xs i j).length < 17592186044416 := by unfold rowS; rw [rowD_len]; omega
    by_cases z : (j : Int) < i
    · rw [if_pos z, if_pos (by omega), if_pos (by rw [tabS_len]; omega), if_pos (by omega), tabS_rd xs i (by omega), if_pos (by unfold rowS; rw [rowD_len]; omega), if_pos hlen, w64 (n := (j : Int) + 1) (by omega) (by omega)]
      rw [show rd (rowS xs (j : Int) xs.length) (i : Int) = dist (rdS xs i).f0 (rdS xs i).f1 (rdS xs j).f0 (rdS xs j).f1 by unfold rowS; rw [rowD_rd _ _ _ _ hi, dist_sym], e]
      exact ih k (j + 1) (by omega)
    · rw [if_neg z, if_pos (by omega), if_pos (by omega), if_pos (by omega)]
      unfold spec_l05Distance.f
      rw [if_pos ⟨so i hi, so j (by omega)⟩, Option.bind_some, if_pos hlen, w64 (n := (j : Int) + 1) (by omega) (by omega), e]
      exact ih k (j + 1) (by omega)
theorem table_0 {xs : List Sp} (hn : xs.length ≤ 12) (ho : okL xs) (d : Nat) : ∀ (k i : Nat), i + d = xs.length → spec_l05Table.l0 (k + d * (xs.length + 2) + 1) xs (tabS xs i) (i : Int) = some (tabS xs xs.length) := by
  induction d with
  | zero =>
    intro k i h
    rw [spec_l05Table.l0, if_neg (by omega), show i = xs.length by omega]
  | succ d ih =>
    intro k i h
    rw [spec_l05Table.l0, if_pos (by omega), show k + (d + 1) * (xs.length + 2) = (k + d * (xs.length + 2) + 1) + xs.length + 1 by rw [Nat.add_mul]; omega]
    have q := table_1 hn ho (i := i) (by omega) xs.length (k + d * (xs.length + 2) + 1) 0 (by omega)
    rw [show rowS xs (i : Int) 0 = [] from rfl] at q
    exact q.trans (ih k (i + 1) (by omega))
theorem table_f {xs : List Sp} (hn : xs.length ≤ 12) (ho : okL xs) {k : Nat} (hk : 200 ≤ k) : spec_l05Table.f k xs = some (tabS xs xs.length) := by
  have h2 : xs.length * (xs.length + 2) ≤ 12 * 14 := Nat.mul_le_mul hn (by omega)
  unfold spec_l05Table.f
  obtain ⟨m, rfl⟩ : ∃ m, k = m + xs.length * (xs.length + 2) + 1 := ⟨k - (xs.length * (xs.length + 2) + 1), by omega⟩
  exact table_0 hn ho xs.length m 0 (by omega)
theorem from_0 {xs : List Sp} (hn : xs.length ≤ 12) (ho : okL xs) {a b : Int} (hab : sOk a b) (d : Nat) : ∀ (k j : Nat), j + d = xs.length → impl_distancesFrom.l0 (k + d + 1) (rowD xs a b j) xs (xs.length : Int) (j : Int) a b = some (rowD xs a b xs.length) := by
  induction d with
  | zero =>
    intro k j h
    rw [impl_distancesFrom.l0, if_neg (by omega), show j = xs.length by omega]
  | succ d ih =>
    intro k j h
    rw [show k + (d + 1) + 1 = (k + d + 1) + 1 by omega, impl_distancesFrom.l0, if_pos (by omega), if_pos (by omega), if_pos (by omega)]
    unfold impl_distance.f
    rw [if_pos ⟨hab, (okL_iff xs).1 ho j (by omega)⟩, Option.bind_some, if_pos (by rw [rowD_len]; omega), w64 (n := (j : Int) + 1) (by omega) (by omega), ← rowD_succ]
    exact ih k (j + 1) (by omega)
theorem from_f {xs : List Sp} (hn : xs.length ≤ 12) (ho : okL xs) {a b : Int} (hab : sOk a b) : impl_distancesFrom.f (xs.length + 1) xs a b = some (rowD xs a b xs.length) := by
  unfold impl_distancesFrom.f
  have q := from_0 hn ho hab xs.length 0 0 (by omega)
  rw [Nat.zero_add] at q
  exact q
noncomputable def RDistanceTable (xs : List Sp) : List (List Int) × Int := if codL xs 0 12 = 0 then (tabS xs xs.length, 0) else ([], codL xs 0 12)
theorem dtab_f (xs : List Sp) (hx : xs.length ≤ 9223372036854775807) : spec_DistanceTable.f (xs.length + 300) xs = some (RDistanceTable xs) := by
  unfold spec_DistanceTable.f spec_l05Code.f
  have c := l05Code_f xs hx 0 12 xs.length 299 0 (by omega) (fun j hj => absurd hj (Nat.not_lt_zero _))
  rw [show xs.length + 300 = 299 + xs.length + 1 by omega]
  rw [show ((0 : Nat) : Int) = 0 from rfl] at c
  rw [c, Option.bind_some]
  unfold RDistanceTable
  by_cases z : codL xs 0 12 = 0
  · rw [if_pos z, if_pos z]
    obtain ⟨ho, h1, h2⟩ := codL_0 z
    rw [table_f (by omega) ho (by omega), Option.bind_some]
  · rw [if_neg z, if_neg z]
/-- The numbers that a mark lays, from x on. -/
def markR (x : Int) (m : Nat) : List Int := (List.range m).map fun (j : Nat) => x + j
theorem markR_len (x : Int) (m : Nat) : (markR x m).length = m := by simp [markR]
theorem markR_at (x : Int) (m : Nat) {j : Nat} (h : j < m) : (markR x m)[j]? = some (x + j) := by
  unfold markR; rw [List.getElem?_map, List.getElem?_range h]; rfl
theorem mark_l (n : Nat) (x : Int) (h0 : 0 ≤ x) (h1 : x ≤ 1000000000) (hn : n ≤ 1000000) (d : Nat) : ∀ (k : Nat) (l : List Int) (i : Nat), l.length = n → i + d = n → d < k → (∀ j : Nat, j < i → l[j]? = some (x + j)) → laws_markInt64S.l0 k l (x + i) (i : Int) = some (x + n, markR x n) := by
  induction d with
  | zero =>
    intro k l i hl hi hk hm
    obtain ⟨k, rfl⟩ : ∃ m, k = m + 1 := ⟨k - 1, by omega⟩
    rw [laws_markInt64S.l0, if_neg (by omega), show i = n by omega]
    congr 2
    refine List.ext_getElem? fun j => ?_
    by_cases q : j < n
    · rw [hm j (by omega), markR_at x n q]
    · rw [List.getElem?_eq_none (by omega), List.getElem?_eq_none (by rw [markR_len]; omega)]
  | succ d ih =>
    intro k l i hl hi hk hm
    obtain ⟨k, rfl⟩ : ∃ m, k = m + 1 := ⟨k - 1, by omega⟩
    rw [laws_markInt64S.l0, if_pos (by omega), if_pos (by omega), w64 (n := x + i + 1) (by omega) (by omega), w64 (n := (i : Int) + 1) (by omega) (by omega), Int.toNat_natCast]
    have q := ih k (l.set i (x + i)) (i + 1) (by simpa using hl) (by omega) (by omega) (fun j hj => by
      by_cases e : j = i
      · subst e; rw [List.getElem?_set_self (by omega)]
      · rw [List.getElem?_set_ne (fun z => e z.symm)]; exact hm j (by omega))
    rw [show x + ((i + 1 : Nat) : Int) = x + i + 1 by omega, show ((i + 1 : Nat) : Int) = (i : Int) + 1 by omega] at q
    exact q
theorem mark_row (l : List Int) (x : Int) (h0 : 0 ≤ x) (h1 : x ≤ 1000000000) (hn : l.length ≤ 1000000) {k : Nat} (hk : l.length < k) : laws_markInt64S.f k l x = some (x + l.length, markR x l.length) := by
  unfold laws_markInt64S.f
  have q := mark_l l.length x h0 h1 hn l.length k l 0 rfl (by omega) hk (fun j hj => absurd hj (Nat.not_lt_zero _))
  rw [show x + ((0 : Nat) : Int) = x by omega] at q
  exact q
theorem held_l (n : Nat) (x : Int) (h0 : 0 ≤ x) (h1 : x ≤ 1000000000) (hn : n ≤ 1000000) (d : Nat) : ∀ (k i : Nat), i + d = n → d < k → laws_heldInt64S.l0 k (markR x n) (x + i) (i : Int) = some (x + n) := by
  induction d with
  | zero =>
    intro k i hi hk
    obtain ⟨k, rfl⟩ : ∃ m, k = m + 1 := ⟨k - 1, by omega⟩
    rw [laws_heldInt64S.l0, if_neg (by rw [markR_len]; omega), show i = n by omega]
  | succ d ih =>
    intro k i hi hk
    obtain ⟨k, rfl⟩ : ∃ m, k = m + 1 := ⟨k - 1, by omega⟩
    have e : rd (markR x n) (i : Int) = x + i := by
      unfold rd; rw [List.getD_eq_getElem?_getD, Int.toNat_natCast, markR_at x n (by omega)]; rfl
    rw [laws_heldInt64S.l0, if_pos (by rw [markR_len]; omega), if_pos (by omega), if_pos e, w64 (n := x + i + 1) (by omega) (by omega), w64 (n := (i : Int) + 1) (by omega) (by omega)]
    have q := ih k (i + 1) (by omega) (by omega)
    rw [show x + ((i + 1 : Nat) : Int) = x + i + 1 by omega, show ((i + 1 : Nat) : Int) = (i : Int) + 1 by omega] at q
    exact q
theorem held_row (x : Int) (m : Nat) (h0 : 0 ≤ x) (h1 : x ≤ 1000000000) (hn : m ≤ 1000000) {k : Nat} (hk : m < k) : laws_heldInt64S.f k (markR x m) x = some (x + m) := by
  unfold laws_heldInt64S.f
  have q := held_l m x h0 h1 hn m k 0 (by omega) hk
  rw [show x + ((0 : Nat) : Int) = x by omega] at q
  exact q
/-- Rows and the next number, when i rows have been marked. -/
def mkS (rows : List (List Int)) : Nat → List (List Int) × Int
  | 0 => (rows, 1)
  | i + 1 => ((mkS rows i).1.set i (markR (mkS rows i).2 (rows.getD i []).length), (mkS rows i).2 + (rows.getD i []).length)
theorem mkS_len (rows : List (List Int)) (i : Nat) : (mkS rows i).1.length = rows.length := by
  induction i with
  | zero => rfl
  | succ i ih => show ((mkS rows i).1.set i _).length = _; rw [List.length_set]; exact ih
theorem mkS_at (rows : List (List Int)) (i : Nat) (hi : i ≤ rows.length) (j : Nat) : (mkS rows i).1[j]? = if j < i then some (markR (mkS rows j).2 (rows.getD j []).length) else rows[j]? := by
  induction i with
  | zero => rw [if_neg (Nat.not_lt_zero _)]; rfl
  | succ i ih =>
    have q := ih (by omega)
    show ((mkS rows i).1.set i _)[j]? = _
    by_cases e : j = i
    · subst e; rw [List.getElem?_set_self (by rw [mkS_len]; omega), if_pos (by omega)]
    · rw [List.getElem?_set_ne (fun z => e z.symm), q]
      by_cases l : j < i
      · rw [if_pos l, if_pos (by omega)]
      · rw [if_neg l, if_neg (by omega)]
theorem mkS_bd (rows : List (List Int)) (B : Nat) (hr : ∀ r ∈ rows, r.length ≤ B) (i : Nat) (hi : i ≤ rows.length) : 1 ≤ (mkS rows i).2 ∧ (mkS rows i).2 ≤ 1 + B * i := by
  induction i with
  | zero => exact ⟨Int.le_refl _, by show (1 : Int) ≤ 1 + B * 0; omega⟩
  | succ i ih =>
    obtain ⟨a, b⟩ := ih (by omega)
    have h : (rows.getD i []).length ≤ B := by
      rw [List.getD_eq_getElem?_getD, List.getElem?_eq_getElem (by omega)]; exact hr _ (List.getElem_mem _)
    show 1 ≤ (mkS rows i).2 + ((rows.getD i []).length : Nat) ∧ _ ≤ _
    have e : (B : Int) * ((i + 1 : Nat) : Int) = B * i + B := by rw [Int.natCast_succ, Int.mul_add, Int.mul_one]
    constructor
    · omega
    · show (mkS rows i).2 + ((rows.getD i []).length : Nat) ≤ _; rw [e]; omega
theorem heldSS_l (rows : List (List Int)) (hr : ∀ r ∈ rows, r.length ≤ 1000) (hn : rows.length ≤ 1000) (d : Nat) : ∀ (k i : Nat), i + d = rows.length → 2000 + d < k → laws_heldInt64SS.l0 k (mkS rows rows.length).1 (mkS rows i).2 (i : Int) = some (mkS rows rows.length).2 := by
  induction d with
  | zero =>
    intro k i hi hk
    obtain ⟨k, rfl⟩ : ∃ m, k = m + 1 := ⟨k - 1, by omega⟩
    rw [laws_heldInt64SS.l0, if_neg (by rw [mkS_len]; omega), show i = rows.length by omega]
  | succ d ih =>
    intro k i hi hk
    obtain ⟨k, rfl⟩ : ∃ m, k = m + 1 := ⟨k - 1, by omega⟩
    have b := mkS_bd rows 1000 hr i (by omega)
    have hB : ((1000 : Nat) : Int) * (i : Int) ≤ 1000000 := by omega
    have hl : (rows.getD i []).length ≤ 1000 := by
      rw [List.getD_eq_getElem?_getD, List.getElem?_eq_getElem (by omega)]; exact hr _ (List.getElem_mem _)
    have e : rd_L3 (mkS rows rows.length).1 (i : Int) = markR (mkS rows i).2 (rows.getD i []).length := by
      unfold rd_L3
      rw [List.getD_eq_getElem?_getD, Int.toNat_natCast, mkS_at rows _ (Nat.le_refl _), if_pos (by omega)]; rfl
    rw [laws_heldInt64SS.l0, if_pos (by rw [mkS_len]; omega), if_pos (by omega), e, held_row _ _ (by omega) (by omega) (by omega) (by omega), Option.bind_some, if_neg (by omega), w64 (n := (i : Int) + 1) (by omega) (by omega)]
    exact ih k (i + 1) (by omega) (by omega)
theorem heldSS_ok (rows : List (List Int)) (hr : ∀ r ∈ rows, r.length ≤ 1000) (hn : rows.length ≤ 1000) : laws_heldInt64SS.f 5000 (mkS rows rows.length).1 1 = some (mkS rows rows.length).2 := by
  unfold laws_heldInt64SS.f
  exact heldSS_l rows hr hn rows.length 5000 0 (by omega) (by omega)
theorem eqRow_l (l : List Int) (hl : l.length ≤ 1000000000) (d : Nat) : ∀ (k : Nat) (i : Int), 0 ≤ i → i + d = l.length → d < k → laws_eqInt64S.l0 k l l i = some true := by
  induction d with
  | zero =>
    intro k i h0 h1 hk
    obtain ⟨k, rfl⟩ : ∃ m, k = m + 1 := ⟨k - 1, by omega⟩
    rw [laws_eqInt64S.l0, if_neg (by omega)]
  | succ d ih =>
    intro k i h0 h1 hk
    obtain ⟨k, rfl⟩ : ∃ m, k = m + 1 := ⟨k - 1, by omega⟩
    rw [laws_eqInt64S.l0, if_pos (by omega), if_pos h0, if_pos (by omega), if_pos rfl, w64 (by omega) (by omega)]
    exact ih k (i + 1) (by omega) (by omega) (by omega)
theorem eqSS_l (rows : List (List Int)) (hr : ∀ r ∈ rows, r.length ≤ 1000) (hn : rows.length ≤ 1000) (d : Nat) : ∀ (k i : Nat), i + d = rows.length → 2000 + d < k → laws_eqInt64SS.l0 k rows rows (i : Int) = some true := by
  induction d with
  | zero =>
    intro k i hi hk
    obtain ⟨k, rfl⟩ : ∃ m, k = m + 1 := ⟨k - 1, by omega⟩
    rw [laws_eqInt64SS.l0, if_neg (by omega)]
  | succ d ih =>
    intro k i hi hk
    obtain ⟨k, rfl⟩ : ∃ m, k = m + 1 := ⟨k - 1, by omega⟩
    have hl : (rd_L3 rows (i : Int)).length ≤ 1000 := by
      unfold rd_L3
      rw [List.getD_eq_getElem?_getD, Int.toNat_natCast, List.getElem?_eq_getElem (by omega)]; exact hr _ (List.getElem_mem _)
    have e : laws_eqInt64S.f k (rd_L3 rows (i : Int)) (rd_L3 rows (i : Int)) = some true := by
      unfold laws_eqInt64S.f
      rw [if_pos rfl]
      exact eqRow_l _ (by omega) (rd_L3 rows (i : Int)).length k 0 (by omega) (by omega) (by omega)
    rw [laws_eqInt64SS.l0, if_pos (by omega), if_pos (by omega), if_pos (by omega), e, Option.bind_some, if_pos rfl, w64 (n := (i : Int) + 1) (by omega) (by omega)]
    exact ih k (i + 1) (by omega) (by omega)
theorem eqSS_ok (rows : List (List Int)) (hr : ∀ r ∈ rows, r.length ≤ 1000) (hn : rows.length ≤ 1000) : laws_eqInt64SS.f 5000 rows rows = some true := by
  unfold laws_eqInt64SS.f
  rw [if_pos rfl]
  exact eqSS_l rows hr hn rows.length 5000 0 (by omega) (by omega)
theorem impl_distancesFrom_c {A : Option Addr} {n c : Nat} {xs : List Sp} {a b : Int} (w : World) (hr : Kd.C kSp w A n xs) (hc : n ≤ c) (hn : n ≤ 12) (ho : okL xs) (hab : sOk a b) : Calls Try.prog 117 #[.slice A n c, .agg #[.int .i64 a, .int .i64 b]] w fun e w' => ∃ v0_ : Value, e = .returned (v0_) ∧ Kd.R (Kd.int .i64) 2 w' w.heap.size (fun _ => True) v0_ (rowD xs a b n) ∧ Below w.heap.size w w' := by
  obtain rfl : xs.length = n := hr.1
  exact PFnExactUnderCap.impl_distancesFrom.calls (xs.length + 1) A c xs a b _ w hr hc (from_f hn ho hab)
end Go.Proofs.Ytkfbbaaniglaeaa.Con
