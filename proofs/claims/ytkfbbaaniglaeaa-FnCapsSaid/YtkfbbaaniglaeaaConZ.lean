/- The statement on discs: contracts, and what rings are. Conditions: as stated. -/
import Derived.Test.YtkfbbaaniglaeaaConX
import Derived.Test.YtkfbbaaniglaeaaConB2
namespace Go.Proofs.Ytkfbbaaniglaeaa.Con
open Go.RowKit Go.Proofs.YtkfbbaaniglaeaaW.PrintWords Go.Proofs.YtkfbbaaniglaeaaW.PrintLast Go.Proofs.YtkfbbaaniglaeaaW.PrintMore Go.Proofs.Ytkfbbaaniglaeaa.Mth
attribute [local go_sem] max2_int min2_int max_two min_two max_three min_three
set_option linter.unusedVariables false
set_option linter.unusedSimpArgs false
theorem C_of_reads {w : World} {k : IntKind} {A : Option Addr} {n : Nat} {xs : List Int} (h : ReadsInt w k A n xs) : Kd.C (Kd.int k) w A n xs :=
  ⟨h.1, h.2.1, fun hp => by
    obtain ⟨ad, e, hc⟩ := h.2.2 hp
    refine ⟨ad, e, fun j p hj => ⟨[.int k p], rfl, rfl, fun i u hu => ?_⟩⟩
    have hlt : j < n := by have := (List.getElem?_eq_some_iff.1 hj).1; have := h.1; omega
    match i, hu with
    | 0, hu =>
      simp at hu
      have e2 := hc j hlt
      rw [List.getD_eq_getElem?_getD, hj] at e2
      show w.cell? (ad.add (j * 1 + 0)) = _
      rw [Nat.mul_one, Nat.add_zero, e2, ← hu]; rfl
    | i + 1, hu => simp at hu⟩
def Und (w : World) (e : Ending) (w' : World) : Prop := ∃ (p q : Int) (v : Value) (L : List Sp), e = .returned (.tuple #[.int .i64 p, .int .i64 q, v]) ∧ L.length ≤ 1000 ∧ Kd.R kSp 52 w' w.heap.size (fun _ => True) v L ∧ Below w.heap.size w w'
def Rng (w : World) (e : Ending) (w' : World) : Prop := ∃ x y z p q : Int, e = .returned (.tuple #[.int .i64 x, .int .i64 y, .int .i64 z, .agg #[.int .i64 p, .int .i64 q]]) ∧ Below w.heap.size w w'
theorem DrawUnderCap_c {A : Option Addr} {n c : Nat} {xs : List Int} (w : World) (hr : ReadsInt w .u8 A n xs) (hx : Bys xs) (hc : n ≤ c) : Calls Try.prog 79 #[.slice A n c] w (Und w) := by
  obtain rfl : xs.length = n := hr.1
  obtain ⟨p, q, M, h, hM⟩ := under_t hx
  refine (PFnExactUnderCap.spec_DrawUnderCap.calls 2000 A c xs p q M w (C_of_reads hr) hc h).mono ?_
  rintro e w' ⟨v, rfl, ho, hb⟩
  exact ⟨p, q, v, M, rfl, hM, ho, hb⟩
theorem DrawRingOf_c {A : Option Addr} {n c : Nat} {xs : List Int} (w : World) (hr : ReadsInt w .u8 A n xs) (hx : Bys xs) (hc : n ≤ c) : Calls Try.prog 83 #[.slice A n c] w (Rng w) := by
  obtain rfl : xs.length = n := hr.1
  obtain ⟨x, y, z, p, q, h⟩ := ring_t hx 5
  refine (PFnExactUnderCap.spec_DrawRingOf.calls 6 A c xs x y z p q w (C_of_reads hr) hc h).mono ?_
  rintro e w' ⟨rfl, hb⟩
  exact ⟨x, y, z, p, q, rfl, hb⟩
theorem DrawArcLength_c {A : Option Addr} {n c : Nat} {xs : List Int} (w : World) (hr : ReadsInt w .u8 A n xs) (hx : Bys xs) (hc : n ≤ c) : Calls Try.prog 80 #[.slice A n c] w (Two w) := by
  obtain rfl : xs.length = n := hr.1
  obtain ⟨x, y, h⟩ := arc_t hx
  refine (PFnExactUnderCap.spec_DrawArcLength.calls A c xs x y w (C_of_reads hr) hc h).mono ?_
  rintro e w' ⟨rfl, hb⟩
  exact ⟨x, y, rfl, hb⟩
theorem impl_RingsOf_c (r s : Int) (w : World) : Calls Try.prog 14 #[.int .i64 r, .int .i64 s] w fun e w' => ∃ v0_ : Value, e = .returned (.tuple #[v0_, .int .i64 (RRingsOf r s).2]) ∧ Kd.R (Kd.int .i64) 2 w' w.heap.size (fun _ => True) v0_ (RRingsOf r s).1 ∧ Below w.heap.size w w' :=
  PFnExactUnderCap.impl_RingsOf.calls 200 r s _ _ w (BankU.impl_RingsOf_eq (by omega) r s)
theorem spec_RingsOf_c (r s : Int) (w : World) : Calls Try.prog 13 #[.int .i64 r, .int .i64 s] w fun e w' => ∃ v0_ : Value, e = .returned (.tuple #[v0_, .int .i64 (RRingsOf r s).2]) ∧ Kd.R (Kd.int .i64) 2 w' w.heap.size (fun _ => True) v0_ (RRingsOf r s).1 ∧ Below w.heap.size w w' :=
  PFnExactUnderCap.spec_RingsOf.calls 200 r s _ _ w (BankU.spec_RingsOf_eq (by omega) r s)
theorem impl_ArcLength_d (n a : Int) (w : World) : Calls Try.prog 81 #[.int .i64 n, .int .i64 a] w fun e w' => e = .returned (.tuple #[.int .i64 (RArcLength n a).1, .int .i64 (RArcLength n a).2]) ∧ Drawn0 w w' :=
  PFnExactUnderCap.impl_ArcLength.calls n a _ _ w (BankU.impl_ArcLength_eq n a)
theorem spec_ArcLength_d (n a : Int) (w : World) : Calls Try.prog 82 #[.int .i64 n, .int .i64 a] w fun e w' => e = .returned (.tuple #[.int .i64 (RArcLength n a).1, .int .i64 (RArcLength n a).2]) ∧ Drawn0 w w' :=
  PFnExactUnderCap.spec_ArcLength.calls n a _ _ w (BankU.spec_ArcLength_eq n a)
theorem impl_RingOf_c (n r s a b : Int) (w : World) : Calls Try.prog 84 #[.int .i64 n, .int .i64 r, .int .i64 s, .agg #[.int .i64 a, .int .i64 b]] w fun e w' => e = .returned (.tuple #[.int .i64 (RRingOf n r s a b).1, .int .i64 (RRingOf n r s a b).2]) ∧ Below w.heap.size w w' :=
  PFnExactUnderCap.impl_RingOf.calls 200 n r s a b _ _ w (BankU.impl_RingOf_eq (by omega))
theorem spec_RingOf_c (n r s a b : Int) (w : World) : Calls Try.prog 85 #[.int .i64 n, .int .i64 r, .int .i64 s, .agg #[.int .i64 a, .int .i64 b]] w fun e w' => e = .returned (.tuple #[.int .i64 (RRingOf n r s a b).1, .int .i64 (RRingOf n r s a b).2]) ∧ Below w.heap.size w w' :=
  PFnExactUnderCap.spec_RingOf.calls 200 n r s a b _ _ w (BankU.spec_RingOf_eq (by omega))
theorem f6ints_l (l : List Int) (hl : l.length ≤ 1000000000) (d : Nat) : ∀ (k : Nat) (i : Int), 0 ≤ i → i + d = l.length → d < k → PFnExactUnderCap.laws_f6ints.l0 k l l i = some true := by
  induction d with
  | zero =>
    intro k i h0 h1 hk
    obtain ⟨k, rfl⟩ : ∃ m, k = m + 1 := ⟨k - 1, by omega⟩
    rw [PFnExactUnderCap.laws_f6ints.l0, if_neg (by omega)]
  | succ d ih =>
    intro k i h0 h1 hk
    obtain ⟨k, rfl⟩ : ∃ m, k = m + 1 := ⟨k - 1, by omega⟩
    rw [PFnExactUnderCap.laws_f6ints.l0, if_pos (by omega), if_pos h0, if_pos (by omega), if_pos rfl, w64 (by omega) (by omega)]
    exact ih k (i + 1) (by omega) (by omega) (by omega)
theorem f6ints_c {A B : Option Addr} {n c d : Nat} {L : List Int} (w : World) (h1 : Kd.C (Kd.int .i64) w A n L) (c1 : n ≤ c) (h2 : Kd.C (Kd.int .i64) w B n L) (c2 : n ≤ d) (hn : n ≤ 100000) : Calls Try.prog 86 #[.slice A n c, .slice B n d] w fun e w' => e = .returned (.bool true) ∧ Drawn0 w w' := by
  obtain rfl : L.length = n := h1.1
  refine PFnExactUnderCap.laws_f6ints.calls (L.length + 1) A c L B d L true w h1 c1 h2 c2 ?_
  unfold PFnExactUnderCap.laws_f6ints.f
  rw [if_pos rfl]
  exact f6ints_l L (by omega) L.length _ 0 (by omega) (by omega) (by omega)
theorem f6has_l (l : List Int) (x : Int) (hl : l.length ≤ 1000000000) (d : Nat) : ∀ (k i : Nat), i + d = l.length → d < k → (∀ j : Nat, j < i → rd l j ≠ x) → PFnExactUnderCap.laws_f6has.l0 k l x (i : Int) = some (decide (∃ j : Nat, j < l.length ∧ rd l j = x)) := by
  induction d with
  | zero =>
    intro k i h1 hk hn
    obtain ⟨k, rfl⟩ : ∃ m, k = m + 1 := ⟨k - 1, by omega⟩
    rw [PFnExactUnderCap.laws_f6has.l0, if_neg (by omega)]
    congr 1
    exact (decide_eq_false (fun ⟨j, hj, e⟩ => hn j (by omega) e)).symm
  | succ d ih =>
    intro k i h1 hk hn
    obtain ⟨k, rfl⟩ : ∃ m, k = m + 1 := ⟨k - 1, by omega⟩
    rw [PFnExactUnderCap.laws_f6has.l0, if_pos (by omega), if_pos (by omega)]
    by_cases z : rd l (i : Int) = x
    · rw [if_pos z]
      congr 1
      exact (decide_eq_true ⟨i, by omega, z⟩).symm
    · rw [if_neg z, w64 (n := (i : Int) + 1) (by omega) (by omega)]
      exact ih k (i + 1) (by omega) (by omega) (fun j hj => by
        by_cases e : j = i
        · subst e; exact z
        · exact hn j (by omega))
theorem idxF_has (p : Nat → Prop) (n : Nat) (x : Nat) : (∃ j : Nat, j < (idxF p n).length ∧ rd (idxF p n) j = (x : Int)) ↔ (x < n ∧ p x) := by
  induction n with
  | zero => constructor <;> (rintro ⟨a, b⟩; simp [idxF] at *) 
  | succ n ih =>
    by_cases h : p n
    · rw [idxF_yes h]
      constructor
      · rintro ⟨j, hj, e⟩
        rw [List.length_append] at hj
        have hj : j < (idxF p n).length + 1 := hj
        by_cases q : j < (idxF p n).length
        · rw [rd_app_lt (by omega) (by omega)] at e
          have := ih.1 ⟨j, q, e⟩
          exact ⟨by omega, this.2⟩
        · obtain rfl : j = (idxF p n).length := by omega
          rw [rd_app_at] at e
          obtain rfl : n = x := by omega
          exact ⟨by omega, h⟩
      · rintro ⟨hx, px⟩
        by_cases q : x < n
        · obtain ⟨j, hj, e⟩ := ih.2 ⟨q, px⟩
          exact ⟨j, by rw [List.length_append]; show j < _ + 1; omega, by rw [rd_app_lt (by omega) (by omega)]; exact e⟩
        · obtain rfl : x = n := by omega
          exact ⟨(idxF p x).length, by rw [List.length_append]; show _ < _ + 1; omega, rd_app_at _ _⟩
    · rw [idxF_no h, ih]
      constructor
      · rintro ⟨a, b⟩; exact ⟨by omega, b⟩
      · rintro ⟨a, b⟩
        refine ⟨?_, b⟩
        by_cases e : x = n
        · subst e; exact absurd b h
        · omega
theorem f6has_c {A : Option Addr} {n c m : Nat} {p : Nat → Prop} {i : Nat} (w : World) (h1 : Kd.C (Kd.int .i64) w A n (idxF p m)) (c1 : n ≤ c) (hm : m ≤ 1000) (hi : i < m) {b : Bool} (hb : b = true ↔ p i) : Calls Try.prog 87 #[.slice A n c, .int .i64 (i : Int)] w fun e w' => e = .returned (.bool b) ∧ Drawn0 w w' := by
  obtain rfl : (idxF p m).length = n := h1.1
  have hl := idxF_len p m
  refine PFnExactUnderCap.laws_f6has.calls ((idxF p m).length + 1) A c (idxF p m) i b w h1 c1 ?_
  unfold PFnExactUnderCap.laws_f6has.f
  have q := f6has_l (idxF p m) i (by omega) (idxF p m).length ((idxF p m).length + 1) 0 (by omega) (by omega) (fun j hj => absurd hj (Nat.not_lt_zero _))
  rw [show ((0 : Nat) : Int) = 0 from rfl] at q
  rw [q]
  congr 1
  have k := idxF_has p m i
  by_cases z : p i
  · rw [hb.2 z]; exact decide_eq_true (k.2 ⟨hi, z⟩)
  · have : b = false := by cases b with
      | true => exact absurd (hb.1 rfl) z
      | false => rfl
    rw [this]; exact decide_eq_false (fun e => z (k.1 e).2)
theorem rd_cons_0 (x : Int) (l : List Int) : rd (x :: l) 0 = x := by unfold rd; simp
theorem rd_cons_s (x : Int) (l : List Int) (i : Nat) : rd (x :: l) ((i + 1 : Nat) : Int) = rd l (i : Int) := by unfold rd; simp [List.getD_eq_getElem?_getD]
theorem ringL_in {r s : Int} (hs : 1 ≤ s) (d : Nat) : ∀ x, 1 ≤ x → r ≤ x + d * s → (r ≤ 0 → (ringL (d + 1) r s x) = []) ∧ (0 < r → ∃ m : Nat, (ringL (d + 1) r s x).length = m + 1 ∧ rd (ringL (d + 1) r s x) m = r ∧ ∀ i : Nat, i < m → rd (ringL (d + 1) r s x) i = x + i * s ∧ x + i * s < r) := by
  induction d with
  | zero =>
    intro x hx hr
    have e : ((0 : Nat) : Int) * s = 0 := by simp
    rw [e] at hr
    constructor
    · intro z; exact ringL_no2 0 (by omega) (by omega)
    · intro z
      rw [ringL_no1 0 (by omega) z]
      exact ⟨0, rfl, rd_cons_0 _ _, fun i hi => absurd hi (Nat.not_lt_zero _)⟩
  | succ d ih =>
    intro x hx hr
    by_cases h : x < r
    · rw [ringL_yes _ h]
      constructor
      · intro z; omega
      · intro z
        obtain ⟨m, h1, h2, h3⟩ := (ih (x + s) (by omega) (by rw [Int.natCast_succ, Int.add_mul, Int.one_mul] at hr; omega)).2 z
        refine ⟨m + 1, by rw [List.length_cons, h1], by rw [rd_cons_s]; exact h2, ?_⟩
        intro i hi
        cases i with
        | zero => rw [show ((0 : Nat) : Int) = 0 from rfl, rd_cons_0]; constructor <;> simp <;> omega
        | succ i =>
          have q := h3 i (by omega)
          rw [rd_cons_s, Int.natCast_succ, Int.add_mul, Int.one_mul]
          constructor
          · rw [q.1]; omega
          · have := q.2; omega
    · constructor
      · intro z; exact ringL_no2 _ h (by omega)
      · intro z
        rw [ringL_no1 _ h z]
        exact ⟨0, rfl, rd_cons_0 _ _, fun i hi => absurd hi (Nat.not_lt_zero _)⟩
/-- What the rings of a disc are. -/
theorem rings_in {r s : Int} {L : List Int} (h : RRingsOf r s = (L, 0)) : (0 ≤ r ∧ r ≤ 100000) ∧ (1 ≤ s ∧ s ≤ 100000) ∧ ((L.length = 0 ∧ r = 0) ∨ ∃ m : Nat, L.length = m + 1 ∧ 1 ≤ r ∧ rd L m = r ∧ ∀ i : Nat, i < m → rd L i = s * (i + 1) ∧ s * ((i : Int) + 1) < r) := by
  unfold RRingsOf at h
  by_cases g : radOk r ∧ brOk s
  · rw [if_pos g] at h
    by_cases k : 60 < -(-r / s)
    · rw [if_pos k] at h; injection h with _ h; omega
    · rw [if_neg k] at h
      injection h with h _
      obtain ⟨g1, g2⟩ := g
      refine ⟨g1, g2, ?_⟩
      have hr : r ≤ s + (60 : Nat) * s := by
        have e1 := Int.mul_ediv_add_emod (-r) s
        have e2 := Int.emod_nonneg (-r) (show s ≠ 0 by omega)
        have e4 : s * (-r / s) ≥ s * (-60) := Int.mul_le_mul_of_nonneg_left (by omega) (by omega)
        omega
      have q := ringL_in (r := r) (s := s) (by omega) 60 s (by omega) hr
      rw [h] at q
      by_cases z : r ≤ 0
      · left
        rw [q.1 z]; exact ⟨rfl, by omega⟩
      · right
        obtain ⟨m, h1, h2, h3⟩ := q.2 (by omega)
        refine ⟨m, h1, by omega, h2, fun i hi => ?_⟩
        have t := h3 i hi
        have e : s * ((i : Int) + 1) = s + i * s := by rw [Int.mul_add, Int.mul_one, Int.mul_comm]; omega
        rw [e]; exact t
  · rw [if_neg g] at h; injection h with _ h; omega
theorem capEdge_in {n r : Int} {e : Int} (h : RCapEdgeB n r = (e, 0)) : 0 ≤ e ∧ e ≤ 324000 := by
  unfold RCapEdgeB onC at h
  by_cases z : discB n r true = 0
  · rw [if_pos z] at h
    injection h with h _
    obtain ⟨a, b, c, _⟩ := discB_0 z
    rw [← h]; exact edge_bd a b c
  · rw [if_neg z] at h; injection h with _ h; exact absurd h z
theorem ringOf_in {n r s a b k : Int} (h : RRingOf n r s a b = (k, 0)) : 0 ≤ k := by
  unfold RRingOf at h
  by_cases h1 : sOk a b
  · rw [if_pos h1] at h
    by_cases h2 : discB n r (decide (brOk s)) = 0
    · rw [if_pos h2] at h
      obtain ⟨q1, q2, q3, q4⟩ := discB_0 h2
      have q5 : brOk s := of_decide_eq_true q4
      by_cases h3 : 60 < -(-r / s)
      · rw [if_pos h3] at h; injection h with _ h; omega
      · rw [if_neg h3] at h
        by_cases h4 : a < edge n r
        · rw [if_pos h4] at h; injection h with _ h; omega
        · rw [if_neg h4] at h
          injection h with h _
          have t := edge_bd q1 q2 q3
          rw [← h]
          exact Int.ediv_nonneg (Int.ediv_nonneg (Int.mul_nonneg (by omega) (by have := h1.1.2; omega)) (by omega)) (by omega)
    · rw [if_neg h2] at h; injection h with _ h; exact absurd h h2
  · rw [if_neg h1] at h; injection h with _ h; omega
theorem under_in {n r : Int} {xs : List Sp} {L : List Int} (h : RUnderCap n r xs = (L, 0)) : RCapEdgeB n r = (edge n r, 0) ∧ L = idxF (fun i => edge n r ≤ (rdS xs i).f0) xs.length := by
  unfold RUnderCap at h
  by_cases h1 : okL xs
  · rw [if_pos h1] at h
    by_cases h2 : discB n r (decide (xs.length ≤ 100)) = 0
    · rw [if_pos h2] at h
      injection h with h _
      obtain ⟨q1, q2, q3, q4⟩ := discB_0 h2
      refine ⟨?_, h.symm⟩
      unfold RCapEdgeB
      have z : discB n r true = 0 := by rw [q4] at h2; exact h2
      rw [z]; rfl
    · rw [if_neg h2] at h; injection h with _ h; exact absurd h h2
  · rw [if_neg h1] at h; injection h with _ h; omega

end Go.Proofs.Ytkfbbaaniglaeaa.Con
