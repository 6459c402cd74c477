/- The gores touched by places: sorted and without doubles as put one by one. Conditions: as stated. -/
import Derived.Test.YtkfbbaaniglaeaaConN
import Derived.Test.YtkfbbaaniglaeaaConG
import Derived.Test.YtkfbbaaniglaeaaPkG
import Derived.Test.YtkfbbaaniglaeaaShelf
import Derived.Lib.SlicesCompact
import Derived.Lib.OwnBridge
import Derived.Sort.OwnSortedInts
namespace Go.Proofs.Ytkfbbaaniglaeaa.Con
open Go.Sort Go.RowKit Go.Proofs.YtkfbbaaniglaeaaW.PrintWords Go.Proofs.YtkfbbaaniglaeaaW.PrintLast Go.Proofs.YtkfbbaaniglaeaaW.PrintMore Go.Proofs.Ytkfbbaaniglaeaa.Mth
attribute [local go_sem] max2_int min2_int max_two min_two max_three min_three
set_option linter.unusedVariables false
set_option linter.unusedSimpArgs false
/-- A number put to its place among rising ones, once. -/
def put : List Int → Int → List Int
  | [], n => [n]
  | a :: t, n => if a < n then a :: put t n else if a = n then a :: t else n :: a :: t
theorem put_mem (l : List Int) (n x : Int) : x ∈ put l n ↔ x ∈ l ∨ x = n := by
  induction l with
  | nil => simp [put]
  | cons a t ih =>
    unfold put
    split
    · simp only [List.mem_cons, ih]; constructor
      · rintro (h | h | h) <;> simp [h]
      · rintro ((h | h) | h) <;> simp [h]
    · split
      · rename_i e; subst e; simp only [List.mem_cons]; constructor
        · intro h; exact Or.inl h
        · rintro (h | h)
          · exact h
          · exact Or.inl h
      · simp only [List.mem_cons]; constructor
        · rintro (h | h | h) <;> simp [h]
        · rintro ((h | h) | h) <;> simp [h]
theorem put_rise {l : List Int} (n : Int) (h : l.Pairwise (· < ·)) : (put l n).Pairwise (· < ·) := by
  induction l with
  | nil => simp [put]
  | cons a t ih =>
    obtain ⟨h1, h2⟩ := List.pairwise_cons.1 h
    unfold put
    split
    · rename_i l1
      refine List.pairwise_cons.2 ⟨fun x hx => ?_, ih h2⟩
      rcases (put_mem t n x).1 hx with q | q
      · exact h1 x q
      · omega
    · split
      · exact h
      · rename_i l1 l2
        refine List.pairwise_cons.2 ⟨fun x hx => ?_, h⟩
        rcases List.mem_cons.1 hx with q | q
        · omega
        · have := h1 x q; omega
/-- Rising lists with the same numbers are one. -/
theorem rise_eq {l m : List Int} (h1 : l.Pairwise (· < ·)) (h2 : m.Pairwise (· < ·)) (h : ∀ x, x ∈ l ↔ x ∈ m) : l = m := by
  induction l generalizing m with
  | nil =>
    cases m with
    | nil => rfl
    | cons b u => exact absurd ((h b).2 List.mem_cons_self) (by simp)
  | cons a t ih =>
    cases m with
    | nil => exact absurd ((h a).1 List.mem_cons_self) (by simp)
    | cons b u =>
      obtain ⟨p1, p2⟩ := List.pairwise_cons.1 h1
      obtain ⟨q1, q2⟩ := List.pairwise_cons.1 h2
      have e : a = b := by
        rcases List.mem_cons.1 ((h a).1 List.mem_cons_self) with r | r
        · exact r
        · rcases List.mem_cons.1 ((h b).2 List.mem_cons_self) with s | s
          · exact s.symm
          · have := p1 b s; have := q1 a r; omega
      subst e
      congr 1
      refine ih p2 q2 (fun x => ?_)
      constructor
      · intro hx
        rcases List.mem_cons.1 ((h x).1 (List.mem_cons_of_mem _ hx)) with r | r
        · have := p1 x hx; omega
        · exact r
      · intro hx
        rcases List.mem_cons.1 ((h x).2 (List.mem_cons_of_mem _ hx)) with r | r
        · have := q1 x hx; omega
        · exact r
def putAll (gs : List Int) : List Int := gs.foldl put []
theorem foldl_put (gs : List Int) : ∀ l : List Int, l.Pairwise (· < ·) → (gs.foldl put l).Pairwise (· < ·) ∧ ∀ x, x ∈ gs.foldl put l ↔ x ∈ l ∨ x ∈ gs := by
  induction gs with
  | nil => intro l h; exact ⟨h, fun x => by simp⟩
  | cons g t ih =>
    intro l h
    obtain ⟨a, b⟩ := ih (put l g) (put_rise g h)
    refine ⟨a, fun x => ?_⟩
    rw [List.foldl_cons, b x, put_mem, List.mem_cons]
    constructor
    · rintro ((h | h) | h) <;> simp [h]
    · rintro (h | h | h) <;> simp [h]
theorem comp_rise (d : Array Int) (n : Nat) (hs : ∀ i j, i ≤ j → j < n → d[i]! ≤ d[j]!) : ∀ m, m ≤ n → (Go.Lib.compactUpTo d m).Pairwise (· < ·) ∧ (∀ x, x ∈ Go.Lib.compactUpTo d m ↔ ∃ j, j < m ∧ d[j]! = x) := by
  intro m
  induction m with
  | zero => intro _; exact ⟨by simp [Go.Lib.compactUpTo], fun x => by simp [Go.Lib.compactUpTo]⟩
  | succ m ih =>
    intro hm
    obtain ⟨a, b⟩ := ih (by omega)
    rw [Go.Lib.compactUpTo_succ]
    by_cases k : Go.Lib.keeps d m = true
    · rw [if_pos k]
      have hlt : ∀ x ∈ Go.Lib.compactUpTo d m, x < d[m]! := by
        intro x hx
        obtain ⟨j, hj, rfl⟩ := (b x).1 hx
        have l1 := hs j (m - 1) (by omega) (by omega)
        have l2 := hs (m - 1) m (by omega) (by omega)
        have ne : d[m]! ≠ d[m - 1]! := by
          unfold Go.Lib.keeps at k
          rcases of_decide_eq_true k with e | e
          · omega
          · exact e
        omega
      refine ⟨List.pairwise_append.2 ⟨a, by simp, fun x hx y hy => by rw [List.mem_singleton.1 hy]; exact hlt x hx⟩, fun x => ?_⟩
      rw [List.mem_append, b x, List.mem_singleton]
      constructor
      · rintro (⟨j, hj, e⟩ | e)
        · exact ⟨j, by omega, e⟩
        · exact ⟨m, by omega, e.symm⟩
      · rintro ⟨j, hj, e⟩
        by_cases q : j = m
        · subst q; exact Or.inr e.symm
        · exact Or.inl ⟨j, by omega, e⟩
    · rw [if_neg k, List.append_nil]
      refine ⟨a, fun x => ?_⟩
      have e0 : d[m]! = d[m - 1]! ∧ 0 < m := by
        unfold Go.Lib.keeps at k
        rw [decide_eq_true_iff] at k
        constructor
        · exact Classical.byContradiction (fun e => k (Or.inr e))
        · exact Nat.pos_of_ne_zero (fun e => k (Or.inl e))
      rw [b x]
      constructor
      · rintro ⟨j, hj, e⟩; exact ⟨j, by omega, e⟩
      · rintro ⟨j, hj, e⟩
        by_cases q : j = m
        · subst q; exact ⟨j - 1, by omega, by rw [← e0.1]; exact e⟩
        · exact ⟨j, by omega, e⟩
/-- Sorted and without doubles: what is put one by one. -/
theorem ascend_put (gs : List Int) : Go.Lib.compact (gs.mergeSort fun x y => decide (x ≤ y)) = putAll gs := by
  have hsz : (gs.mergeSort fun x y => decide (x ≤ y)).Pairwise (fun x y => decide (x ≤ y) = true) := List.pairwise_mergeSort (fun a b c h1 h2 => by simp at *; omega) (fun a b => by simp; omega) gs
  generalize hS : (gs.mergeSort fun x y => decide (x ≤ y)) = zs at *
  have hmem : ∀ x, x ∈ zs ↔ x ∈ gs := fun x => by rw [← hS]; exact List.mem_mergeSort
  have hget : ∀ i, i < zs.length → zs.toArray[i]! = zs.getD i 0 := fun i hi => by
    rw [getElem!_pos zs.toArray i (by simpa using hi), List.getD_eq_getElem?_getD, List.getElem?_eq_getElem hi]; rfl
  have hs : ∀ i j, i ≤ j → j < zs.length → zs.toArray[i]! ≤ zs.toArray[j]! := by
    intro i j hij hj
    by_cases e : i = j
    · subst e; exact Int.le_refl _
    · have q := List.pairwise_iff_getElem.1 hsz i j (by omega) hj (by omega)
      rw [getElem!_pos zs.toArray i (by simp; omega), getElem!_pos zs.toArray j (by simpa using hj)]
      simpa using q
  obtain ⟨a, b⟩ := comp_rise zs.toArray zs.length hs zs.length (Nat.le_refl _)
  obtain ⟨c, d⟩ := foldl_put gs [] (by simp)
  refine rise_eq a c (fun x => ?_)
  rw [show x ∈ Go.Lib.compact zs ↔ _ from b x, show x ∈ putAll gs ↔ _ from d x]
  constructor
  · rintro ⟨j, hj, e⟩
    right
    rw [← hmem x, ← e, getElem!_pos zs.toArray j (by simpa using hj)]
    simp
  · rintro (h | h)
    · simp at h
    · obtain ⟨j, hj, e⟩ := List.getElem_of_mem ((hmem x).2 h)
      exact ⟨j, hj, by rw [getElem!_pos zs.toArray j (by simpa using hj)]; simpa using e⟩
theorem put_len (l : List Int) (n : Int) : (put l n).length ≤ l.length + 1 := by
  induction l with
  | nil => simp [put]
  | cons a t ih =>
    unfold put
    split
    · simp; omega
    · split <;> simp
theorem putAll_len (gs : List Int) : ∀ l : List Int, (gs.foldl put l).length ≤ l.length + gs.length := by
  induction gs with
  | nil => intro l; simp
  | cons g t ih =>
    intro l
    have h1 := ih (put l g)
    have h2 := put_len l g
    rw [List.foldl_cons, List.length_cons]
    omega
/-- The gores of the first places. -/
def goT (g : Int) (xs : List Sp) : Nat → List Int
  | 0 => []
  | n + 1 => goT g xs n ++ [gore g (rdS xs n).f1]
theorem goT_len (g : Int) (xs : List Sp) (n : Nat) : (goT g xs n).length = n := by
  induction n with
  | zero => rfl
  | succ n ih => unfold goT; rw [List.length_append, ih]; rfl
theorem putAll_succ (g : Int) (xs : List Sp) (n : Nat) : putAll (goT g xs (n + 1)) = put (putAll (goT g xs n)) (gore g (rdS xs n).f1) := by
  show (goT g xs n ++ [gore g (rdS xs n).f1]).foldl put [] = _
  rw [List.foldl_append]; rfl
noncomputable def RGoresTouched (g : Int) (xs : List Sp) : List Int × Int := if gOk g ∧ okL xs then (if xs.length ≤ 100 then (putAll (goT g xs xs.length), 0) else ([], 2)) else ([], 1)
theorem RGoresTouched_len (g : Int) (xs : List Sp) : (RGoresTouched g xs).1.length ≤ 100 := by
  unfold RGoresTouched
  split
  · split
    · have := putAll_len (goT g xs xs.length) []
      rw [goT_len] at this
      simp at this
      unfold putAll
      simp only
      omega
    · simp
  · simp
open Go.Proofs.Ytkfbbaaniglaeaa.PFnExactUnderCap in
theorem rd_at (L : List Int) (i : Nat) (h : i < L.length) : rd L (i : Int) = L[i] := by
  show L.getD (i : Int).toNat 0 = _
  rw [Int.toNat_natCast, List.getD_eq_getElem?_getD, List.getElem?_eq_getElem h]; rfl
open Go.Proofs.Ytkfbbaaniglaeaa.PFnExactUnderCap in
theorem put_done (L : List Int) (n : Int) (hL : L.length ≤ 1000) (d : Nat) : ∀ (k i : Nat) (acc : List Int), i + d = L.length → 2 * d + 1 ≤ k → acc.length + d < 10000 → spec_l00Put.l0 k L n acc true (i : Int) = some (acc ++ L.drop i) := by
  induction d with
  | zero =>
    intro k i acc h1 hk ha
    obtain ⟨k, rfl⟩ : ∃ m, k = m + 1 := ⟨k - 1, by omega⟩
    rw [spec_l00Put.l0, if_neg (by omega), if_pos rfl, List.drop_eq_nil_of_le (by omega), List.append_nil]
  | succ d ih =>
    intro k i acc h1 hk ha
    obtain ⟨k, rfl⟩ : ∃ m, k = m + 2 := ⟨k - 2, by omega⟩
    have hi : i < L.length := by omega
    have hw : wrap64 ((i : Int) + 1) = ((i + 1 : Nat) : Int) := by rw [w64 (by omega) (by omega)]; rfl
    rw [spec_l00Put.l0, if_pos (by omega), if_pos rfl, spec_l00Put.j1, if_neg (by simp), if_pos (by omega), if_pos (by omega), if_pos (by omega), hw, rd_at L i hi, ih k (i + 1) _ (by omega) (by omega) (by rw [List.length_append, List.length_singleton]; omega), List.drop_eq_getElem_cons hi]
    simp
open Go.Proofs.Ytkfbbaaniglaeaa.PFnExactUnderCap in
theorem put_l (L : List Int) (n : Int) (hL : L.length ≤ 1000) (d : Nat) : ∀ (k i : Nat) (acc : List Int), i + d = L.length → 2 * d + 1 ≤ k → acc.length + d < 9999 → spec_l00Put.l0 k L n acc false (i : Int) = some (acc ++ put (L.drop i) n) := by
  induction d with
  | zero =>
    intro k i acc h1 hk ha
    obtain ⟨k, rfl⟩ : ∃ m, k = m + 1 := ⟨k - 1, by omega⟩
    rw [spec_l00Put.l0, if_neg (by omega), if_neg (by simp), if_pos (by omega), List.drop_eq_nil_of_le (by omega)]
    rfl
  | succ d ih =>
    intro k i acc h1 hk ha
    obtain ⟨k, rfl⟩ : ∃ m, k = m + 2 := ⟨k - 2, by omega⟩
    have hi : i < L.length := by omega
    have hw : wrap64 ((i : Int) + 1) = ((i + 1 : Nat) : Int) := by rw [w64 (by omega) (by omega)]; rfl
    rw [spec_l00Put.l0, if_pos (by omega), if_neg (by simp), if_pos (by omega), spec_l00Put.j1, rd_at L i hi, List.drop_eq_getElem_cons hi, put]
    by_cases c : L[i] ≥ n
    · rw [decide_eq_true c, if_pos rfl, if_pos (by omega), if_pos (by omega), if_neg (show ¬ L[i] < n by omega)]
      by_cases e : L[i] > n
      · rw [if_pos e, if_pos (by omega), Option.bind_some, if_pos (by rw [List.length_append, List.length_singleton]; omega), hw, put_done L n hL d k (i + 1) _ (by omega) (by omega) (by rw [List.length_append, List.length_append, List.length_singleton, List.length_singleton]; omega), if_neg (show ¬ L[i] = n by omega)]
        simp
      · rw [if_neg e, if_pos (by omega), hw, put_done L n hL d k (i + 1) _ (by omega) (by omega) (by rw [List.length_append, List.length_singleton]; omega), if_pos (show L[i] = n by omega)]
        simp
    · rw [decide_eq_false c, if_neg (by simp), if_pos (by omega), if_pos (by omega), if_pos (by omega), hw, ih k (i + 1) _ (by omega) (by omega) (by rw [List.length_append, List.length_singleton]; omega), if_pos (show L[i] < n by omega)]
      simp
open Go.Proofs.Ytkfbbaaniglaeaa.PFnExactUnderCap in
theorem put_f (L : List Int) (n : Int) (hL : L.length ≤ 1000) (k : Nat) (hk : 2001 ≤ k) : spec_l00Put.f k L n = some (put L n) := by
  have h := put_l L n hL L.length k 0 [] (by omega) (by omega) (by rw [List.length_nil]; omega)
  rw [List.nil_append, List.drop_zero] at h
  exact h
open Go.Proofs.Ytkfbbaaniglaeaa.PFnExactUnderCap in
theorem l00_f (a b c : Int) : spec_l00In.f a b c = some (decide (b ≤ a ∧ a ≤ c)) := by
  unfold spec_l00In.f
  by_cases h : a ≥ b
  · rw [if_pos h]
    by_cases k : a ≤ c
    · rw [decide_eq_true k, decide_eq_true ⟨h, k⟩]
    · rw [decide_eq_false k, decide_eq_false (fun e => k e.2)]
  · rw [if_neg h, decide_eq_false (fun e => h e.1)]
open Go.Proofs.Ytkfbbaaniglaeaa.PFnExactUnderCap in
theorem l04_f (g : Int) : spec_l04Ok.f g = some (decide (gOk g)) := by
  unfold spec_l04Ok.f; rw [l00_f]; simp only [Option.bind_some, decide_eq_true_eq]
  by_cases h : 6 ≤ g ∧ g ≤ 48
  · rw [if_pos h, if_neg (by omega)]
    by_cases h2 : 1296000 % g = 0 <;> simp [h, h2]
  · rw [if_neg h]; simp [gOk, h]
open Go.Proofs.Ytkfbbaaniglaeaa.PFnExactUnderCap in
theorem l02_f (a b : Int) : spec_l02Ok.f a b = some (decide (sOk a b)) := by
  unfold spec_l02Ok.f
  rw [l00_f, Option.bind_some, l00_f, Option.bind_some]
  by_cases h : -324000 ≤ a ∧ a ≤ 324000
  · rw [if_pos (decide_eq_true h)]
    by_cases k : -648000 ≤ b ∧ b ≤ 647999
    · rw [decide_eq_true k, decide_eq_true (show sOk a b by unfold sOk; omega)]
    · rw [decide_eq_false k, decide_eq_false (show ¬ sOk a b by unfold sOk; omega)]
  · rw [if_neg (by simpa using h), decide_eq_false (show ¬ sOk a b by unfold sOk; omega)]
open Go.Proofs.Ytkfbbaaniglaeaa.PFnExactUnderCap in
theorem gt_l1 (g : Int) (xs : List Sp) (hg : gOk g) (hx : okL xs) (hn : xs.length ≤ 100) (d : Nat) : ∀ (k i : Nat), i + d = xs.length → d + 2100 < k → spec_GoresTouched.l1 k g xs (putAll (goT g xs i)) (i : Int) = some (putAll (goT g xs xs.length), 0) := by
  have hq := (okL_iff xs).1 hx
  induction d with
  | zero =>
    intro k i h1 hk
    obtain ⟨k, rfl⟩ : ∃ m, k = m + 1 := ⟨k - 1, by omega⟩
    rw [spec_GoresTouched.l1, if_neg (by omega), show i = xs.length by omega]
  | succ d ih =>
    intro k i h1 hk
    obtain ⟨k, rfl⟩ : ∃ m, k = m + 1 := ⟨k - 1, by omega⟩
    have hw : wrap64 ((i : Int) + 1) = ((i + 1 : Nat) : Int) := by rw [w64 (by omega) (by omega)]; rfl
    have s := hq i (by omega)
    have eg : spec_l04Gore.f g (rdS xs i).f0 (rdS xs i).f1 = some (gore g (rdS xs i).f1) := if_pos ⟨hg, by unfold sOk at s; omega⟩
    have hl := putAll_len (goT g xs i) []
    rw [goT_len, List.length_nil] at hl
    have hl2 : (putAll (goT g xs i)).length ≤ 1000 := by unfold putAll; omega
    rw [spec_GoresTouched.l1, if_pos (by omega), if_pos (by omega)]
    refine Eq.trans (congrArg (fun o => Option.bind o _) eg) ?_
    rw [Option.bind_some, put_f _ _ hl2 k (by omega), Option.bind_some, hw, ← putAll_succ]
    exact ih k (i + 1) (by omega) (by omega)
open Go.Proofs.Ytkfbbaaniglaeaa.PFnExactUnderCap in
theorem gt_l0 (g : Int) (xs : List Sp) (hg : gOk g) (hb : xs.length ≤ 9223372036854775807) (d : Nat) : ∀ (k i : Nat), i + d = xs.length → d + 2300 < k → (∀ j : Nat, j < i → sOk (rdS xs j).f0 (rdS xs j).f1) → spec_GoresTouched.l0 k g xs (i : Int) = some (RGoresTouched g xs) := by
  induction d with
  | zero =>
    intro k i h1 hk hj
    obtain ⟨k, rfl⟩ : ∃ m, k = m + 1 := ⟨k - 1, by omega⟩
    have hx : okL xs := (okL_iff xs).2 (fun j h => hj j (by omega))
    rw [spec_GoresTouched.l0, if_neg (by omega)]
    have R : RGoresTouched g xs = if xs.length ≤ 100 then (putAll (goT g xs xs.length), 0) else ([], 2) := if_pos ⟨hg, hx⟩
    rw [R]
    by_cases c : xs.length ≤ 100
    · rw [if_neg (by omega), if_pos c]
      exact gt_l1 g xs hg hx c xs.length k 0 (by omega) (by omega)
    · rw [if_pos (by omega), if_neg c]
  | succ d ih =>
    intro k i h1 hk hj
    obtain ⟨k, rfl⟩ : ∃ m, k = m + 1 := ⟨k - 1, by omega⟩
    have hw : wrap64 ((i : Int) + 1) = ((i + 1 : Nat) : Int) := by rw [w64 (by omega) (by omega)]; rfl
    rw [spec_GoresTouched.l0, if_pos (by omega), if_pos (by omega)]
    refine Eq.trans (congrArg (fun o => Option.bind o _) (l02_f (rdS xs i).f0 (rdS xs i).f1)) ?_
    rw [Option.bind_some]
    by_cases c : sOk (rdS xs i).f0 (rdS xs i).f1
    · rw [if_pos (decide_eq_true c), hw]
      exact ih k (i + 1) (by omega) (by omega) (fun j h => by
        by_cases e : j = i
        · subst e; exact c
        · exact hj j (by omega))
    · rw [if_neg (by rw [decide_eq_false c]; simp)]
      unfold RGoresTouched
      rw [if_neg (fun e => c ((okL_iff xs).1 e.2 i (by omega)))]
open Go.Proofs.Ytkfbbaaniglaeaa.PFnExactUnderCap in
theorem gt_f (g : Int) (xs : List Sp) (hb : xs.length ≤ 9223372036854775807) : spec_GoresTouched.f (xs.length + 3000) g xs = some (RGoresTouched g xs) := by
  unfold spec_GoresTouched.f
  rw [l04_f, Option.bind_some]
  by_cases c : gOk g
  · rw [if_pos (decide_eq_true c)]
    exact gt_l0 g xs c hb xs.length _ 0 (by omega) (by omega) (fun j h => absurd h (Nat.not_lt_zero _))
  · rw [if_neg (by rw [decide_eq_false c]; simp)]
    unfold RGoresTouched
    rw [if_neg (fun e => c e.1)]
theorem spec_GoresTouched_l {A : Option Addr} {n c : Nat} {xs : List Sp} {gores : Int} (w : World) (hr : Kd.C kSp w A n xs) (hc : n ≤ c) : Calls Try.prog 31 #[.int .i64 gores, .slice A n c] w fun e w' => ∃ v0_ : Value, e = .returned (.tuple #[v0_, .int .i64 (RGoresTouched gores xs).2]) ∧ Kd.R (Kd.int .i64) 2 w' w.heap.size (fun _ => True) v0_ (RGoresTouched gores xs).1 ∧ Below w.heap.size w w' := by
  have hn := hr.2.1
  obtain rfl : xs.length = n := hr.1
  exact PFnExactUnderCap.spec_GoresTouched.calls (xs.length + 3000) gores A c xs _ _ w hr hc (gt_f gores xs hn)
theorem ascending_c {b c : Nat} {zs : List Int} {base : Nat} (w : World) (ho : w.ownsRow base 2 1 (.slice (some ⟨b, 0, none⟩) zs.length c) zs.length (zs.map (Value.int .i64))) (hl : zs.length ≤ 1000) : Calls Try.prog 128 #[.slice (some ⟨b, 0, none⟩) zs.length c] w fun e w' => ∃ v : Value, e = .returned v ∧ Kd.R (Kd.int .i64) 2 w' w.heap.size (fun _ => True) v (putAll zs) ∧ Below w.heap.size w w' := by
  have hc := Aside0.mk (show ∀ j, j < zs.length → w.cell? ⟨b, 0 + j, none⟩ = some (.int .i64 (zs.getD j 0)) from fun j hj => by
    have := ho.cellAt j (by omega)
    rw [Nat.zero_add, this]
    simp [List.getD, List.getElem?_eq_getElem hj])
  clear ho
  go_enter Try.func128, Try.ntmps128
  go_wp2_with (fail)
  refine (Try.slices_Clone_int b 0 zs.length c zs _ (Nat.le_refl _) (by omega) hc.out).mono ?_
  rintro e w1 ⟨v', rfl, h1, hne, hb⟩
  rw [List.take_length] at h1
  have HB := Aside0.mk (show Below w.heap.size w w1 from below_step ( by repeat (first | (with_reducible first | exact Below.refl _ _ | apply below_alloc | apply pw_below_drewN | apply below_drew1 | (refine below_step ?_ (by assumption))) | exact Below.refl _ _) ) hb)
  rcases h1.2 with ⟨q, _⟩ | ⟨g, cap, cur, rfl, hg, hh, i1, i2, i3, i4⟩
  · exact absurd q hne
  have hgl : g < w1.heap.size := (Array.getElem?_eq_some_iff.1 hh).1
  have hh := Aside0.mk hh
  have i3 := Aside0.mk i3
  have i4 := Aside0.mk i4
  have hg := Aside0.mk hg
  have hgl := Aside0.mk hgl
  clear hb h1 hne
  go_wp2_with (fail)
  refine (Try.slices_Sort_int g 0 cap zs _ (holds_of_blockI hh.out (by simpa using i4.out)) hgl.out (by omega)).mono ?_
  rintro e w2 ⟨rfl, nn, os, rfl⟩
  have sl : (zs.mergeSort fun x y => decide (x ≤ y)).length = zs.length := by simp
  have h2 := Aside0.mk (ownsRow_sortedI (n := nn) (os := os) sl hg.out hh.out i1 i2 i3.out)
  have gb := grownBy_sortedI (w := w1) (g := g) (n := nn) (os := os) (zs.mergeSort fun x y => decide (x ≤ y)).toArray
  have HB := Aside0.mk (show Below w.heap.size w _ from HB.out.grown gb HB.out.size (fun k hk => by cases hk; exact hg.out))
  generalize hW : grow (putRow (Value.int .i64) (Sort.ahead w1 nn) g 0 (zs.mergeSort fun x y => decide (x ≤ y)).toArray) os = w2 at *
  rcases h2.out.2 with ⟨q, _⟩ | ⟨g', cap', cur', q, hg', hh', j1, j2, j3, j4⟩
  · cases q
  cases q
  have e4 := ascend_put zs
  have hlen := putAll_len zs []
  generalize hS : (zs.mergeSort fun x y => decide (x ≤ y)) = ss at *
  have hh' := Aside0.mk hh'
  have j4 := Aside0.mk j4
  have e4 := Aside0.mk e4
  have cl : (Go.Lib.compact ss).length ≤ ss.length := by rw [e4.out, sl]; unfold putAll; simpa using hlen
  have CC := fun W (h : Holds (Value.int .i64) W g 0 ss.toArray) => Try.slices_Compact_int g 0 cap ss W h (by omega) (by omega)
  rw [sl] at CC
  have CC := Aside0.mk CC
  have cl := Aside0.mk cl
  have sl := Aside0.mk sl
  clear hS hW gb j3 hlen j1 j2 i1 i2
  go_wp2_with (fail)
  refine (CC.out _ (holds_of_blockI hh'.out (by rw [sl.out]; simpa using j4.out))).mono ?_
  rintro e w3 ⟨rfl, q, rfl⟩
  have cl2 := cl.out
  rw [sl.out] at cl2
  have h3 := Lib.ownsRow_putRow (q := q) (k := (Go.Lib.compact ss).length) (ys := Go.Lib.compact ss ++ List.replicate (zs.length - (Go.Lib.compact ss).length) 0) h2.out (by rw [List.length_append, List.length_replicate]; omega) cl2
  rw [List.take_left' rfl] at h3
  have HB := Aside0.mk (show Below w.heap.size w _ from Lib.below_putRow (enc := Value.int .i64) (q := q) (d := (Go.Lib.compact ss ++ List.replicate (zs.length - (Go.Lib.compact ss).length) 0).toArray) HB.out hg.out)
  rw [e4.out] at h3
  have h3 := Aside0.mk h3
  clear cl2
  go_wp2
  go_ret
  exact ⟨_, rfl, Kd.R_of_own h3.out (fun _ _ => trivial), by rw [← e4.out]; exact HB.out⟩
end Go.Proofs.Ytkfbbaaniglaeaa.Con
