/- Plain facts on texts of numbers: decimal digits, hours and places as texts. No condition. -/
import Derived.Lib.ItoaNum
import Derived.Lib.ParseIntBCases
import Derived.Lib.IndexMore
import Derived.Lib.SplitLaws
import Derived.Lib.Strings
namespace Go.Proofs.YthedepnndgemeaaDoor.Tx
open Go Go.Lib
/-- The digits of a number, none for 0. -/
def dgs (u : Nat) : List UInt8 := if _h : u = 0 then [] else dgs (u / 10) ++ [UInt8.ofNat (48 + u % 10)]
termination_by u
decreasing_by omega
theorem dg_zero : dgs 0 = [] := by rw [dgs, dif_pos rfl]
theorem dg_pos {u : Nat} (h : u ≠ 0) : dgs u = dgs (u / 10) ++ [UInt8.ofNat (48 + u % 10)] := by rw [dgs, dif_neg h]
theorem decDigits_dg (u : Nat) (h : u ≠ 0) : decDigits u = dgs u := by
  induction u using Nat.strongRecOn with
  | ind u ih =>
    rw [decDigits, dg_pos h]
    split
    · rename_i h1
      rw [show u / 10 = 0 by omega, dg_zero, List.nil_append, show u % 10 = u by omega]
    · rw [ih (u / 10) (by omega) (by omega)]
theorem decDigits_zero : decDigits 0 = [48] := by rw [decDigits, dif_pos (by omega)]; rfl
/-- The value of digits ahead of which a number stands. -/
def vl (a : Nat) : List UInt8 → Nat
  | [] => a
  | c :: r => vl (10 * a + (c.toNat - 48)) r
def isD (c : UInt8) : Bool := decide (48 ≤ c.toNat ∧ c.toNat ≤ 57)
theorem vl_append (l m : List UInt8) : ∀ a, vl a (l ++ m) = vl (vl a l) m := by
  induction l with
  | nil => intro a; rfl
  | cons c r ih => intro a; exact ih _
theorem digit_nat (d : Nat) (h : d < 10) : (UInt8.ofNat (48 + d)).toNat = 48 + d := by
  rw [UInt8.toNat_ofNat']; omega
theorem dg_vl (u : Nat) : vl 0 (dgs u) = u := by
  induction u using Nat.strongRecOn with
  | ind u ih =>
    by_cases h : u = 0
    · subst h; rw [dg_zero]; rfl
    · rw [dg_pos h, vl_append, ih (u / 10) (by omega)]
      show 10 * (u / 10) + ((UInt8.ofNat (48 + u % 10)).toNat - 48) = u
      rw [digit_nat _ (by omega)]; omega
theorem dg_digits (u : Nat) : ∀ c ∈ dgs u, isD c = true := by
  induction u using Nat.strongRecOn with
  | ind u ih =>
    by_cases h : u = 0
    · subst h; rw [dg_zero]; intro c hc; cases hc
    · rw [dg_pos h]
      intro c hc
      rcases List.mem_append.1 hc with hc | hc
      · exact ih _ (by omega) c hc
      · rw [List.mem_singleton.1 hc]
        unfold isD
        rw [digit_nat _ (by omega)]
        exact decide_eq_true (by omega)
theorem decDigits_digits (u : Nat) : ∀ c ∈ decDigits u, isD c = true := by
  by_cases h : u = 0
  · subst h; rw [decDigits_zero]; intro c hc; rw [List.mem_singleton.1 hc]; decide
  · rw [decDigits_dg u h]; exact dg_digits u
theorem decDigits_vl (u : Nat) : vl 0 (decDigits u) = u := by
  by_cases h : u = 0
  · subst h; rw [decDigits_zero]; rfl
  · rw [decDigits_dg u h]; exact dg_vl u
theorem decDigits_ne (u : Nat) : decDigits u ≠ [] := by
  rw [decDigits]; split <;> simp
theorem isD_le {c : UInt8} (h : isD c = true) : 48 ≤ c.toNat ∧ c.toNat ≤ 57 := of_decide_eq_true h
theorem pw_step (x P : Nat) (h : x ≤ 9) (a : Nat) : (10 * a + x + 1) * P ≤ (a + 1) * (P * 10) := by
  have h3 : 10 * a + x + 1 ≤ (a + 1) * 10 := by omega
  refine Nat.le_trans (Nat.mul_le_mul_right P h3) ?_
  rw [Nat.mul_assoc, Nat.mul_comm 10 P]
  exact Nat.le_refl _
theorem vl_lt (l : List UInt8) (h : ∀ c ∈ l, isD c = true) : ∀ a : Nat, vl a l < (a + 1) * 10 ^ l.length := by
  induction l with
  | nil => intro a; show a < (a + 1) * 1; omega
  | cons c r ih =>
    intro a
    have h1 := isD_le (h c List.mem_cons_self)
    have h2 := ih (fun x hx => h x (List.mem_cons_of_mem _ hx)) (10 * a + (c.toNat - 48))
    rw [List.length_cons, Nat.pow_succ]
    exact Nat.lt_of_lt_of_le h2 (pw_step _ _ (by omega) a)
/-- A parse of few digits. -/
theorem parseUintM_ok (M : Nat) (hM : 10 ^ 18 ≤ M) (l : List UInt8) : ∀ (a k : Nat), l.length ≤ k → k ≤ 18 → a < 10 ^ (18 - k) → (∀ c ∈ l, isD c = true) → parseUintM M a l = .ok (vl a l) := by
  induction l with
  | nil => intro a k _ _ _ _; rfl
  | cons c r ih =>
    intro a k hk hk2 ha h
    have h1 := h c List.mem_cons_self
    unfold isD at h1
    have h1 := of_decide_eq_true h1
    obtain ⟨k, rfl⟩ : ∃ m, k = m + 1 := ⟨k - 1, by simp at hk; omega⟩
    have e : 10 ^ (18 - k) = 10 * 10 ^ (18 - (k + 1)) := by rw [show 18 - k = (18 - (k + 1)) + 1 by omega, Nat.pow_succ, Nat.mul_comm]
    have e2 : 10 ^ (18 - k) ≤ 10 ^ 18 := Nat.pow_le_pow_right (by omega) (by omega)
    have e3 : (10 : Nat) ^ 18 = 1000000000000000000 := by decide
    rw [parseUintM, if_pos h1, if_neg (by omega), if_neg (by omega), Nat.mul_comm a 10]
    exact ih _ k (by simpa using hk) (by omega) (by omega) (fun x hx => h x (List.mem_cons_of_mem _ hx))
theorem parseUintM_digits (M : Nat) (l : List UInt8) : ∀ (a u : Nat), parseUintM M a l = .ok u → (∀ c ∈ l, isD c = true) ∧ u = vl a l := by
  induction l with
  | nil => intro a u h; simp only [parseUintM] at h; injection h with h; exact ⟨(fun c hc => (List.not_mem_nil hc).elim), h.symm⟩
  | cons c r ih =>
    intro a u h
    rw [parseUintM] at h
    split at h
    · rename_i h1
      split at h
      · cases h
      · split at h
        · cases h
        · obtain ⟨p, q⟩ := ih _ _ h
          refine ⟨fun x hx => ?_, by rw [q, Nat.mul_comm a 10]; rfl⟩
          rcases List.mem_cons.1 hx with rfl | hx
          · exact decide_eq_true h1
          · exact p x hx
    · cases h

theorem itoa_nn (n : Int) (h : 0 ≤ n) : itoa n = decDigits n.toNat := if_neg (Int.not_lt.2 h)
theorem itoa_neg (n : Int) (h : n < 0) : itoa n = 45 :: decDigits n.natAbs := if_pos h
theorem not_digit {c : UInt8} {u : Nat} {r : List UInt8} (hc : isD c = false) (h : decDigits u = c :: r) : False := by
  have := decDigits_digits u c (by rw [h]; exact List.mem_cons_self)
  rw [hc] at this; cases this
/-- A text without the sign ahead. -/
def body (s : List UInt8) : List UInt8 := if s.head? = some 45 then s.tail else s
def val (s : List UInt8) : Int := if s.head? = some 45 then -(vl 0 (body s) : Int) else (vl 0 (body s) : Int)
/-- The number whose decimal form a text is, of at most 18 digits. -/
def RD (s : List UInt8) : Int × Bool :=
  if (∀ c ∈ body s, isD c = true) ∧ body s ≠ [] ∧ (body s).length ≤ 18 ∧ itoa (val s) = s then (val s, true) else (0, false)
/-- What the library's parse gives, held against the text. -/
def RDi (s : List UInt8) : Int × Bool :=
  match parseIntB 64 s with
  | .ok v => if itoa v = s ∧ (trimPrefix s [45]).length ≤ 18 then (v, true) else (0, false)
  | _ => (0, false)
theorem RDi_ok {s : List UInt8} {v : Int} (h : parseIntB 64 s = .ok v) : RDi s = if itoa v = s ∧ (trimPrefix s [45]).length ≤ 18 then (v, true) else (0, false) := by unfold RDi; rw [h]
theorem RDi_no {s : List UInt8} (h : ∀ v, parseIntB 64 s ≠ .ok v) : RDi s = (0, false) := by
  unfold RDi
  cases e : parseIntB 64 s with
  | ok v => exact absurd e (h v)
  | _ => rfl
theorem signed_ok {u C : Nat} (h : u ≤ C) : signedC C (.ok u) = .ok (-(u : Int)) := if_neg (by omega)
theorem signless_ok {u C : Nat} (h : u < C) : signlessC C (.ok u) = .ok (u : Int) := if_neg (by omega)
theorem signed_inv {C : Nat} {e : NumEnd Nat} {v : Int} (h : signedC C e = .ok v) : ∃ u, e = .ok u := by
  cases e with
  | ok u => exact ⟨u, rfl⟩
  | _ => cases h
theorem signless_inv {C : Nat} {e : NumEnd Nat} {v : Int} (h : signlessC C e = .ok v) : ∃ u, e = .ok u := by
  cases e with
  | ok u => exact ⟨u, rfl⟩
  | _ => cases h
theorem trim45 (s : List UInt8) : trimPrefix s [45] = body s := by
  unfold trimPrefix body hasPrefix
  cases s with
  | nil => rfl
  | cons c r =>
    by_cases h : c = 45
    · subst h; simp [List.isPrefixOf]
    · have h2 : (45 : UInt8) ≠ c := fun e => h e.symm
      simp [List.isPrefixOf, h, h2]
theorem uintB_ok (r : List UInt8) (h0 : r ≠ []) (hl : r.length ≤ 18) (hd : ∀ c ∈ r, isD c = true) : parseUintB 64 r = .ok (vl 0 r) := by
  unfold parseUintB
  rw [if_neg h0]
  exact parseUintM_ok _ (by decide) r 0 18 hl (Nat.le_refl _) (by decide) hd
theorem uintB_digits (r : List UInt8) (u : Nat) (h : parseUintB 64 r = .ok u) : (∀ c ∈ r, isD c = true) ∧ r ≠ [] ∧ u = vl 0 r := by
  unfold parseUintB at h
  split at h
  · cases h
  · rename_i h0
    obtain ⟨p, q⟩ := parseUintM_digits _ r 0 u h
    exact ⟨p, h0, q⟩
theorem vl_small (r : List UInt8) (hl : r.length ≤ 18) (hd : ∀ c ∈ r, isD c = true) : vl 0 r < 1000000000000000000 := by
  have h := vl_lt r hd 0
  have e : (10 : Nat) ^ r.length ≤ 10 ^ 18 := Nat.pow_le_pow_right (by omega) hl
  have e3 : (10 : Nat) ^ 18 = 1000000000000000000 := by decide
  omega
theorem RDi_eq (s : List UInt8) : RDi s = RD s := by
  have p63 : (2 : Nat) ^ (64 - 1) = 9223372036854775808 := by decide
  by_cases hs : s.head? = some 45
  · obtain ⟨r, rfl⟩ : ∃ r, s = 45 :: r := by
      cases s with
      | nil => simp at hs
      | cons c r => simp at hs; subst hs; exact ⟨r, rfl⟩
    have eb : body (45 :: r) = r := by unfold body; rw [if_pos hs]; rfl
    have ev : val (45 :: r) = -(vl 0 r : Int) := by unfold val; rw [if_pos hs, eb]
    have hp := parseIntB_minus 64 r
    rw [p63] at hp
    by_cases hd : (∀ c ∈ r, isD c = true) ∧ r ≠ []
    · by_cases hl : r.length ≤ 18
      · have hv := vl_small r hl hd.1
        rw [uintB_ok r hd.2 hl hd.1, signed_ok (by omega)] at hp
        rw [RDi_ok hp, trim45, eb]
        unfold RD
        rw [eb, ev]
        by_cases hi : itoa (-(vl 0 r : Int)) = 45 :: r
        · rw [if_pos ⟨hi, hl⟩, if_pos ⟨hd.1, hd.2, hl, hi⟩]
        · rw [if_neg (fun h => hi h.1), if_neg (fun h => hi h.2.2.2)]
      · unfold RD
        rw [eb, if_neg (fun h => hl h.2.2.1)]
        by_cases hk : ∃ v, parseIntB 64 (45 :: r) = .ok v
        · obtain ⟨v, hk⟩ := hk
          rw [RDi_ok hk, trim45, eb, if_neg (fun h => hl h.2)]
        · exact RDi_no (fun v h => hk ⟨v, h⟩)
    · unfold RD
      rw [eb, if_neg (fun h => hd ⟨h.1, h.2.1⟩)]
      refine RDi_no (fun v h => ?_)
      rw [hp] at h
      obtain ⟨u, hu⟩ := signed_inv h
      obtain ⟨a, b, _⟩ := uintB_digits r u hu
      exact hd ⟨a, b⟩
  · have eb : body s = s := by unfold body; rw [if_neg hs]
    have ev : val s = (vl 0 s : Int) := by unfold val; rw [if_neg hs, eb]
    cases s with
    | nil =>
      unfold RD
      rw [if_neg (fun h => h.2.1 (by rw [eb]))]
      rfl
    | cons c r =>
      have hc : c.toNat ≠ 45 := fun h => hs (by simp; exact UInt8.toNat_inj.1 (by rw [h]; rfl))
      by_cases h43 : c.toNat = 43
      · have hd : isD c = false := by unfold isD; exact decide_eq_false (by omega)
        unfold RD
        rw [eb, if_neg (fun h => by have := h.1 c List.mem_cons_self; rw [hd] at this; cases this)]
        by_cases hk : ∃ v, parseIntB 64 (c :: r) = .ok v
        · obtain ⟨v, hk⟩ := hk
          rw [RDi_ok hk]
          refine if_neg (fun h => ?_)
          have hi := h.1
          by_cases hv : v < 0
          · rw [itoa_neg v hv] at hi
            injection hi with h1 h2
            rw [← h1] at h43
            exact absurd h43 (by decide)
          · rw [itoa_nn v (by omega)] at hi
            exact not_digit hd hi
        · exact RDi_no (fun v h => hk ⟨v, h⟩)
      · have hp := parseIntB_plain 64 c r h43 hc
        rw [p63] at hp
        generalize c :: r = q at hp eb ev
        by_cases hd : (∀ c ∈ q, isD c = true) ∧ q ≠ []
        · by_cases hl : q.length ≤ 18
          · have hv := vl_small q hl hd.1
            rw [uintB_ok q hd.2 hl hd.1, signless_ok (by omega)] at hp
            rw [RDi_ok hp, trim45, eb]
            unfold RD
            rw [eb, ev]
            by_cases hi : itoa (vl 0 q : Int) = q
            · rw [if_pos ⟨hi, hl⟩, if_pos ⟨hd.1, hd.2, hl, hi⟩]
            · rw [if_neg (fun h => hi h.1), if_neg (fun h => hi h.2.2.2)]
          · unfold RD
            rw [eb, if_neg (fun h => hl h.2.2.1)]
            by_cases hk : ∃ v, parseIntB 64 q = .ok v
            · obtain ⟨v, hk⟩ := hk
              rw [RDi_ok hk, trim45, eb, if_neg (fun h => hl h.2)]
            · exact RDi_no (fun v h => hk ⟨v, h⟩)
        · unfold RD
          rw [eb, if_neg (fun h => hd ⟨h.1, h.2.1⟩)]
          refine RDi_no (fun v h => ?_)
          rw [hp] at h
          obtain ⟨u, hu⟩ := signless_inv h
          obtain ⟨a, b, _⟩ := uintB_digits q u hu
          exact hd ⟨a, b⟩
theorem RD_sound {s : List UInt8} {v : Int} (h : RD s = (v, true)) : itoa v = s := by
  unfold RD at h
  split at h
  · rename_i c
    have e : val s = v := congrArg Prod.fst h
    rw [← e]; exact c.2.2.2
  · have := congrArg Prod.snd h; cases this
theorem RD_false {s : List UInt8} (h : (RD s).2 = false) : RD s = (0, false) := by
  unfold RD at h ⊢
  split
  · rename_i c; rw [if_pos c] at h; cases h
  · rfl
theorem dec_len (u k : Nat) (hk : 1 ≤ k) (h : u < 10 ^ k) : (decDigits u).length ≤ k := by
  induction k generalizing u with
  | zero => omega
  | succ k ih =>
    rw [decDigits]
    split
    · simp
    · rename_i h1
      rw [Nat.pow_succ] at h
      rw [List.length_append, List.length_singleton]
      cases k with
      | zero => simp at h; omega
      | succ k => have := ih (u / 10) (by omega) (by omega); omega
theorem RD_itoa (v : Int) (h0 : -1000000000000000000 < v) (h1 : v < 1000000000000000000) : RD (itoa v) = (v, true) := by
  have e3 : (10 : Nat) ^ 18 = 1000000000000000000 := by decide
  by_cases hv : v < 0
  · have eh : (itoa v).head? = some 45 := by rw [itoa_neg v hv]; rfl
    have eb : body (itoa v) = decDigits v.natAbs := by unfold body; rw [if_pos eh, itoa_neg v hv]; rfl
    have ev : val (itoa v) = v := by unfold val; rw [if_pos eh, eb, decDigits_vl]; omega
    unfold RD
    rw [eb, ev, if_pos ⟨decDigits_digits _, decDigits_ne _, dec_len _ 18 (by omega) (by omega), rfl⟩]
  · have eh : ¬ (itoa v).head? = some 45 := by
      rw [itoa_nn v (by omega)]
      intro e
      cases hd : decDigits v.toNat with
      | nil => exact decDigits_ne _ hd
      | cons c r => rw [hd] at e; simp at e; subst e; exact not_digit (by decide) hd
    have eb : body (itoa v) = decDigits v.toNat := by unfold body; rw [if_neg eh, itoa_nn v (by omega)]
    have ev : val (itoa v) = v := by unfold val; rw [if_neg eh, eb, decDigits_vl]; omega
    unfold RD
    rw [eb, ev, if_pos ⟨decDigits_digits _, decDigits_ne _, dec_len _ 18 (by omega) (by omega), rfl⟩]
/-! Two digits. -/
def pad (n : Int) : List UInt8 := if n < 10 then 48 :: itoa n else itoa n
def pr (n : Int) : List UInt8 := itoa (n.tdiv 10) ++ itoa (n.tmod 10)
def ch (d : Int) : UInt8 := UInt8.ofNat (48 + d.toNat)
theorem itoa_one (d : Int) (h0 : 0 ≤ d) (h1 : d < 10) : itoa d = [ch d] := by
  rw [itoa_nn d h0, decDigits, dif_pos (by omega)]; rfl
theorem itoa_two (n : Int) (h0 : 10 ≤ n) (h1 : n < 100) : itoa n = [ch (n / 10), ch (n % 10)] := by
  rw [itoa_nn n (by omega), decDigits, dif_neg (by omega), decDigits, dif_pos (by omega)]
  unfold ch
  rw [show (n / 10).toNat = n.toNat / 10 by omega, show (n % 10).toNat = n.toNat % 10 by omega]
  rfl
theorem pad_two (n : Int) (h0 : 0 ≤ n) (h1 : n < 100) : pad n = [ch (n / 10), ch (n % 10)] := by
  unfold pad
  by_cases h : n < 10
  · rw [if_pos h, itoa_one n h0 h, show n / 10 = 0 by omega, show n % 10 = n by omega]; rfl
  · rw [if_neg h, itoa_two n (by omega) h1]
theorem pr_two (n : Int) (h0 : 0 ≤ n) (h1 : n < 100) : pr n = [ch (n / 10), ch (n % 10)] := by
  unfold pr
  rw [Int.tdiv_eq_ediv_of_nonneg h0, Int.tmod_eq_emod_of_nonneg h0, itoa_one _ (by omega) (by omega), itoa_one _ (by omega) (by omega)]; rfl
theorem pr_pad (n : Int) (h0 : 0 ≤ n) (h1 : n < 100) : pr n = pad n := by rw [pr_two n h0 h1, pad_two n h0 h1]
theorem ch_nat (d : Int) (h0 : 0 ≤ d) (h1 : d < 10) : (ch d).toNat = 48 + d.toNat := digit_nat _ (by omega)
theorem ch_isD (d : Int) (h0 : 0 ≤ d) (h1 : d < 10) : isD (ch d) = true := by unfold isD; rw [ch_nat d h0 h1]; exact decide_eq_true (by omega)
/-- Two digits as a number less than 60. -/
def TW (l : List UInt8) : Int × Bool :=
  match l with
  | [a, b] => if 48 ≤ a.toNat ∧ a.toNat ≤ 53 ∧ 48 ≤ b.toNat ∧ b.toNat ≤ 57 then (10 * ((a.toNat : Int) - 48) + ((b.toNat : Int) - 48), true) else (0, false)
  | _ => (0, false)
theorem TW_pad (n : Int) (h0 : 0 ≤ n) (h1 : n < 60) : TW (pad n) = (n, true) := by
  rw [pad_two n h0 (by omega)]
  have a := ch_nat (n / 10) (by omega) (by omega)
  have b := ch_nat (n % 10) (by omega) (by omega)
  unfold TW
  simp only []
  rw [a, b, if_pos (by omega)]
  congr 1
  omega
theorem ch_of (c : UInt8) (d : Int) (h : (c.toNat : Int) = 48 + d) (h0 : 0 ≤ d) (h1 : d < 10) : ch d = c := by
  refine UInt8.toNat_inj.1 ?_
  rw [ch_nat d h0 h1]; omega
theorem TW_sound {l : List UInt8} {n : Int} (h : TW l = (n, true)) : l = pad n ∧ 0 ≤ n ∧ n < 60 := by
  unfold TW at h
  split at h
  · rename_i a b
    split at h
    · rename_i c
      have e : 10 * ((a.toNat : Int) - 48) + ((b.toNat : Int) - 48) = n := congrArg Prod.fst h
      refine ⟨?_, by omega, by omega⟩
      rw [pad_two n (by omega) (by omega), ch_of a (n / 10) (by omega) (by omega) (by omega), ch_of b (n % 10) (by omega) (by omega) (by omega)]
    · have := congrArg Prod.snd h; cases this
  · have := congrArg Prod.snd h; cases this
/-! Parts of a text. -/
def spA (c : UInt8) (cur : List UInt8) : List UInt8 → List (List UInt8)
  | [] => [cur]
  | b :: r => if b = c then cur :: spA c [] r else spA c (cur ++ [b]) r
def jn (c : UInt8) : List (List UInt8) → List UInt8
  | [] => []
  | [w] => w
  | w :: v :: r => w ++ c :: jn c (v :: r)
theorem spA_ne (c : UInt8) (l : List UInt8) : ∀ cur, spA c cur l ≠ [] := by
  induction l with
  | nil => intro cur h; cases h
  | cons b r ih =>
    intro cur h
    unfold spA at h
    split at h
    · cases h
    · exact ih _ h
theorem spA_jn (c : UInt8) (l : List UInt8) : ∀ cur, jn c (spA c cur l) = cur ++ l := by
  induction l with
  | nil => intro cur; simp [spA, jn]
  | cons b r ih =>
    intro cur
    unfold spA
    split
    · rename_i e
      subst e
      have := ih []
      cases h : spA b [] r with
      | nil => exact absurd h (spA_ne b r [])
      | cons v t => rw [h] at this; show cur ++ b :: jn b (v :: t) = _; rw [this]; rfl
    · rw [ih]; simp
theorem spA_none (c : UInt8) (l : List UInt8) (h : c ∉ l) : ∀ cur, spA c cur l = [cur ++ l] := by
  induction l with
  | nil => intro cur; simp [spA]
  | cons b r ih =>
    intro cur
    unfold spA
    rw [if_neg (fun e => h (by rw [e]; exact List.mem_cons_self)), ih (fun m => h (List.mem_cons_of_mem _ m))]
    simp
theorem spA_hit (c : UInt8) (l m : List UInt8) (h : c ∉ l) : ∀ cur, spA c cur (l ++ c :: m) = (cur ++ l) :: spA c [] m := by
  induction l with
  | nil => intro cur; show (if c = c then cur :: spA c [] m else spA c (cur ++ [c]) m) = _; rw [if_pos rfl, List.append_nil]
  | cons b r ih =>
    intro cur
    show (if b = c then cur :: spA c [] (r ++ c :: m) else spA c (cur ++ [b]) (r ++ c :: m)) = _
    rw [if_neg (fun e => h (by rw [e]; exact List.mem_cons_self)), ih (fun q => h (List.mem_cons_of_mem _ q))]
    simp
theorem index_none_of (c : UInt8) (l : List UInt8) (h : c ∉ l) : index l [c] = -1 := by
  induction l with
  | nil => rfl
  | cons b r ih =>
    have hb : ¬ c = b := fun e => h (by rw [e]; exact List.mem_cons_self)
    unfold index
    rw [ih (fun m => h (List.mem_cons_of_mem _ m))]
    simp [List.isPrefixOf, hb]
theorem index_hit_of (c : UInt8) (l m : List UInt8) (h : c ∉ l) : index (l ++ c :: m) [c] = (l.length : Int) := by
  induction l with
  | nil => simp [index, List.isPrefixOf]
  | cons b r ih =>
    have hb : ¬ c = b := fun e => h (by rw [e]; exact List.mem_cons_self)
    have q := ih (fun m => h (List.mem_cons_of_mem _ m))
    show index (b :: (r ++ c :: m)) [c] = _
    unfold index
    rw [q]
    simp [List.isPrefixOf, hb]
theorem cut_none_of (c : UInt8) (l : List UInt8) (h : c ∉ l) : cut l [c] = (l, [], false) := by
  unfold cut; rw [index_none_of c l h, if_neg (by omega)]
theorem cut_hit_of (c : UInt8) (l m : List UInt8) (h : c ∉ l) : cut (l ++ c :: m) [c] = (l, m, true) := by
  unfold cut; rw [index_hit_of c l m h, if_pos (by omega)]
  simp
theorem mem_split (c : UInt8) (l : List UInt8) (h : c ∈ l) : ∃ a m, l = a ++ c :: m ∧ c ∉ a := by
  induction l with
  | nil => cases h
  | cons b r ih =>
    by_cases e : c = b
    · subst e; exact ⟨[], r, rfl, by simp⟩
    · obtain ⟨a, m, p, q⟩ := ih (by rcases List.mem_cons.1 h with h | h; exact absurd h e; exact h)
      exact ⟨b :: a, m, by rw [p]; rfl, by simp; exact ⟨e, q⟩⟩
theorem splitK_spA (c : UInt8) : ∀ (k : Nat) (s : List UInt8), s.count c ≤ k → splitK [c] 0 k s = spA c [] s := by
  intro k
  induction k with
  | zero =>
    intro s h
    have : c ∉ s := fun m => by have := List.count_pos_iff.2 m; omega
    rw [spA_none c s this []]; rfl
  | succ k ih =>
    intro s h
    by_cases m : c ∈ s
    · obtain ⟨a, t, e, q⟩ := mem_split c s m
      subst e
      rw [spA_hit c a t q [], List.nil_append]
      unfold splitK
      rw [index_hit_of c a t q, if_neg (by simp), ih _ (by
        rw [List.count_append, List.count_cons_self] at h
        simp; omega)]
      simp
    · rw [spA_none c s m []]
      unfold splitK
      rw [index_none_of c s m, if_pos (by rfl)]; rfl
theorem split_spA (c : UInt8) (s : List UInt8) : splitK [c] 0 (count s [c]) s = spA c [] s := splitK_spA c _ s (by rw [count_one]; exact Nat.le_refl _)
def HT (h m : Int) : List UInt8 := itoa h ++ 104 :: (pad m ++ [109])
def hourOf (s : List UInt8) (v : Int) : Prop := ∃ h m : Int, 0 ≤ h ∧ h < 24 ∧ 0 ≤ m ∧ m < 60 ∧ s = HT h m ∧ v = 54000 * h + 900 * m
theorem not_mem_dig {c : UInt8} (hc : isD c = false) {l : List UInt8} (h : ∀ x ∈ l, isD x = true) : c ∉ l := fun m => by have := h c m; rw [hc] at this; cases this
theorem itoa_digits (n : Int) (h : 0 ≤ n) : ∀ x ∈ itoa n, isD x = true := by rw [itoa_nn n h]; exact decDigits_digits _
theorem pad_digits (n : Int) (h0 : 0 ≤ n) (h1 : n < 100) : ∀ x ∈ pad n, isD x = true := by
  rw [pad_two n h0 h1]
  intro x hx
  rcases List.mem_cons.1 hx with rfl | hx
  · exact ch_isD _ (by omega) (by omega)
  · rw [List.mem_singleton.1 hx]; exact ch_isD _ (by omega) (by omega)
/-- The reference's reading of an hour. -/
def RHs (s : List UInt8) : Int × Bool :=
  match spA 104 [] s with
  | [w0, w1] =>
    if w1.length = 3 ∧ w1[2]? = some 109 then
      (if (RD w0).2 = true ∧ (TW (w1.take 2)).2 = true ∧ 0 ≤ (RD w0).1 ∧ (RD w0).1 ≤ 23 then (54000 * (RD w0).1 + 900 * (TW (w1.take 2)).1, true) else (0, false))
    else (0, false)
  | _ => (0, false)
theorem pair_of {p : Int × Bool} (h : p.2 = true) : p = (p.1, true) := by rw [← h]
theorem RHs_sound {s : List UInt8} {v : Int} (h : RHs s = (v, true)) : hourOf s v := by
  unfold RHs at h
  split at h
  · rename_i w0 w1 e
    split at h
    · rename_i c
      split at h
      · rename_i d
        obtain ⟨d1, d2, d3, d4⟩ := d
        obtain ⟨t1, t2, t3⟩ := TW_sound (pair_of d2)
        refine ⟨_, _, d3, by omega, t2, t3, ?_, (congrArg Prod.fst h).symm⟩
        have j := spA_jn 104 s []
        rw [e] at j
        have j : w0 ++ 104 :: w1 = s := j
        unfold HT
        rw [RD_sound (pair_of d1), ← t1, ← j]
        congr 2
        match w1, c with
        | [a, b, x], c => simp at c; rw [c]; rfl
      · have := congrArg Prod.snd h; cases this
    · have := congrArg Prod.snd h; cases this
  · have := congrArg Prod.snd h; cases this
theorem RHs_false {s : List UInt8} (h : (RHs s).2 = false) : RHs s = (0, false) := by
  unfold RHs at h ⊢
  split
  · rename_i w0 w1 e
    rw [e] at h
    simp only [] at h
    by_cases c : w1.length = 3 ∧ w1[2]? = some 109
    · rw [if_pos c] at h ⊢
      split
      · rename_i d; rw [if_pos d] at h; cases h
      · rfl
    · rw [if_neg c]
  · rfl
theorem RHs_full {s : List UInt8} {v : Int} (h : hourOf s v) : RHs s = (v, true) := by
  obtain ⟨a, m, a0, a1, m0, m1, rfl, rfl⟩ := h
  have n1 : (104 : UInt8) ∉ itoa a := not_mem_dig (by decide) (itoa_digits a a0)
  have n2 : (104 : UInt8) ∉ pad m ++ [109] := by
    intro h
    rcases List.mem_append.1 h with h | h
    · exact not_mem_dig (by decide) (pad_digits m m0 (by omega)) h
    · exact absurd (List.mem_singleton.1 h) (by decide)
  unfold RHs HT
  rw [spA_hit 104 _ _ n1 [], spA_none 104 _ n2 [], List.nil_append, List.nil_append]
  simp only []
  have ep : pad m = [ch (m / 10), ch (m % 10)] := pad_two m m0 (by omega)
  have et : (pad m ++ [109]).take 2 = pad m := by rw [ep]; rfl
  rw [if_pos (by rw [ep]; exact ⟨rfl, rfl⟩), et, RD_itoa a (by omega) (by omega), TW_pad m m0 m1, if_pos ⟨rfl, rfl, a0, by omega⟩]
/-- The program's minute. -/
def MN (rest : List UInt8) : Int × Bool := if hasPrefix rest [48, 48] then (0, true) else RD (trimPrefix (trimSuffix rest [109]) [48])
/-- The program's reading of an hour; HTx: the text that it holds against. -/
def RHi (HTx : Int → List UInt8) (s : List UInt8) : Int × Bool :=
  let hours := (cut s [104]).1
  let rest := (cut s [104]).2.1
  let h := RD hours
  let m := MN rest
  if h.2 = true ∧ m.2 = true ∧ 0 ≤ h.1 ∧ h.1 ≤ 23 ∧ 0 ≤ m.1 ∧ m.1 ≤ 59 ∧ HTx (54000 * h.1 + 900 * m.1) = s then (54000 * h.1 + 900 * m.1, true) else (0, false)
def HTv (v : Int) : List UInt8 := HT (v / 54000) (v % 54000 / 900)
theorem HTv_eq (h m : Int) (_h0 : 0 ≤ h) (m0 : 0 ≤ m) (m1 : m < 60) : HTv (54000 * h + 900 * m) = HT h m := by
  unfold HTv
  rw [show (54000 * h + 900 * m) / 54000 = h by omega, show (54000 * h + 900 * m) % 54000 / 900 = m by omega]
theorem RHi_sound {s : List UInt8} {v : Int} (h : RHi HTv s = (v, true)) : hourOf s v := by
  unfold RHi at h
  simp only [] at h
  split at h
  · rename_i c
    obtain ⟨_, _, c1, c2, c3, c4, c5⟩ := c
    exact ⟨_, _, c1, by omega, c3, by omega, (c5.symm.trans (HTv_eq _ _ c1 c3 (by omega))), (congrArg Prod.fst h).symm⟩
  · have := congrArg Prod.snd h; cases this
theorem hasSuffix_snoc (l : List UInt8) (c d : UInt8) : hasSuffix (l ++ [c]) [d] = decide (c = d) := by
  unfold hasSuffix List.isSuffixOf
  rw [List.reverse_append]
  simp [List.isPrefixOf]
  by_cases h : d = c
  · subst h; simp
  · have h2 : ¬ c = d := fun e => h e.symm
    simp [h, h2]
theorem trimSuffix_snoc (l : List UInt8) (c : UInt8) : trimSuffix (l ++ [c]) [c] = l := by
  unfold trimSuffix
  rw [hasSuffix_snoc, if_pos (decide_eq_true rfl)]
  simp
theorem trimSuffix_other (l : List UInt8) (c d : UInt8) (h : c ≠ d) : trimSuffix (l ++ [c]) [d] = l ++ [c] := by
  unfold trimSuffix
  rw [hasSuffix_snoc, if_neg (by simp [h])]
theorem ch_48 (d : Int) (h0 : 0 ≤ d) (h1 : d < 10) : ch d = 48 ↔ d = 0 := by
  constructor
  · intro e; have := ch_nat d h0 h1; rw [e] at this; have e2 : (48 : UInt8).toNat = 48 := rfl; omega
  · intro e; subst e; rfl
/-- A number of two digits, the first 0 struck. -/
theorem RD_two (m : Int) (h0 : 0 ≤ m) (h1 : m < 60) : RD (trimPrefix (pad m) [48]) = (m, true) := by
  rw [pad_two m h0 (by omega)]
  by_cases h : m < 10
  · have e : trimPrefix [ch (m / 10), ch (m % 10)] [48] = itoa m := by
      rw [itoa_one m h0 h, show m / 10 = 0 by omega, show m % 10 = m by omega]; rfl
    rw [e]; exact RD_itoa m (by omega) (by omega)
  · have hn : ¬ (48 : UInt8) = ch (m / 10) := fun e => by have := (ch_48 (m / 10) (by omega) (by omega)).1 e.symm; omega
    have e : trimPrefix [ch (m / 10), ch (m % 10)] [48] = itoa m := by
      rw [itoa_two m (by omega) (by omega)]
      unfold trimPrefix hasPrefix
      simp [List.isPrefixOf, hn]
    rw [e]; exact RD_itoa m (by omega) (by omega)
theorem RHi_full {s : List UInt8} {v : Int} (h : hourOf s v) : RHi HTv s = (v, true) := by
  obtain ⟨a, m, a0, a1, m0, m1, rfl, rfl⟩ := h
  have n1 : (104 : UInt8) ∉ itoa a := not_mem_dig (by decide) (itoa_digits a a0)
  have ec : cut (HT a m) [104] = (itoa a, pad m ++ [109], true) := cut_hit_of 104 _ _ n1
  unfold RHi
  rw [ec]
  simp only []
  rw [RD_itoa a (by omega) (by omega)]
  have em : MN (pad m ++ [109]) = (m, true) := by
    unfold MN
    rw [trimSuffix_snoc, RD_two m m0 m1]
    split
    · rename_i c
      rw [pad_two m m0 (by omega)] at c
      unfold hasPrefix at c
      simp [List.isPrefixOf] at c
      have a1 := (ch_48 (m / 10) (by omega) (by omega)).1 c.1.symm
      have a2 := (ch_48 (m % 10) (by omega) (by omega)).1 c.2.symm
      congr 1; omega
    · rfl
  rw [em, if_pos ⟨rfl, rfl, a0, by omega, m0, by omega, HTv_eq a m a0 m0 m1⟩]
theorem RHi_false {H : Int → List UInt8} {s : List UInt8} (h : (RHi H s).2 = false) : RHi H s = (0, false) := by
  unfold RHi at h ⊢
  simp only [] at h ⊢
  split
  · rename_i c; rw [if_pos c] at h; cases h
  · rfl
theorem RH_eq (s : List UInt8) : RHi HTv s = RHs s := by
  cases h : (RHi HTv s).2 with
  | true => rw [pair_of h]; exact (RHs_full (RHi_sound (pair_of h))).symm
  | false =>
    cases h2 : (RHs s).2 with
    | true => have := RHi_full (RHs_sound (pair_of h2)); rw [this] at h; cases h
    | false => rw [RHi_false h, RHs_false h2]
/-! Places. -/
def szT (n : Int) : List UInt8 := itoa (n / 3600) ++ 46 :: (pad (n / 60 % 60) ++ 46 :: pad (n % 60))
def ab (n : Int) : Int := if n < 0 then -n else n
def angT (n : Int) (p q : UInt8) : List UInt8 := szT (ab n) ++ [if n < 0 then q else p]
def ST (a b : Int) : List UInt8 := angT a 110 115 ++ 32 :: angT b 101 119
def okS (a b : Int) : Prop := -324000 ≤ a ∧ a ≤ 324000 ∧ -648000 ≤ b ∧ b ≤ 647999
instance (a b : Int) : Decidable (okS a b) := by unfold okS; infer_instance
theorem ab_nn (n : Int) : 0 ≤ ab n := by unfold ab; split <;> omega
theorem szT_last (n : Int) (_h : 0 ≤ n) : ∃ l c, szT n = l ++ [c] ∧ isD c = true := by
  refine ⟨itoa (n / 3600) ++ 46 :: (pad (n / 60 % 60) ++ 46 :: [ch (n % 60 / 10)]), ch (n % 60 % 10), ?_, ch_isD _ (by omega) (by omega)⟩
  unfold szT
  rw [pad_two (n % 60) (by omega) (by omega)]
  simp
theorem szT_mem (n : Int) (h : 0 ≤ n) (c : UInt8) (hc : isD c = false) (h46 : c ≠ 46) : c ∉ szT n := by
  intro m
  unfold szT at m
  rcases List.mem_append.1 m with m | m
  · exact not_mem_dig hc (itoa_digits _ (by omega)) m
  · rcases List.mem_cons.1 m with m | m
    · exact h46 m
    · rcases List.mem_append.1 m with m | m
      · exact not_mem_dig hc (pad_digits _ (by omega) (by omega)) m
      · rcases List.mem_cons.1 m with m | m
        · exact h46 m
        · exact not_mem_dig hc (pad_digits _ (by omega) (by omega)) m
theorem szT_split (n : Int) (h : 0 ≤ n) : spA 46 [] (szT n) = [itoa (n / 3600), pad (n / 60 % 60), pad (n % 60)] := by
  unfold szT
  rw [spA_hit 46 _ _ (not_mem_dig (by decide) (itoa_digits _ (by omega))) [], spA_hit 46 _ _ (not_mem_dig (by decide) (pad_digits _ (by omega) (by omega))) [], spA_none 46 _ (not_mem_dig (by decide) (pad_digits _ (by omega) (by omega))) []]
  rfl
/-- The reference's reading of an angle. -/
def RAs (s : List UInt8) (p q : UInt8) : Int × Bool :=
  if s.getLast? = some p ∨ s.getLast? = some q then
    (match spA 46 [] s.dropLast with
    | [w0, w1, w2] =>
      if (RD w0).2 = true ∧ (TW w1).2 = true ∧ (TW w2).2 = true ∧ 0 ≤ (RD w0).1 ∧ (RD w0).1 ≤ 180 then
        (if s.getLast? = some q then (-(3600 * (RD w0).1 + 60 * (TW w1).1 + (TW w2).1), decide (0 < 3600 * (RD w0).1 + 60 * (TW w1).1 + (TW w2).1))
         else (3600 * (RD w0).1 + 60 * (TW w1).1 + (TW w2).1, true))
      else (0, false)
    | _ => (0, false))
  else (0, false)
theorem RAs_sound {s : List UInt8} {p q : UInt8} {v : Int} (h : RAs s p q = (v, true)) : s = angT v p q := by
  unfold RAs at h
  split at h
  · rename_i c
    split at h
    · rename_i w0 w1 w2 e
      split at h
      · rename_i d
        obtain ⟨d1, d2, d3, d4, d5⟩ := d
        obtain ⟨t1, t2, t3⟩ := TW_sound (pair_of d2)
        obtain ⟨u1, u2, u3⟩ := TW_sound (pair_of d3)
        have j := spA_jn 46 s.dropLast []
        rw [e] at j
        have j : w0 ++ 46 :: (w1 ++ 46 :: w2) = s.dropLast := j
        have k : ∀ n : Int, n = 3600 * (RD w0).1 + 60 * (TW w1).1 + (TW w2).1 → szT n = s.dropLast := by
          intro n hn
          unfold szT
          rw [show n / 3600 = (RD w0).1 by omega, show n / 60 % 60 = (TW w1).1 by omega, show n % 60 = (TW w2).1 by omega, RD_sound (pair_of d1), ← t1, ← u1, j]
        have lst : ∀ x, s.getLast? = some x → s = s.dropLast ++ [x] := fun x hx => by
          have hne : s ≠ [] := fun e => by subst e; cases hx
          rw [List.getLast?_eq_some_getLast hne] at hx
          injection hx with hx
          rw [← hx]; exact (List.dropLast_concat_getLast hne).symm
        split at h
        · rename_i l
          have hv := congrArg Prod.fst h
          have hb := congrArg Prod.snd h
          simp only [] at hv hb
          have hb := of_decide_eq_true hb
          unfold angT ab
          rw [if_pos (by omega), if_pos (by omega), k (-v) (by omega)]
          exact lst q l
        · rename_i l
          have hv := congrArg Prod.fst h
          simp only [] at hv
          have lp : s.getLast? = some p := by rcases c with c | c; exact c; exact absurd c l
          unfold angT ab
          rw [if_neg (by omega), if_neg (by omega), k v (by omega)]
          exact lst p lp
      · have := congrArg Prod.snd h; cases this
    · have := congrArg Prod.snd h; cases this
  · have := congrArg Prod.snd h; cases this
theorem RAs_full {p q : UInt8} {v : Int} (hpq : p ≠ q) (h : ab v ≤ 648000) : RAs (angT v p q) p q = (v, true) := by
  have nn := ab_nn v
  unfold RAs angT
  rw [show ∀ (l : List UInt8) (x : UInt8), (l ++ [x]).getLast? = some x from fun l x => by simp, List.dropLast_concat, szT_split _ nn]
  simp only []
  rw [RD_itoa _ (by omega) (by omega), TW_pad _ (by omega) (by omega), TW_pad _ (by omega) (by omega)]
  by_cases c : v < 0
  · rw [if_pos c, if_pos (Or.inr rfl), if_pos ⟨rfl, rfl, rfl, by simp; omega, by simp; omega⟩, if_pos rfl]
    have e : ab v = -v := if_pos c
    rw [e]
    congr 1
    · simp; omega
    · exact decide_eq_true (by simp; omega)
  · rw [if_neg c, if_pos (Or.inl rfl), if_pos ⟨rfl, rfl, rfl, by simp; omega, by simp; omega⟩, if_neg (fun e => hpq (Option.some.inj e))]
    have e : ab v = v := if_neg c
    rw [e]
    congr 1
    simp; omega
/-- The reference's reading of a place. -/
def RSs (s : List UInt8) : (Int × Int) × Bool :=
  match spA 32 [] s with
  | [w0, w1] =>
    if (RAs w0 110 115).2 = true ∧ (RAs w1 101 119).2 = true ∧ okS (RAs w0 110 115).1 (RAs w1 101 119).1 then (((RAs w0 110 115).1, (RAs w1 101 119).1), true) else ((0, 0), false)
  | _ => ((0, 0), false)
theorem angT_mem (v : Int) (p q c : UInt8) (hp : c ≠ p) (hq : c ≠ q) (hc : isD c = false) (h46 : c ≠ 46) : c ∉ angT v p q := by
  intro m
  unfold angT at m
  rcases List.mem_append.1 m with m | m
  · exact szT_mem _ (ab_nn v) c hc h46 m
  · have := List.mem_singleton.1 m
    split at this
    · exact hq this
    · exact hp this
theorem okS_ab {a b : Int} (h : okS a b) : ab a ≤ 648000 ∧ ab b ≤ 648000 := by
  unfold okS at h
  unfold ab
  constructor <;> split <;> omega
theorem RSs_sound {s : List UInt8} {a b : Int} (h : RSs s = ((a, b), true)) : okS a b ∧ s = ST a b := by
  unfold RSs at h
  split at h
  · rename_i w0 w1 e
    split at h
    · rename_i c
      obtain ⟨c1, c2, c3⟩ := c
      have ea : (RAs w0 110 115).1 = a := congrArg (fun x => x.1.1) h
      have eb : (RAs w1 101 119).1 = b := congrArg (fun x => x.1.2) h
      rw [ea, eb] at c3
      refine ⟨c3, ?_⟩
      have p0 := pair_of c1
      have p1 := pair_of c2
      rw [ea] at p0
      rw [eb] at p1
      have j := spA_jn 32 s []
      rw [e] at j
      have j : w0 ++ 32 :: w1 = s := j
      unfold ST
      rw [← RAs_sound p0, ← RAs_sound p1, j]
    · have := congrArg Prod.snd h; cases this
  · have := congrArg Prod.snd h; cases this
theorem RSs_full {a b : Int} (h : okS a b) : RSs (ST a b) = ((a, b), true) := by
  unfold RSs ST
  rw [spA_hit 32 _ _ (angT_mem a 110 115 32 (by decide) (by decide) (by decide) (by decide)) [], spA_none 32 _ (angT_mem b 101 119 32 (by decide) (by decide) (by decide) (by decide)) [], List.nil_append, List.nil_append]
  simp only []
  rw [RAs_full (by decide) (okS_ab h).1, RAs_full (by decide) (okS_ab h).2, if_pos ⟨rfl, rfl, h⟩]
theorem RSs_false {s : List UInt8} (h : (RSs s).2 = false) : RSs s = ((0, 0), false) := by
  unfold RSs at h ⊢
  split
  · rename_i w0 w1 e
    rw [e] at h
    simp only [] at h
    split
    · rename_i d; rw [if_pos d] at h; cases h
    · rfl
  · rfl
/-- One part of an angle. -/
def stepA (angle : Int) (part : List UInt8) : Option Int :=
  let x := RD (if part.length = 2 then trimPrefix part [48] else part)
  if x.2 = true ∧ 0 ≤ x.1 ∧ x.1 ≤ 1000 then some (60 * angle + x.1) else none
def stepsA : Int → List (List UInt8) → Option Int
  | a, [] => some a
  | a, w :: r => (stepA a w).bind fun b => stepsA b r
def finA (plus minus : Bool) (parts : List (List UInt8)) : Int × Bool :=
  if plus = minus ∨ parts.length ≠ 3 then (0, false)
  else match stepsA 0 parts with
    | none => (0, false)
    | some a => (if minus = true then -a else a, true)
/-- The program's reading of an angle. -/
def RAi (s : List UInt8) (p q : UInt8) : Int × Bool :=
  finA (hasSuffix s [p]) (hasSuffix (trimSuffix s [p]) [q]) (spA 46 [] (trimSuffix (trimSuffix s [p]) [q]))
theorem finA_ok {plus minus : Bool} {parts : List (List UInt8)} {a : Int} (h1 : plus ≠ minus) (h2 : parts.length = 3) (h3 : stepsA 0 parts = some a) : finA plus minus parts = (if minus = true then -a else a, true) := by
  unfold finA
  rw [if_neg (fun h => by rcases h with h | h; exact h1 h; exact h h2), h3]
theorem stepA_deg (d : Int) (h0 : 0 ≤ d) (h1 : d ≤ 180) (a : Int) : stepA a (itoa d) = some (60 * a + d) := by
  have e : (if (itoa d).length = 2 then trimPrefix (itoa d) [48] else itoa d) = itoa d := by
    split
    · rename_i h
      by_cases c : d < 10
      · rw [itoa_one d h0 c] at h; cases h
      · by_cases c2 : d < 100
        · rw [itoa_two d (by omega) c2]
          have hn : ¬ (48 : UInt8) = ch (d / 10) := fun e => by have := (ch_48 (d / 10) (by omega) (by omega)).1 e.symm; omega
          unfold trimPrefix hasPrefix
          simp [List.isPrefixOf, hn]
        · exfalso
          rw [itoa_nn d h0, decDigits, dif_neg (by omega), decDigits, dif_neg (by omega)] at h
          have := List.length_pos_iff.2 (decDigits_ne (d.toNat / 10 / 10))
          rw [List.length_append, List.length_append, List.length_singleton, List.length_singleton] at h
          omega
    · rfl
  unfold stepA
  rw [e, RD_itoa d (by omega) (by omega), if_pos ⟨rfl, h0, by simp; omega⟩]
theorem stepA_two (m : Int) (h0 : 0 ≤ m) (h1 : m < 60) (a : Int) : stepA a (pad m) = some (60 * a + m) := by
  have e : (if (pad m).length = 2 then trimPrefix (pad m) [48] else pad m) = trimPrefix (pad m) [48] := if_pos (by rw [pad_two m h0 (by omega)]; rfl)
  unfold stepA
  rw [e, RD_two m h0 h1, if_pos ⟨rfl, h0, by simp; omega⟩]
theorem stepsA_szT (n : Int) (h0 : 0 ≤ n) (h1 : n ≤ 648000) : stepsA 0 (spA 46 [] (szT n)) = some n := by
  rw [szT_split n h0]
  unfold stepsA
  rw [stepA_deg _ (by omega) (by omega), Option.bind_some]
  unfold stepsA
  rw [stepA_two _ (by omega) (by omega), Option.bind_some]
  unfold stepsA
  rw [stepA_two _ (by omega) (by omega), Option.bind_some]
  unfold stepsA
  congr 1
  omega
theorem RAi_full {p q : UInt8} {v : Int} (hpq : p ≠ q) (hq : isD q = false) (h : ab v ≤ 648000) : RAi (angT v p q) p q = (v, true) := by
  have nn := ab_nn v
  have len3 : (spA 46 [] (szT (ab v))).length = 3 := by rw [szT_split _ nn]; rfl
  obtain ⟨l, c, el, ec⟩ := szT_last (ab v) nn
  have cq : c ≠ q := fun e => by rw [e, hq] at ec; cases ec
  have sq : trimSuffix (szT (ab v)) [q] = szT (ab v) := by rw [el]; exact trimSuffix_other l c q cq
  have hs : hasSuffix (szT (ab v)) [q] = false := by rw [el, hasSuffix_snoc]; exact decide_eq_false cq
  unfold RAi angT
  by_cases c : v < 0
  · have e : ab v = -v := if_pos c
    rw [if_pos c, trimSuffix_other _ q p (fun e => hpq e.symm), hasSuffix_snoc, hasSuffix_snoc, trimSuffix_snoc, finA_ok (by rw [decide_eq_false (fun e => hpq e.symm), decide_eq_true rfl]; simp) len3 (stepsA_szT _ nn h), if_pos (decide_eq_true rfl), e, Int.neg_neg]
  · have e : ab v = v := if_neg c
    rw [if_neg c, trimSuffix_snoc, hasSuffix_snoc, hs, sq, finA_ok (by rw [decide_eq_true rfl]; simp) len3 (stepsA_szT _ nn h), if_neg (by simp), e]
theorem RAi_nil (p q : UInt8) : (RAi [] p q).2 = false := by
  have e : ∀ c : UInt8, trimSuffix [] [c] = [] := fun c => rfl
  have e2 : ∀ c : UInt8, hasSuffix [] [c] = false := fun c => rfl
  unfold RAi
  rw [e, e, e2, e2]
  unfold finA
  rw [if_pos (Or.inl rfl)]
def STx (a b : Int) : List UInt8 := if okS a b then ST a b else []
/-- The program's reading of a place. -/
def RSi (s : List UInt8) : (Int × Int) × Bool :=
  let x := RAi (cut s [32]).1 110 115
  let y := RAi (cut s [32]).2.1 101 119
  if x.2 = true ∧ y.2 = true ∧ STx x.1 y.1 = s then ((x.1, y.1), true) else ((0, 0), false)
theorem RSi_sound {s : List UInt8} {a b : Int} (h : RSi s = ((a, b), true)) : okS a b ∧ s = ST a b := by
  unfold RSi at h
  simp only [] at h
  split at h
  · rename_i c
    obtain ⟨c1, c2, c3⟩ := c
    have ea : (RAi (cut s [32]).1 110 115).1 = a := congrArg (fun x => x.1.1) h
    have eb : (RAi (cut s [32]).2.1 101 119).1 = b := congrArg (fun x => x.1.2) h
    rw [ea, eb] at c3
    unfold STx at c3
    split at c3
    · rename_i k; exact ⟨k, c3.symm⟩
    · subst c3
      have := RAi_nil 110 115
      have e : (cut [] [32]).1 = ([] : List UInt8) := rfl
      rw [e, this] at c1
      cases c1
  · have := congrArg Prod.snd h; cases this
theorem RSi_full {a b : Int} (h : okS a b) : RSi (ST a b) = ((a, b), true) := by
  have ec : cut (ST a b) [32] = (angT a 110 115, angT b 101 119, true) := cut_hit_of 32 _ _ (angT_mem a 110 115 32 (by decide) (by decide) (by decide) (by decide))
  unfold RSi
  rw [ec]
  simp only []
  rw [RAi_full (by decide) (by decide) (okS_ab h).1, RAi_full (by decide) (by decide) (okS_ab h).2, if_pos ⟨rfl, rfl, by unfold STx; rw [if_pos h]⟩]
theorem RSi_false {s : List UInt8} (h : (RSi s).2 = false) : RSi s = ((0, 0), false) := by
  unfold RSi at h ⊢
  simp only [] at h ⊢
  split
  · rename_i c; rw [if_pos c] at h; cases h
  · rfl
theorem RS_eq (s : List UInt8) : RSi s = RSs s := by
  cases hx : RSi s with
  | mk p k =>
    obtain ⟨a, b⟩ := p
    cases k with
    | true =>
      obtain ⟨k, j⟩ := RSi_sound hx
      rw [j, RSs_full k]
    | false =>
      have h0 := RSi_false (s := s) (by rw [hx])
      rw [hx] at h0
      cases hy : RSs s with
      | mk p k =>
        obtain ⟨c, d⟩ := p
        cases k with
        | true =>
          obtain ⟨k, j⟩ := RSs_sound hy
          rw [j, RSi_full k] at hx
          cases congrArg Prod.snd hx
        | false =>
          have h1 := RSs_false (s := s) (by rw [hy])
          rw [hy] at h1
          rw [h0, h1]
end Go.Proofs.YthedepnndgemeaaDoor.Tx
