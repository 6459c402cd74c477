/- Plain facts on whole numbers: rounding, the sine by the rule, arcs: no Go and no memory here. Conditions: as each lemma states them. -/
import Derived.Test.YtkfbbaaniglaeaaWMore
import Derived.OpenShut
namespace Go.Proofs.Ytkfbbaaniglaeaa.Mth
open Go.RowKit Go.Proofs.YtkfbbaaniglaeaaW.PrintWords Go.Proofs.YtkfbbaaniglaeaaW.PrintLast Go.Proofs.YtkfbbaaniglaeaaW.PrintMore

set_option linter.unusedVariables false
set_option linter.unusedSimpArgs false
theorem w64 {n : Int} (h : -9223372036854775808 ≤ n) (h' : n ≤ 9223372036854775807) : wrap64 n = n := by
  unfold wrap64; omega

theorem tmod_nn {a b : Int} (h : 0 ≤ a) : Int.tmod a b = a % b := Int.tmod_eq_emod_of_nonneg h
theorem tdiv_nn {a b : Int} (h : 0 ≤ a) : Int.tdiv a b = a / b := Int.tdiv_eq_ediv_of_nonneg h
theorem tmod_ng {a b : Int} (h : a ≤ 0) : Int.tmod a b = -((-a) % b) := by
  have e := Int.neg_tmod (-a) b
  rw [Int.neg_neg, tmod_nn (a := -a) (by omega)] at e
  exact e
theorem tdiv_ng {a b : Int} (h : a ≤ 0) : Int.tdiv a b = -((-a) / b) := by
  have e := Int.neg_tdiv (-a) b
  rw [Int.neg_neg, tdiv_nn (a := -a) (by omega)] at e
  exact e

theorem div_parts {a b q r : Int} (hb : 0 < b) (h : r + b * q = a) (h0 : 0 ≤ r) (h1 : r < b) : a / b = q ∧ a % b = r :=
  (Int.ediv_emod_unique hb).2 ⟨h, h0, h1⟩

/-- The floor of a quotient, as Go's text reckons it. -/
theorem floor_f {a b : Int} (hb : 0 < b) (h : -9223372036854775808 ≤ a) (h' : a ≤ 9223372036854775807) :
    (if b = 0 then (none : Option Int) else (if (Int.tmod a b) < 0 then (some (wrap64 ((wrap64 (Int.tdiv a b)) - 1))) else (some (wrap64 (Int.tdiv a b))))) = some (a / b) := by
  rw [if_neg (by omega)]
  have hm := Int.emod_nonneg a (show b ≠ 0 by omega)
  have hl := Int.emod_lt_of_pos a hb
  have hd := Int.mul_ediv_add_emod a b
  by_cases h0 : 0 ≤ a
  · rw [tmod_nn h0, tdiv_nn h0, if_neg (by omega)]
    have h1 := Int.ediv_nonneg h0 (Int.le_of_lt hb)
    have h2 := Int.ediv_le_self b h0
    rw [w64 (by omega) (by omega)]
  · have hc : 0 ≤ -a := by omega
    have c0 := Int.ediv_nonneg hc (Int.le_of_lt hb)
    have c1 := Int.ediv_le_self b hc
    have c2 := Int.emod_nonneg (-a) (show b ≠ 0 by omega)
    have c3 := Int.emod_lt_of_pos (-a) hb
    have c4 := Int.mul_ediv_add_emod (-a) b
    rw [tmod_ng (by omega), tdiv_ng (by omega)]
    by_cases hz : (-a) % b = 0
    · rw [if_neg (by omega)]
      have : a / b = -((-a) / b) := (div_parts hb (r := 0) (by rw [Int.mul_neg]; omega) (by omega) hb).1
      rw [this, w64 (by omega) (by omega)]
    · rw [if_pos (by omega)]
      have e : a / b = -((-a) / b) - 1 := (div_parts hb (r := b - (-a) % b) (by rw [Int.mul_sub, Int.mul_neg, Int.mul_one]; omega) (by omega) (by omega)).1
      have hlt : (-a) / b < -a := by
        by_cases hb1 : b = 1
        · subst hb1; simp at hz
        · exact Int.ediv_lt_self_of_pos_of_ne_one (by omega) hb1 |> fun h => h
      rw [e, w64 (n := -((-a) / b)) (by omega) (by omega), w64 (by omega) (by omega)]

theorem wrap_wrap_sub (x : Int) : wrap64 (wrap64 x - 1) = wrap64 (x - 1) := by unfold wrap64; omega
theorem floor_neg {a b : Int} (hb : 0 < b) (h : -4611686018427387904 ≤ a) (h' : a ≤ 4611686018427387904) (hn : Int.tmod a b < 0) : wrap64 (Int.tdiv a b - 1) = a / b := by
  have e := floor_f (a := a) hb (by omega) (by omega)
  rw [if_neg (by omega), if_pos hn, wrap_wrap_sub] at e
  exact Option.some.inj e
theorem floor_pos {a b : Int} (hb : 0 < b) (h : -4611686018427387904 ≤ a) (h' : a ≤ 4611686018427387904) (hn : ¬ Int.tmod a b < 0) : wrap64 (Int.tdiv a b) = a / b := by
  have e := floor_f (a := a) hb (by omega) (by omega)
  rw [if_neg (by omega), if_neg hn] at e
  exact Option.some.inj e
theorem floor_pos2 {a b : Int} (hb : 0 < b) (hn : ¬ Int.tmod a b < 0) : Int.tdiv a b = a / b := by
  by_cases h0 : 0 ≤ a
  · exact tdiv_nn h0
  · have c2 := Int.emod_nonneg (-a) (show b ≠ 0 by omega)
    have c4 := Int.mul_ediv_add_emod (-a) b
    rw [tmod_ng (by omega)] at hn
    rw [tdiv_ng (by omega)]
    exact ((div_parts hb (r := 0) (by rw [Int.mul_neg]; omega) (by omega) hb).1).symm
def near (a b : Int) : Int := (2 * a + b) / (2 * b)

theorem div_mono {a b c d : Int} (hb : 0 < b) (hd : 0 < d) (h : a * d ≤ c * b) : a / b ≤ c / d := by
  rw [Int.le_ediv_iff_mul_le hd]
  have h1 : a / b * b ≤ a := Int.ediv_mul_le a (by omega)
  have h2 : a / b * b * d ≤ a * d := Int.mul_le_mul_of_nonneg_right h1 (by omega)
  have h3 : a / b * d * b ≤ c * b := by
    have : a / b * d * b = a / b * b * d := by grind
    omega
  exact Int.le_of_mul_le_mul_right h3 hb

def P (y : Int) : Int := y * (648000 - y)
def Hp (p : Int) : Int := near (16000000 * p) (2099520000000 - 4 * p)
def H (y : Int) : Int := Hp (P y)
def S (x : Int) : Int := if 648000 ≤ x % 1296000 then - H (x % 1296000 - 648000) else H (x % 1296000)
def Co (x : Int) : Int := S (x + 324000)

theorem P_sq (y : Int) : P y = 104976000000 - (y - 324000) * (y - 324000) := by unfold P; grind
theorem sq_nn (z : Int) : 0 ≤ z * z := by
  by_cases h : 0 ≤ z
  · exact Int.mul_nonneg h h
  · have := Int.mul_nonneg (show 0 ≤ -z by omega) (show 0 ≤ -z by omega)
    rwa [Int.neg_mul_neg] at this
theorem P_le (y : Int) : P y ≤ 104976000000 := by rw [P_sq]; have := sq_nn (y - 324000); omega
theorem P_nn {y : Int} (h0 : 0 ≤ y) (h1 : y ≤ 648000) : 0 ≤ P y := Int.mul_nonneg h0 (by omega)
theorem P_sym (y : Int) : P (648000 - y) = P y := by unfold P; grind
theorem P_mono {x y : Int} (h0 : x ≤ y) (h1 : y ≤ 324000) : P x ≤ P y := by
  have : 0 ≤ (y - x) * (648000 - x - y) := Int.mul_nonneg (by omega) (by omega)
  have e : P y - P x = (y - x) * (648000 - x - y) := by unfold P; grind
  omega

theorem Hp_mono {p q : Int} (h0 : 0 ≤ p) (h : p ≤ q) (h1 : q ≤ 104976000000) : Hp p ≤ Hp q := by
  unfold Hp near
  refine div_mono (by omega) (by omega) ?_
  have e : (2 * (16000000 * q) + (2099520000000 - 4 * q)) * (2 * (2099520000000 - 4 * p)) - (2 * (16000000 * p) + (2099520000000 - 4 * p)) * (2 * (2099520000000 - 4 * q)) = 134369280000000000000 * (q - p) := by grind
  omega
theorem Hp_0 : Hp 0 = 0 := by decide
theorem Hp_top : Hp 104976000000 = 1000000 := by decide
theorem H_nn {y : Int} (h0 : 0 ≤ y) (h1 : y ≤ 648000) : 0 ≤ H y := by
  have := Hp_mono (Int.le_refl 0) (P_nn h0 h1) (P_le y); rw [Hp_0] at this; exact this
theorem H_le {y : Int} (h0 : 0 ≤ y) (h1 : y ≤ 648000) : H y ≤ 1000000 := by
  have := Hp_mono (P_nn h0 h1) (P_le y) (Int.le_refl _); rw [Hp_top] at this; exact this
theorem H_mono {x y : Int} (h0 : 0 ≤ x) (h : x ≤ y) (h1 : y ≤ 324000) : H x ≤ H y := Hp_mono (P_nn h0 (by omega)) (P_mono h h1) (P_le y)
theorem H_sym (y : Int) : H (648000 - y) = H y := by unfold H; rw [P_sym]
theorem H_0 : H 0 = 0 := by decide
theorem H_q : H 324000 = 1000000 := by decide

theorem S_bd (x : Int) : -1000000 ≤ S x ∧ S x ≤ 1000000 := by
  unfold S
  split
  · have a := H_nn (y := x % 1296000 - 648000) (by omega) (by omega)
    have b := H_le (y := x % 1296000 - 648000) (by omega) (by omega)
    omega
  · have a := H_nn (y := x % 1296000) (by omega) (by omega)
    have b := H_le (y := x % 1296000) (by omega) (by omega)
    omega
theorem Co_bd (x : Int) : -1000000 ≤ Co x ∧ Co x ≤ 1000000 := S_bd _
theorem S_half {y : Int} (h0 : 0 ≤ y) (h1 : y ≤ 648000) : S y = H y := by
  unfold S
  by_cases h : y = 648000
  · subst h; decide
  · rw [if_neg (by omega), show y % 1296000 = y by omega]
theorem S_turn (x : Int) : S (x % 1296000) = S x := by unfold S; rw [Int.emod_emod_of_dvd x (Int.dvd_refl 1296000)]
theorem S_cong {x y : Int} (h : x % 1296000 = y % 1296000) : S x = S y := by unfold S; rw [h]
theorem S_mono {x y : Int} (h0 : 0 ≤ x) (h : x ≤ y) (h1 : y ≤ 324000) : S x ≤ S y := by
  rw [S_half h0 (by omega), S_half (by omega) (by omega)]; exact H_mono h0 h h1
theorem S_0 : S 0 = 0 := by decide
theorem S_q : S 324000 = 1000000 := by decide
theorem S_neg (x : Int) : S (-x) = - S x := by
  unfold S
  by_cases h : 648000 ≤ x % 1296000
  · rw [if_pos h]
    by_cases h2 : x % 1296000 = 648000
    · rw [show -x % 1296000 = 648000 by omega, if_pos (by omega), h2]; decide
    · rw [if_neg (by omega), show -x % 1296000 = 648000 - (x % 1296000 - 648000) by omega, H_sym]; omega
  · rw [if_neg h]
    by_cases h2 : x % 1296000 = 0
    · rw [show -x % 1296000 = 0 by omega, if_neg (by omega), h2]; decide
    · rw [if_pos (by omega), show -x % 1296000 - 648000 = 648000 - (x % 1296000) by omega, H_sym]
theorem S_sup (x : Int) : S (648000 - x) = S x := by
  unfold S
  by_cases h : 648000 ≤ x % 1296000
  · rw [if_pos h]
    by_cases h2 : x % 1296000 = 648000
    · rw [show (648000 - x) % 1296000 = 0 by omega, if_neg (by omega), h2]; decide
    · rw [if_pos (by omega), show (648000 - x) % 1296000 - 648000 = 648000 - (x % 1296000 - 648000) by omega, H_sym]
  · rw [if_neg h]
    by_cases h2 : x % 1296000 = 0
    · rw [show (648000 - x) % 1296000 = 648000 by omega, if_pos (by omega), h2]; decide
    · rw [if_neg (by omega), show (648000 - x) % 1296000 = 648000 - (x % 1296000) by omega, H_sym]
theorem Co_neg (x : Int) : Co (-x) = Co x := by
  unfold Co
  rw [← S_sup (x + 324000)]; congr 1; omega

/-- The least angle from 0 to a quarter turn whose sine is at least s. -/
structure IsArc (s r : Int) : Prop where
  lo : 0 ≤ r
  hi : r ≤ 324000
  at_ : s ≤ S r
  least : ∀ y, 0 ≤ y → y < r → S y < s
theorem IsArc.uniq {s r t : Int} (h : IsArc s r) (k : IsArc s t) : r = t := by
  by_cases a : r < t
  · have := k.least r h.lo a; have := h.at_; omega
  · by_cases b : t < r
    · have := h.least t k.lo b; have := k.at_; omega
    · omega
noncomputable def Ar (s : Int) : Int := Classical.epsilon (IsArc s)
theorem IsArc.eq {s r : Int} (h : IsArc s r) : Ar s = r := (Classical.epsilon_spec (p := IsArc s) ⟨r, h⟩).uniq h

/-- The wrapped longitude. -/
def W (x : Int) : Int := (x + 648000) % 1296000 - 648000
theorem W_bd (x : Int) : -648000 ≤ W x ∧ W x < 648000 := by unfold W; omega
theorem tmod_T (x : Int) : Int.tmod x 1296000 = if 0 ≤ x then x % 1296000 else -((-x) % 1296000) := by
  split
  · exact tmod_nn ‹_›
  · exact tmod_ng (by omega)
/-- Go's '(x % T + T) % T'. -/
theorem around_f {x : Int} : Int.tmod (wrap64 ((Int.tmod x 1296000) + 1296000)) 1296000 = x % 1296000 := by
  rw [tmod_T x]
  split
  · rw [w64 (by omega) (by omega), tmod_nn (by omega)]; omega
  · rw [w64 (by omega) (by omega), tmod_nn (by omega)]; omega
abbrev gOk (g : Int) : Prop := (6 ≤ g ∧ g ≤ 48) ∧ 1296000 % g = 0
abbrev sOk (a b : Int) : Prop := (-324000 ≤ a ∧ a ≤ 324000) ∧ (-648000 ≤ b ∧ b ≤ 647999)
abbrev angOk (a : Int) : Prop := -1000000000 ≤ a ∧ a ≤ 1000000000
abbrev arOk (n : Int) : Prop := 1 ≤ n ∧ n ≤ 1000000
abbrev northOk (n : Int) : Prop := 0 ≤ n ∧ n ≤ 324000
abbrev radOk (n : Int) : Prop := 0 ≤ n ∧ n ≤ 100000
abbrev brOk (n : Int) : Prop := 1 ≤ n ∧ n ≤ 100000
abbrev latOk (n : Int) : Prop := -324000 ≤ n ∧ n ≤ 324000

def RWrapLon (a : Int) : Int × Int := if angOk a then (W a, 0) else (0, 2)
def RLonDifference (a b : Int) : Int × Int := if angOk a ∧ angOk b then (W (b - a), 0) else (0, 2)
def RTurnSpot (a b t : Int) : Int × Int × Int := if sOk a b then (if angOk t then (a, W (b + t), 0) else (0, 0, 2)) else (0, 0, 1)
def RAntipode (a b : Int) : Int × Int × Int := if sOk a b then (-a, W (b + 648000), 0) else (0, 0, 1)
def RGoreSpan (g : Int) : Int × Int := if gOk g then (1296000 / g, 0) else (0, 1)
def gore (g b : Int) : Int := b % 1296000 / (1296000 / g)
def RGoreOf (g a b : Int) : Int × Int := if gOk g ∧ sOk a b then (gore g b, 0) else (0, 1)
def RGoreMiddle (g k : Int) : Int × Int := if gOk g then (if 0 ≤ k ∧ k ≤ g - 1 then (W (k * (1296000 / g) + 1296000 / g / 2), 0) else (0, 2)) else (0, 1)
def arcLen (n a : Int) : Int := near (n * a) 1296000
def RArcLength (n a : Int) : Int × Int := if arOk n ∧ (0 ≤ a ∧ a ≤ 1296000) then (arcLen n a, 0) else (0, 2)
def RCapRadius (n l : Int) : Int × Int := if arOk n ∧ northOk l then (arcLen n (324000 - l), 0) else (0, 2)
def discC (n r : Int) (ok : Prop) [Decidable ok] : Int := if arOk n ∧ radOk r ∧ ok then (if n < 4 * r then 5 else 0) else 2
def edge (n r : Int) : Int := 324000 - r * 1296000 / n
def RCapEdge (n r : Int) : Int × Int := if discC n r True = 0 then (edge n r, 0) else (0, discC n r True)

abbrev stepOk (p : Int) : Prop := 1 ≤ p ∧ p ≤ 324000
def RSineOf (a : Int) : Int × Int := if angOk a then (S a, 0) else (0, 2)
def RCosineOf (a : Int) : Int × Int := if angOk a then (Co a, 0) else (0, 2)
def nearS (a b : Int) : Int := if b < 0 then near (-a) (-b) else near a b
def RTangentOf (a : Int) : Int × Int := if angOk a then (if Co a = 0 then (0, 6) else (nearS (1000000 * S a) (Co a), 0)) else (0, 2)
noncomputable def RArcOf (s : Int) : Int × Int := if 0 ≤ s ∧ s ≤ 1000000 then (Ar s, 0) else (0, 2)
def RChordOf (a : Int) : Int × Int := if angOk a then (2 * S (a / 2), 0) else (0, 2)
def RWidthAt (n l : Int) : Int × Int := if (0 ≤ n ∧ n ≤ 1000000) ∧ latOk l then (near (n * Co l) 1000000, 0) else (0, 2)
def betw (p a : Int) : Int := S (a / p * p) + near ((a - a / p * p) * (S ((a / p + 1) * p) - S (a / p * p))) p
def RBetweenSine (p a : Int) : Int × Int := if stepOk p ∧ angOk a then (betw p a, 0) else (0, 2)
theorem discC_0 {n r : Int} {ok : Prop} [Decidable ok] (h : discC n r ok = 0) : arOk n ∧ radOk r ∧ 4 * r ≤ n ∧ ok := by
  unfold discC at h
  by_cases g : arOk n ∧ radOk r ∧ ok
  · rw [if_pos g] at h
    by_cases e : n < 4 * r
    · rw [if_pos e] at h; omega
    · exact ⟨g.1, g.2.1, by omega, g.2.2⟩
  · rw [if_neg g] at h; omega
theorem gOk_span {g : Int} (h : gOk g) : 27000 ≤ 1296000 / g ∧ 1296000 / g ≤ 216000 ∧ 1296000 / g * g = 1296000 := by
  obtain ⟨⟨h0, h1⟩, h2⟩ := h
  have e : 1296000 / g * g = 1296000 := Int.ediv_mul_cancel (Int.dvd_of_emod_eq_zero h2)
  refine ⟨?_, ?_, e⟩
  · rw [Int.le_ediv_iff_mul_le (by omega)]; omega
  · rw [← Int.lt_add_one_iff, Int.ediv_lt_iff_lt_mul (by omega)]; omega
theorem near_bd {a b B : Int} (hb : 0 < b) (h0 : -(B * b) ≤ a) (h1 : a ≤ B * b) : -B ≤ near a b ∧ near a b ≤ B := by
  unfold near
  constructor
  · rw [Int.le_ediv_iff_mul_le (by omega)]
    have : -B * (2 * b) = 2 * -(B * b) := by grind
    omega
  · rw [← Int.lt_add_one_iff, Int.ediv_lt_iff_lt_mul (by omega)]
    have : (B + 1) * (2 * b) = 2 * (B * b) + 2 * b := by grind
    omega
theorem near_nn {a b : Int} (hb : 0 < b) (h : 0 ≤ a) : 0 ≤ near a b := Int.ediv_nonneg (by omega) (by omega)
/-- A product of bounded numbers is bounded. -/
theorem mul_bd {x y X Y : Int} (hx : -X ≤ x ∧ x ≤ X) (hy : -Y ≤ y ∧ y ≤ Y) : -(X * Y) ≤ x * y ∧ x * y ≤ X * Y := by
  have a := Int.mul_nonneg (show 0 ≤ X - x by omega) (show 0 ≤ Y - y by omega)
  have b := Int.mul_nonneg (show 0 ≤ X + x by omega) (show 0 ≤ Y + y by omega)
  have c := Int.mul_nonneg (show 0 ≤ X - x by omega) (show 0 ≤ Y + y by omega)
  have d := Int.mul_nonneg (show 0 ≤ X + x by omega) (show 0 ≤ Y - y by omega)
  constructor <;> grind
theorem mul_nn_bd {x y X Y : Int} (hx : 0 ≤ x ∧ x ≤ X) (hy : 0 ≤ y ∧ y ≤ Y) : 0 ≤ x * y ∧ x * y ≤ X * Y :=
  ⟨Int.mul_nonneg hx.1 hy.1, (mul_bd (X := X) (Y := Y) ⟨by omega, hx.2⟩ ⟨by omega, hy.2⟩).2⟩
theorem betw_bd {p a : Int} (hp : stepOk p) (ha : angOk a) : (-1000000000 ≤ a / p ∧ a / p ≤ 1000000000) ∧ (a / p * p ≤ a ∧ a < a / p * p + p) ∧ (a < (a / p + 1) * p ∧ (a / p + 1) * p ≤ a + p) ∧ (0 ≤ a - a / p * p ∧ a - a / p * p < p) := by
  have h1 := Int.emod_nonneg a (show p ≠ 0 by omega)
  have h2 := Int.emod_lt_of_pos a (show 0 < p by omega)
  have h3 := Int.mul_ediv_add_emod a p
  rw [Int.mul_comm] at h3
  have h4 : (a / p + 1) * p = a / p * p + p := by grind
  have h5 : -1000000000 ≤ a / p := by
    rw [Int.le_ediv_iff_mul_le (by omega)]; omega
  have h6 : a / p ≤ 1000000000 := by
    rw [← Int.lt_add_one_iff, Int.ediv_lt_iff_lt_mul (by omega)]; omega
  omega
theorem betw_mul {p a : Int} (hp : stepOk p) (ha : angOk a) : (-648000000000 ≤ (a - a / p * p) * (S ((a / p + 1) * p) - S (a / p * p)) ∧ (a - a / p * p) * (S ((a / p + 1) * p) - S (a / p * p)) ≤ 648000000000) ∧
    -2000000 ≤ near ((a - a / p * p) * (S ((a / p + 1) * p) - S (a / p * p))) p ∧ near ((a - a / p * p) * (S ((a / p + 1) * p) - S (a / p * p))) p ≤ 2000000 := by
  obtain ⟨q0, q1, q2, q3⟩ := betw_bd hp ha
  have s0 := S_bd (a / p * p)
  have s1 := S_bd ((a / p + 1) * p)
  have m := mul_bd (x := a - a / p * p) (y := S ((a / p + 1) * p) - S (a / p * p)) (X := p) (Y := 2000000) (by omega) (by omega)
  exact ⟨by omega, near_bd (by omega) (by omega) (by omega)⟩
end Go.Proofs.Ytkfbbaaniglaeaa.Mth
