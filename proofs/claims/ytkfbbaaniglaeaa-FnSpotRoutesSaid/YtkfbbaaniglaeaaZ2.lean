/- What the statement rests on, part 2: of the texts that this work built, what the statement uses. Conditions: as stated at each. -/
import Derived.Test.YtkfbbaaniglaeaaZ1
import Derived.Below
import Derived.Deep.Draws
import Derived.Deep.AppendLies
import Derived.Maps.AppendAt
import Derived.OwnWalk
import Derived.Laws.BytesArg
import Derived.Laws.MakeOwn
import Derived.Laws.OwnMore
import Derived.Deep.OwnRows
import Derived.Tactics
import Derived.Lib.ConvBytes
import Derived.Laws.Slices
import Derived.WalkKit
import Derived.KernelRfl
import Derived.RowKit3
import Derived.Deep.LoopGhost
import Derived.Deep.QuietTactic
import Derived.BigQuiet
import Derived.WideLaws
import Derived.Deep.DeepCutAuto
import Derived.Deep.CutBlock
import Derived.Deep.RegionHeld3
import Derived.Laws.Rows
import Derived.Lib.AppendStr
import Derived.ArgAppend
import Derived.Laws.IdiomCopy
import Derived.RowKit
import Derived.OrdersHeld
import Derived.Laws.BitsLemmas
import Derived.Laws.StructEq
import Derived.OpenShut
import Derived.Test.YtkfbbaaniglaeaaProg
import Derived.WalkSpells
import Derived.Outline
import Derived.Laws.Bits64b
import Derived.IntWalk
import Derived.LoopTactic
section
namespace Go.Proofs.Ytkfbbaaniglaeaa.Mth
open Go.RowKit Go.Proofs.YtkfbbaaniglaeaaW.PrintWords Go.Proofs.YtkfbbaaniglaeaaW.PrintLast Go.Proofs.YtkfbbaaniglaeaaW.PrintMore
set_option linter.unusedVariables false
set_option linter.unusedSimpArgs false
theorem w64 {n : Int} (h : -9223372036854775808 ≤ n) (h' : n ≤ 9223372036854775807) : wrap64 n = n := by
  unfold wrap64; omega

theorem tmod_nn {a b : Int} (h : 0 ≤ a) : Int.tmod a b = a % b := Int.tmod_eq_emod_of_nonneg h
theorem tdiv_nn {a b : Int} (h : 0 ≤ a) : Int.tdiv a b = a / b := Int.tdiv_eq_ediv_of_nonneg h
theorem tmod_ng {a b : Int} (h : a ≤ 0) : Int.tmod a b = -((-a) % b) := by
  have e := Int.neg_tmod (-a) b
  rw [Int.neg_neg, tmod_nn (a := -a) (by omega)] at e
  exact e
theorem tdiv_ng {a b : Int} (h : a ≤ 0) : Int.tdiv a b = -((-a) / b) := by
  have e := Int.neg_tdiv (-a) b
  rw [Int.neg_neg, tdiv_nn (a := -a) (by omega)] at e
  exact e

theorem div_parts {a b q r : Int} (hb : 0 < b) (h : r + b * q = a) (h0 : 0 ≤ r) (h1 : r < b) : a / b = q ∧ a % b = r :=
  (Int.ediv_emod_unique hb).2 ⟨h, h0, h1⟩

/-- The floor of a quotient, as Go's text reckons it. -/
theorem floor_f {a b : Int} (hb : 0 < b) (h : -9223372036854775808 ≤ a) (h' : a ≤ 9223372036854775807) :
    (if b = 0 then (none : Option Int) else (if (Int.tmod a b) < 0 then (some (wrap64 ((wrap64 (Int.tdiv a b)) - 1))) else (some (wrap64 (Int.tdiv a b))))) = some (a / b) := by
  rw [if_neg (by omega)]
  have hm := Int.emod_nonneg a (show b ≠ 0 by omega)
  have hl := Int.emod_lt_of_pos a hb
  have hd := Int.mul_ediv_add_emod a b
  by_cases h0 : 0 ≤ a
  · rw [tmod_nn h0, tdiv_nn h0, if_neg (by omega)]
    have h1 := Int.ediv_nonneg h0 (Int.le_of_lt hb)
    have h2 := Int.ediv_le_self b h0
    rw [w64 (by omega) (by omega)]
  · have hc : 0 ≤ -a := by omega
    have c0 := Int.ediv_nonneg hc (Int.le_of_lt hb)
    have c1 := Int.ediv_le_self b hc
    have c2 := Int.emod_nonneg (-a) (show b ≠ 0 by omega)
    have c3 := Int.emod_lt_of_pos (-a) hb
    have c4 := Int.mul_ediv_add_emod (-a) b
    rw [tmod_ng (by omega), tdiv_ng (by omega)]
    by_cases hz : (-a) % b = 0
    · rw [if_neg (by omega)]
      have : a / b = -((-a) / b) := (div_parts hb (r := 0) (by rw [Int.mul_neg]; omega) (by omega) hb).1
      rw [this, w64 (by omega) (by omega)]
    · rw [if_pos (by omega)]
      have e : a / b = -((-a) / b) - 1 := (div_parts hb (r := b - (-a) % b) (by rw [Int.mul_sub, Int.mul_neg, Int.mul_one]; omega) (by omega) (by omega)).1
      have hlt : (-a) / b < -a := by
        by_cases hb1 : b = 1
        · subst hb1; simp at hz
        · exact Int.ediv_lt_self_of_pos_of_ne_one (by omega) hb1 |> fun h => h
      rw [e, w64 (n := -((-a) / b)) (by omega) (by omega), w64 (by omega) (by omega)]

theorem wrap_wrap_sub (x : Int) : wrap64 (wrap64 x - 1) = wrap64 (x - 1) := by unfold wrap64; omega
theorem floor_neg {a b : Int} (hb : 0 < b) (h : -4611686018427387904 ≤ a) (h' : a ≤ 4611686018427387904) (hn : Int.tmod a b < 0) : wrap64 (Int.tdiv a b - 1) = a / b := by
  have e := floor_f (a := a) hb (by omega) (by omega)
  rw [if_neg (by omega), if_pos hn, wrap_wrap_sub] at e
  exact Option.some.inj e
theorem floor_pos2 {a b : Int} (hb : 0 < b) (hn : ¬ Int.tmod a b < 0) : Int.tdiv a b = a / b := by
  by_cases h0 : 0 ≤ a
  · exact tdiv_nn h0
  · have c2 := Int.emod_nonneg (-a) (show b ≠ 0 by omega)
    have c4 := Int.mul_ediv_add_emod (-a) b
    rw [tmod_ng (by omega)] at hn
    rw [tdiv_ng (by omega)]
    exact ((div_parts hb (r := 0) (by rw [Int.mul_neg]; omega) (by omega) hb).1).symm
def near (a b : Int) : Int := (2 * a + b) / (2 * b)

theorem div_mono {a b c d : Int} (hb : 0 < b) (hd : 0 < d) (h : a * d ≤ c * b) : a / b ≤ c / d := by
  rw [Int.le_ediv_iff_mul_le hd]
  have h1 : a / b * b ≤ a := Int.ediv_mul_le a (by omega)
  have h2 : a / b * b * d ≤ a * d := Int.mul_le_mul_of_nonneg_right h1 (by omega)
  have h3 : a / b * d * b ≤ c * b := by
    have : a / b * d * b = a / b * b * d := by grind
    omega
  exact Int.le_of_mul_le_mul_right h3 hb

def P (y : Int) : Int := y * (648000 - y)
def Hp (p : Int) : Int := near (16000000 * p) (2099520000000 - 4 * p)
def H (y : Int) : Int := Hp (P y)
def S (x : Int) : Int := if 648000 ≤ x % 1296000 then - H (x % 1296000 - 648000) else H (x % 1296000)
def Co (x : Int) : Int := S (x + 324000)

theorem P_sq (y : Int) : P y = 104976000000 - (y - 324000) * (y - 324000) := by unfold P; grind
theorem sq_nn (z : Int) : 0 ≤ z * z := by
  by_cases h : 0 ≤ z
  · exact Int.mul_nonneg h h
  · have := Int.mul_nonneg (show 0 ≤ -z by omega) (show 0 ≤ -z by omega)
    rwa [Int.neg_mul_neg] at this
theorem P_le (y : Int) : P y ≤ 104976000000 := by rw [P_sq]; have := sq_nn (y - 324000); omega
theorem P_nn {y : Int} (h0 : 0 ≤ y) (h1 : y ≤ 648000) : 0 ≤ P y := Int.mul_nonneg h0 (by omega)
theorem P_sym (y : Int) : P (648000 - y) = P y := by unfold P; grind
theorem P_mono {x y : Int} (h0 : x ≤ y) (h1 : y ≤ 324000) : P x ≤ P y := by
  have : 0 ≤ (y - x) * (648000 - x - y) := Int.mul_nonneg (by omega) (by omega)
  have e : P y - P x = (y - x) * (648000 - x - y) := by unfold P; grind
  omega

theorem Hp_mono {p q : Int} (h0 : 0 ≤ p) (h : p ≤ q) (h1 : q ≤ 104976000000) : Hp p ≤ Hp q := by
  unfold Hp near
  refine div_mono (by omega) (by omega) ?_
  have e : (2 * (16000000 * q) + (2099520000000 - 4 * q)) * (2 * (2099520000000 - 4 * p)) - (2 * (16000000 * p) + (2099520000000 - 4 * p)) * (2 * (2099520000000 - 4 * q)) = 134369280000000000000 * (q - p) := by grind
  omega
theorem Hp_0 : Hp 0 = 0 := by decide
theorem Hp_top : Hp 104976000000 = 1000000 := by decide
theorem H_nn {y : Int} (h0 : 0 ≤ y) (h1 : y ≤ 648000) : 0 ≤ H y := by
  have := Hp_mono (Int.le_refl 0) (P_nn h0 h1) (P_le y); rw [Hp_0] at this; exact this
theorem H_le {y : Int} (h0 : 0 ≤ y) (h1 : y ≤ 648000) : H y ≤ 1000000 := by
  have := Hp_mono (P_nn h0 h1) (P_le y) (Int.le_refl _); rw [Hp_top] at this; exact this
theorem H_mono {x y : Int} (h0 : 0 ≤ x) (h : x ≤ y) (h1 : y ≤ 324000) : H x ≤ H y := Hp_mono (P_nn h0 (by omega)) (P_mono h h1) (P_le y)
theorem H_sym (y : Int) : H (648000 - y) = H y := by unfold H; rw [P_sym]
theorem S_bd (x : Int) : -1000000 ≤ S x ∧ S x ≤ 1000000 := by
  unfold S
  split
  · have a := H_nn (y := x % 1296000 - 648000) (by omega) (by omega)
    have b := H_le (y := x % 1296000 - 648000) (by omega) (by omega)
    omega
  · have a := H_nn (y := x % 1296000) (by omega) (by omega)
    have b := H_le (y := x % 1296000) (by omega) (by omega)
    omega
theorem Co_bd (x : Int) : -1000000 ≤ Co x ∧ Co x ≤ 1000000 := S_bd _
theorem S_half {y : Int} (h0 : 0 ≤ y) (h1 : y ≤ 648000) : S y = H y := by
  unfold S
  by_cases h : y = 648000
  · subst h; decide
  · rw [if_neg (by omega), show y % 1296000 = y by omega]
theorem S_turn (x : Int) : S (x % 1296000) = S x := by unfold S; rw [Int.emod_emod_of_dvd x (Int.dvd_refl 1296000)]
theorem S_cong {x y : Int} (h : x % 1296000 = y % 1296000) : S x = S y := by unfold S; rw [h]
theorem S_mono {x y : Int} (h0 : 0 ≤ x) (h : x ≤ y) (h1 : y ≤ 324000) : S x ≤ S y := by
  rw [S_half h0 (by omega), S_half (by omega) (by omega)]; exact H_mono h0 h h1
theorem S_q : S 324000 = 1000000 := by decide
theorem S_sup (x : Int) : S (648000 - x) = S x := by
  unfold S
  by_cases h : 648000 ≤ x % 1296000
  · rw [if_pos h]
    by_cases h2 : x % 1296000 = 648000
    · rw [show (648000 - x) % 1296000 = 0 by omega, if_neg (by omega), h2]; decide
    · rw [if_pos (by omega), show (648000 - x) % 1296000 - 648000 = 648000 - (x % 1296000 - 648000) by omega, H_sym]
  · rw [if_neg h]
    by_cases h2 : x % 1296000 = 0
    · rw [show (648000 - x) % 1296000 = 648000 by omega, if_pos (by omega), h2]; decide
    · rw [if_neg (by omega), show (648000 - x) % 1296000 = 648000 - (x % 1296000) by omega, H_sym]
theorem Co_neg (x : Int) : Co (-x) = Co x := by
  unfold Co
  rw [← S_sup (x + 324000)]; congr 1; omega

/-- The least angle from 0 to a quarter turn whose sine is at least s. -/
structure IsArc (s r : Int) : Prop where
  lo : 0 ≤ r
  hi : r ≤ 324000
  at_ : s ≤ S r
  least : ∀ y, 0 ≤ y → y < r → S y < s
theorem IsArc.uniq {s r t : Int} (h : IsArc s r) (k : IsArc s t) : r = t := by
  by_cases a : r < t
  · have := k.least r h.lo a; have := h.at_; omega
  · by_cases b : t < r
    · have := h.least t k.lo b; have := k.at_; omega
    · omega
noncomputable def Ar (s : Int) : Int := Classical.epsilon (IsArc s)
theorem IsArc.eq {s r : Int} (h : IsArc s r) : Ar s = r := (Classical.epsilon_spec (p := IsArc s) ⟨r, h⟩).uniq h

theorem tmod_T (x : Int) : Int.tmod x 1296000 = if 0 ≤ x then x % 1296000 else -((-x) % 1296000) := by
  split
  · exact tmod_nn ‹_›
  · exact tmod_ng (by omega)
/-- Go's '(x % T + T) % T'. -/
theorem around_f {x : Int} : Int.tmod (wrap64 ((Int.tmod x 1296000) + 1296000)) 1296000 = x % 1296000 := by
  rw [tmod_T x]
  split
  · rw [w64 (by omega) (by omega), tmod_nn (by omega)]; omega
  · rw [w64 (by omega) (by omega), tmod_nn (by omega)]; omega
abbrev sOk (a b : Int) : Prop := (-324000 ≤ a ∧ a ≤ 324000) ∧ (-648000 ≤ b ∧ b ≤ 647999)
/-- A product of bounded numbers is bounded. -/
theorem mul_bd {x y X Y : Int} (hx : -X ≤ x ∧ x ≤ X) (hy : -Y ≤ y ∧ y ≤ Y) : -(X * Y) ≤ x * y ∧ x * y ≤ X * Y := by
  have a := Int.mul_nonneg (show 0 ≤ X - x by omega) (show 0 ≤ Y - y by omega)
  have b := Int.mul_nonneg (show 0 ≤ X + x by omega) (show 0 ≤ Y + y by omega)
  have c := Int.mul_nonneg (show 0 ≤ X - x by omega) (show 0 ≤ Y + y by omega)
  have d := Int.mul_nonneg (show 0 ≤ X + x by omega) (show 0 ≤ Y - y by omega)
  constructor <;> grind
end Go.Proofs.Ytkfbbaaniglaeaa.Mth
end
section
namespace Go.Proofs.Ytkfbbaaniglaeaa.Con
open Go.RowKit Go.Proofs.YtkfbbaaniglaeaaW.PrintWords Go.Proofs.YtkfbbaaniglaeaaW.PrintLast Go.Proofs.YtkfbbaaniglaeaaW.PrintMore Go.Proofs.Ytkfbbaaniglaeaa.Mth
attribute [local go_sem] max2_int min2_int max_two min_two max_three min_three
set_option linter.unusedVariables false
set_option linter.unusedSimpArgs false
theorem ret_int {k : IntKind} {a b : Int} (h : a = b) : Ending.returned (.int k a) = .returned (.int k b) := by rw [h]
theorem quiet0 {P : Program} {f : FuncId} {args : Array Value} {w : World} {n : Nat} {v : Value}
    (h : Calls P f args (w.drewN n) fun e w' => e = .returned v ∧ Drawn0 (w.drewN n) w') : Calls P f args (w.drewN n) fun e w'' => e = .returned v ∧ ∃ m, w'' = w.drewN m :=
  Calls.quiet_of (h.mono fun _ _ ⟨he, ⟨hm⟩⟩ => ⟨he, hm⟩)
theorem pair_eq {a b : Int} {p : Int × Int} (h : p = (a, b)) : Ending.returned (.tuple #[.int .i64 a, .int .i64 b]) = .returned (.tuple #[.int .i64 p.1, .int .i64 p.2]) := by rw [h]
theorem dec (p : Prop) [Decidable p] : (p ∧ Aside0 (decide p = true)) ∨ (¬ p ∧ Aside0 (decide p = false)) := by
  by_cases h : p
  · exact Or.inl ⟨h, Aside0.mk (decide_eq_true h)⟩
  · exact Or.inr ⟨h, Aside0.mk (decide_eq_false h)⟩
theorem impl_within_c (a b c : Int) (w : World) : Calls Try.prog 136 #[.int .i64 a, .int .i64 b, .int .i64 c] w fun e w' => e = .returned (.bool (decide (b ≤ a ∧ a ≤ c))) ∧ Drawn0 w w' := by
  by_cases h : b ≤ a
  all_goals
    go_enter Try.func136, Try.ntmps136
    go_wp2
    go_ret
    exact ⟨by simp; omega, Drawn0.refl _⟩
theorem impl_within_d {a b c : Int} {r : Bool} (w : World) (hr : decide (b ≤ a ∧ a ≤ c) = r) : Calls Try.prog 136 #[.int .i64 a, .int .i64 b, .int .i64 c] w fun e w' => e = .returned (.bool (r)) ∧ Drawn0 w w' := by
  subst hr; exact impl_within_c a b c w
theorem spec_l00In_c (a b c : Int) (w : World) : Calls Try.prog 144 #[.int .i64 a, .int .i64 b, .int .i64 c] w fun e w' => e = .returned (.bool (decide (b ≤ a ∧ a ≤ c))) ∧ Drawn0 w w' := by
  by_cases h : b ≤ a
  all_goals
    go_enter Try.func144, Try.ntmps144
    go_wp2
    go_ret
    exact ⟨by simp; omega, Drawn0.refl _⟩
theorem spec_l00In_d {a b c : Int} {r : Bool} (w : World) (hr : decide (b ≤ a ∧ a ≤ c) = r) : Calls Try.prog 144 #[.int .i64 a, .int .i64 b, .int .i64 c] w fun e w' => e = .returned (.bool (r)) ∧ Drawn0 w w' := by
  subst hr; exact spec_l00In_c a b c w
theorem impl_floorDiv_c {a b : Int} (w : World) (hb : 0 < b) (h0 : -4611686018427387904 ≤ a) (h1 : a ≤ 4611686018427387904) : Calls Try.prog 172 #[.int .i64 a, .int .i64 b] w fun e w' => e = .returned (.int .i64 (a / b)) ∧ Drawn0 w w' := by
  have hz : (b == 0) = false := by simp; omega
  by_cases h : Int.tmod a b < 0
  · have hf := Aside0.mk (floor_neg hb h0 h1 h)
    go_enter Try.func172, Try.ntmps172
    go_wp2
    go_ret
    exact ⟨ret_int hf.out, Drawn0.refl _⟩
  · have hf := Aside0.mk (floor_pos2 hb h)
    go_enter Try.func172, Try.ntmps172
    go_wp2
    go_ret
    exact ⟨ret_int hf.out, Drawn0.refl _⟩
theorem spec_l00Floor_c {a b : Int} (w : World) (hb : 0 < b) (h0 : -4611686018427387904 ≤ a) (h1 : a ≤ 4611686018427387904) : Calls Try.prog 197 #[.int .i64 a, .int .i64 b] w fun e w' => e = .returned (.int .i64 (a / b)) ∧ Drawn0 w w' := by
  have hz : (b == 0) = false := by simp; omega
  by_cases h : Int.tmod a b < 0
  · have hf := Aside0.mk (floor_neg hb h0 h1 h)
    go_enter Try.func197, Try.ntmps197
    go_wp2
    go_ret
    exact ⟨ret_int hf.out, Drawn0.refl _⟩
  · have hf := Aside0.mk (floor_pos2 hb h)
    go_enter Try.func197, Try.ntmps197
    go_wp2
    go_ret
    exact ⟨ret_int hf.out, Drawn0.refl _⟩
theorem impl_nearest_c {a b : Int} (w : World) (hb : 0 < b) (hb' : b ≤ 1000000000000000000) (h0 : -2000000000000000000 ≤ a) (h1 : a ≤ 1700000000000000000) : Calls Try.prog 185 #[.int .i64 a, .int .i64 b] w fun e w' => e = .returned (.int .i64 (near a b)) ∧ Drawn0 w w' := by
  go_enter Try.func185, Try.ntmps185
  go_wp2_with (go_at_call 172; refine (impl_floorDiv_c _ (by omega) (by omega) (by omega)).mono ?_; rintro e w' ⟨rfl, ⟨nd, rfl⟩⟩)
  go_ret
  exact ⟨rfl, by repeat (first | exact Drawn0.refl _ | apply Drawn0.step)⟩
theorem spec_l00Round_c {a b : Int} (w : World) (hb : 0 < b) (hb' : b ≤ 1000000000000000000) (h0 : -2000000000000000000 ≤ a) (h1 : a ≤ 1700000000000000000) : Calls Try.prog 187 #[.int .i64 a, .int .i64 b] w fun e w' => e = .returned (.int .i64 (near a b)) ∧ Drawn0 w w' := by
  go_enter Try.func187, Try.ntmps187
  go_wp2_with (go_at_call 197; refine (spec_l00Floor_c _ (by omega) (by omega) (by omega)).mono ?_; rintro e w' ⟨rfl, ⟨nd, rfl⟩⟩)
  go_ret
  exact ⟨rfl, by repeat (first | exact Drawn0.refl _ | apply Drawn0.step)⟩
theorem impl_around_c {a : Int} (w : World) : Calls Try.prog 178 #[.int .i64 a] w fun e w' => e = .returned (.int .i64 (a % 1296000)) ∧ Drawn0 w w' := by
  go_enter Try.func178, Try.ntmps178
  go_wp2
  go_ret
  exact ⟨by simp [around_f], Drawn0.refl _⟩
theorem impl_sine_half_c {y : Int} (w : World) (h0 : 0 ≤ y) (h1 : y < 648000) : Calls Try.prog 198 #[.int .i64 y] w fun e w' => e = .returned (.int .i64 (H y)) ∧ Drawn0 w w' := by
  have m0 : 0 ≤ y * (648000 - y) := P_nn h0 (by omega)
  have m1 : y * (648000 - y) ≤ 104976000000 := P_le y
  go_enter Try.func198, Try.ntmps198
  go_wp2_with (first | (go_at_call 178; refine (impl_around_c _).mono ?_; rintro e w' ⟨rfl, ⟨nd, rfl⟩⟩; rw [show y % 1296000 = y by omega]) | (go_at_call 185; (with_reducible refine (impl_nearest_c _ (by omega) (by omega) (by omega) (by omega)).mono ?_); rintro e w' ⟨rfl, ⟨nd, rfl⟩⟩))
  go_ret
  exact ⟨rfl, by repeat (first | exact Drawn0.refl _ | apply Drawn0.step)⟩
theorem impl_sine_c {x : Int} (w : World) : Calls Try.prog 198 #[.int .i64 x] w fun e w' => e = .returned (.int .i64 (S x)) ∧ Drawn0 w w' := by
  by_cases h : 648000 ≤ x % 1296000
  · have a := H_nn (y := x % 1296000 - 648000) (by omega) (by omega)
    have b := H_le (y := x % 1296000 - 648000) (by omega) (by omega)
    have c : x % 1296000 < 1296000 := by omega
    have f := Aside0.mk (show S x = -H (x % 1296000 - 648000) from if_pos h)
    go_enter Try.func198, Try.ntmps198
    go_wp2_with (first | (go_at_call 178; (with_reducible refine (impl_around_c _).mono ?_); rintro e w' ⟨rfl, ⟨nd, rfl⟩⟩) | (go_at_call 198; (with_reducible refine (impl_sine_half_c _ (by omega) (by omega)).mono ?_); rintro e w' ⟨rfl, ⟨nd, rfl⟩⟩))
    go_ret
    exact ⟨ret_int f.out.symm, by repeat (first | exact Drawn0.refl _ | apply Drawn0.step)⟩
  · have c : 0 ≤ x % 1296000 := by omega
    have h' : x % 1296000 < 648000 := by omega
    have m0 : 0 ≤ x % 1296000 * (648000 - x % 1296000) := P_nn c (by omega)
    have m1 : x % 1296000 * (648000 - x % 1296000) ≤ 104976000000 := P_le _
    have f := Aside0.mk (show S x = H (x % 1296000) from if_neg h)
    go_enter Try.func198, Try.ntmps198
    go_wp2_with (first | (go_at_call 178; (with_reducible refine (impl_around_c _).mono ?_); rintro e w' ⟨rfl, ⟨nd, rfl⟩⟩) | (go_at_call 185; (with_reducible refine (impl_nearest_c _ (by omega) (by omega) (by omega) (by omega)).mono ?_); rintro e w' ⟨rfl, ⟨nd, rfl⟩⟩))
    go_ret
    exact ⟨ret_int f.out.symm, by repeat (first | exact Drawn0.refl _ | apply Drawn0.step)⟩
theorem impl_cosine_c {x : Int} (w : World) (h : -4000000000000000000 ≤ x) (h' : x ≤ 4000000000000000000) : Calls Try.prog 190 #[.int .i64 x] w fun e w' => e = .returned (.int .i64 (Co x)) ∧ Drawn0 w w' := by
  go_enter Try.func190, Try.ntmps190
  go_wp2_with (first | (go_at_call 198; (with_reducible refine (impl_sine_c _).mono ?_); rintro e w' ⟨rfl, ⟨nd, rfl⟩⟩))
  go_ret
  exact ⟨rfl, by repeat (first | exact Drawn0.refl _ | apply Drawn0.step)⟩
theorem spec_l03Sine_half_c {y : Int} (w : World) (h0 : 0 ≤ y) (h1 : y ≤ 648000) : Calls Try.prog 195 #[.int .i64 y] w fun e w' => e = .returned (.int .i64 (H y)) ∧ Drawn0 w w' := by
  have m0 : 0 ≤ y * (648000 - y) := P_nn h0 (by omega)
  have m1 : y * (648000 - y) ≤ 104976000000 := P_le y
  have e := Aside0.mk (show near (16 * (y * (648000 - y)) * 1000000) (2099520000000 - 4 * (y * (648000 - y))) = H y by unfold H Hp P; congr 1; omega)
  have q : y % 1296000 = y := by omega
  go_enter Try.func195, Try.ntmps195
  go_wp2_with (first | (go_at_call 187; (with_reducible refine (spec_l00Round_c _ (by omega) (by omega) (by omega) (by omega)).mono ?_); rintro e w' ⟨rfl, ⟨nd, rfl⟩⟩))
  go_ret
  exact ⟨ret_int e.out, by repeat (first | exact Drawn0.refl _ | apply Drawn0.step)⟩
theorem l03_e (y : Int) : near (16 * (y * (648000 - y)) * 1000000) (2099520000000 - 4 * (y * (648000 - y))) = H y := by unfold H Hp P; congr 1; omega
theorem spec_l03Sine_c {x : Int} (w : World) : Calls Try.prog 195 #[.int .i64 x] w fun e w' => e = .returned (.int .i64 (S x)) ∧ Drawn0 w w' := by
  by_cases hx : 0 ≤ x
  · by_cases h : 648000 < x % 1296000
    · have a := H_nn (y := x % 1296000 - 648000) (by omega) (by omega)
      have b := H_le (y := x % 1296000 - 648000) (by omega) (by omega)
      have c : x % 1296000 < 1296000 := by omega
      have f := Aside0.mk (show S x = -H (x % 1296000 - 648000) from if_pos (by omega))
      go_enter Try.func195, Try.ntmps195
      go_wp2_with (first | (go_at_call 195; (with_reducible refine (spec_l03Sine_half_c _ (by omega) (by omega)).mono ?_); rintro e w' ⟨rfl, ⟨nd, rfl⟩⟩))
      go_ret
      exact ⟨ret_int f.out.symm, by repeat (first | exact Drawn0.refl _ | apply Drawn0.step)⟩
    · have c : 0 ≤ x % 1296000 := by omega
      have h' : x % 1296000 ≤ 648000 := by omega
      have m0 : 0 ≤ x % 1296000 * (648000 - x % 1296000) := P_nn c (by omega)
      have m1 : x % 1296000 * (648000 - x % 1296000) ≤ 104976000000 := P_le _
      have f := Aside0.mk (show near (16 * (x % 1296000 * (648000 - x % 1296000)) * 1000000) (2099520000000 - 4 * (x % 1296000 * (648000 - x % 1296000))) = S x by rw [l03_e, ← S_half c h', S_turn])
      go_enter Try.func195, Try.ntmps195
      go_wp2_with (first | (go_at_call 187; (with_reducible refine (spec_l00Round_c _ (by omega) (by omega) (by omega) (by omega)).mono ?_); rintro e w' ⟨rfl, ⟨nd, rfl⟩⟩))
      go_ret
      exact ⟨ret_int f.out, by repeat (first | exact Drawn0.refl _ | apply Drawn0.step)⟩
  · have ht := tmod_T x
    rw [if_neg hx] at ht
    have t0 : -1296000 < Int.tmod x 1296000 := by omega
    have t1 : Int.tmod x 1296000 ≤ 0 := by omega
    have hc : S (Int.tmod x 1296000) = S x := S_cong (by omega)
    have hc2 : S (Int.tmod x 1296000 + 1296000) = S x := S_cong (by omega)
    clear ht
    generalize ht : Int.tmod x 1296000 = t at t0 t1 hc hc2
    have hc := Aside0.mk hc
    have hc2 := Aside0.mk hc2
    have hz : (x.tmod 1296000) = t := ht
    by_cases h0 : t < 0
    · by_cases h : 648000 < t + 1296000
      · have a := H_nn (y := t + 1296000 - 648000) (by omega) (by omega)
        have b := H_le (y := t + 1296000 - 648000) (by omega) (by omega)
        have f := Aside0.mk (show -H (t + 1296000 - 648000) = S x by rw [← hc2.out]; unfold S; rw [if_pos (by omega)]; congr 2; omega)
        have a' : 0 ≤ H (t + 648000) := by rw [show t + 648000 = t + 1296000 - 648000 by omega]; exact a
        have b' : H (t + 648000) ≤ 1000000 := by rw [show t + 648000 = t + 1296000 - 648000 by omega]; exact b
        go_enter Try.func195, Try.ntmps195
        go_wp2_with (first | (go_at_call 195; (with_reducible refine (spec_l03Sine_half_c _ (by omega) (by omega)).mono ?_); rintro e w' ⟨rfl, ⟨nd, rfl⟩⟩))
        go_ret
        exact ⟨ret_int (by rw [← f.out]), by repeat (first | exact Drawn0.refl _ | apply Drawn0.step)⟩
      · have m0 : 0 ≤ (t + 1296000) * (648000 - (t + 1296000)) := P_nn (by omega) (by omega)
        have m1 : (t + 1296000) * (648000 - (t + 1296000)) ≤ 104976000000 := P_le _
        have f := Aside0.mk (show near (16 * ((t + 1296000) * (648000 - (t + 1296000))) * 1000000) (2099520000000 - 4 * ((t + 1296000) * (648000 - (t + 1296000)))) = S x by rw [l03_e, ← S_half (by omega) (by omega), hc2.out])
        go_enter Try.func195, Try.ntmps195
        go_wp2_with (first | (go_at_call 187; (with_reducible refine (spec_l00Round_c _ (by omega) (by omega) (by omega) (by omega)).mono ?_); rintro e w' ⟨rfl, ⟨nd, rfl⟩⟩))
        go_ret
        exact ⟨ret_int f.out, by repeat (first | exact Drawn0.refl _ | apply Drawn0.step)⟩
    · have h1 : t = 0 := by omega
      subst h1
      have f := Aside0.mk (show near 0 2099520000000 = S x by rw [← hc.out]; decide)
      go_enter Try.func195, Try.ntmps195
      go_wp2_with (first | (go_at_call 187; (with_reducible refine (spec_l00Round_c _ (by omega) (by omega) (by omega) (by omega)).mono ?_); rintro e w' ⟨rfl, ⟨nd, rfl⟩⟩))
      go_ret
      exact ⟨ret_int f.out, by repeat (first | exact Drawn0.refl _ | apply Drawn0.step)⟩
theorem spec_l03Cosine_c {x : Int} (w : World) (h : -4000000000000000000 ≤ x) (h' : x ≤ 4000000000000000000) : Calls Try.prog 188 #[.int .i64 x] w fun e w' => e = .returned (.int .i64 (Co x)) ∧ Drawn0 w w' := by
  go_enter Try.func188, Try.ntmps188
  go_wp2_with (first | (go_at_call 195; (with_reducible refine (spec_l03Sine_c _).mono ?_); rintro e w' ⟨rfl, ⟨nd, rfl⟩⟩))
  go_ret
  exact ⟨rfl, by repeat (first | exact Drawn0.refl _ | apply Drawn0.step)⟩
end Go.Proofs.Ytkfbbaaniglaeaa.Con
end
section
namespace Go.Proofs.Ytkfbbaaniglaeaa.Con
open Go.RowKit Go.Proofs.YtkfbbaaniglaeaaW.PrintWords Go.Proofs.YtkfbbaaniglaeaaW.PrintLast Go.Proofs.YtkfbbaaniglaeaaW.PrintMore Go.Proofs.Ytkfbbaaniglaeaa.Mth
attribute [local go_sem] max2_int min2_int max_two min_two max_three min_three
set_option linter.unusedVariables false
set_option linter.unusedSimpArgs false
theorem and255 {X : Int} (h0 : 0 ≤ X) (h1 : X < 18446744073709551616) : 0 ≤ Go.bits .and .u64 X 255 ∧ Go.bits .and .u64 X 255 ≤ 255 := by
  obtain ⟨a, rfl⟩ := Int.eq_ofNat_of_zero_le h0
  have e := bits_and_u64_nat a 255 (by omega) (by omega)
  have l : a &&& 255 ≤ 255 := Nat.and_le_right
  have e2 : Go.bits .and .u64 (a : Int) 255 = ((a &&& 255 : Nat) : Int) := e
  rw [e2]; omega
/-- A good source at block g: its bytes lie as they did in w0, it has been asked at most m times. -/
def Src (w0 W : World) (g : Nat) (m : Int) : Prop := ∃ (A : Option Addr) (n c : Nat) (a sd : Int) (xs : List Int),
  W.heap[g]? = some (.cells #[.slice A n c, .int .i64 a, .int .u64 sd] 115 (0, 0)) ∧ w0.heap.size ≤ g ∧ Below w0.heap.size w0 W ∧ 0 ≤ a ∧ a ≤ m ∧ n ≤ 5000 ∧ ReadsInt w0 .u8 A n xs ∧ (∀ x ∈ xs, 0 ≤ x ∧ x ≤ 255)
def DrawP (w0 W : World) (g : Nat) (m lo hi : Int) (e : Ending) (W' : World) : Prop := ∃ r : Int, lo ≤ r ∧ r ≤ hi ∧ e = .returned (.int .i64 r) ∧ Src w0 W' g m ∧ KeepBut W W' g none
theorem Src.lt {w0 W : World} {g : Nat} {m : Int} (h : Src w0 W g m) : g < W.heap.size := by
  obtain ⟨A, n, c, a, sd, xs, hG, _⟩ := h; exact blk_lt hG
theorem Src.below {w0 W : World} {g : Nat} {m : Int} (h : Src w0 W g m) : Below w0.heap.size w0 W := by
  obtain ⟨A, n, c, a, sd, xs, hG, _, hB, _⟩ := h; exact hB
theorem Src.step {w0 W W' : World} {g : Nat} {m : Int} (h : Src w0 W g m) (hb : Below W.heap.size W W') : Src w0 W' g m := by
  obtain ⟨A, n, c, a, sd, xs, hG, hge, hB, r⟩ := h
  exact ⟨A, n, c, a, sd, xs, blk_below hG hb, hge, hB.trans (hb.mono hB.size), r⟩
theorem Src.le {w0 W : World} {g : Nat} {m m' : Int} (h : Src w0 W g m) (hm : m ≤ m') : Src w0 W g m' := by
  obtain ⟨A, n, c, a, sd, xs, hG, hge, hB, a0, a1, r⟩ := h
  exact ⟨A, n, c, a, sd, xs, hG, hge, hB, a0, by omega, r⟩
theorem Src.new (w : World) (A : Option Addr) (n c : Nat) (xs : List Int) (hn : n ≤ 5000) (hr : ReadsInt w .u8 A n xs) (hx : ∀ x ∈ xs, 0 ≤ x ∧ x ≤ 255) : Src w (w.alloc (.cells #[.slice A n c, .int .i64 0, .int .u64 0] 115 (0, 0))) w.heap.size 0 :=
  ⟨A, n, c, 0, 0, xs, blk_new w _, Nat.le_refl _, below_alloc (Below.refl _ _) _, by omega, by omega, hn, hr, hx⟩
theorem seed_bd (X : Int) : 0 ≤ wrap64 (Go.bits .and .u64 (IntKind.u64.wrap X / 1099511627776) 255) ∧ wrap64 (Go.bits .and .u64 (IntKind.u64.wrap X / 1099511627776) 255) ≤ 255 := by
  have h : 0 ≤ IntKind.u64.wrap X ∧ IntKind.u64.wrap X < 18446744073709551616 := by rw [IntKind.wrap_u64]; omega
  obtain ⟨a, b⟩ := and255 (X := IntKind.u64.wrap X / 1099511627776) (by omega) (by omega)
  rw [w64 (by omega) (by omega)]
  exact ⟨a, b⟩
def DrawB (w0 W : World) (g : Nat) (m : Int) (e : Ending) (W' : World) : Prop := ∃ r : Bool, e = .returned (.bool r) ∧ Src w0 W' g m ∧ KeepBut W W' g none
def DrawA (w0 W : World) (g : Nat) (m : Int) (xs : List Int) (e : Ending) (W' : World) : Prop := ∃ r : Int, r ∈ xs ∧ e = .returned (.int .i64 r) ∧ Src w0 W' g m ∧ KeepBut W W' g none
def DrawS (w0 W : World) (g : Nat) (m : Int) (e : Ending) (W' : World) : Prop := ∃ a b : Int, sOk a b ∧ e = .returned (.agg #[.int .i64 a, .int .i64 b]) ∧ Src w0 W' g m ∧ KeepBut W W' g none
def SpotB (w : World) (e : Ending) (w' : World) : Prop := ∃ a b : Int, sOk a b ∧ e = .returned (.agg #[.int .i64 a, .int .i64 b]) ∧ Below w.heap.size w w'
theorem add_blk (a : Addr) (i : Nat) : (a.add i).block = a.block := by unfold Addr.add; split <;> rfl
theorem reads_lit (w : World) (e : TypeId) (xs : List Int) (hx : xs.length ≤ 1000) : ReadsInt (w.alloc (.cells (xs.map (Value.int .i64)).toArray e (0, 0))) .i64 (some ⟨w.heap.size, 0, none⟩) xs.length xs :=
  ⟨rfl, by omega, fun _ => ⟨_, rfl, fun j hj => by
    rw [add_plain, blk_cell (blk_new w _) j]
    simp [List.getD_eq_getElem?_getD, List.getElem?_eq_getElem hj]⟩⟩
theorem Src.far {w0 W : World} {g : Nat} {m : Int} (h : Src w0 W g m) {p : Addr} (hp : g ≠ p.block) (hw : w0.heap.size ≤ p.block) (u : Value) : Src w0 (W.setCell p u) g m := by
  obtain ⟨A, n, c, a, sd, xs, hG, hge, hB, r⟩ := h
  exact ⟨A, n, c, a, sd, xs, blk_far hG hp u, hge, hB.setCell hw u, r⟩
theorem keep_far {W X : World} {g : Nat} (h : KeepBut W X g none) {p : Addr} (hp : W.heap.size ≤ p.block) (u : Value) : KeepBut W (X.setCell p u) g none :=
  ⟨by simpa [World.setCell] using h.1, fun i hi hg hr => (Below.heap_setCell X p u i (by omega)).trans (h.2 i hi hg hr)⟩
theorem keep_from {W X : World} {g : Nat} {o : Obj} (h : KeepBut (W.alloc o) X g none) : KeepBut W X g none := (keep_alloc (KeepBut.refl W g none) o).trans h (.inl rfl)
theorem Src.size {w0 W : World} {g : Nat} {m : Int} (h : Src w0 W g m) : w0.heap.size ≤ W.heap.size := h.below.size
theorem next_c {w0 W : World} {g : Nat} {m : Int} (h : Src w0 W g m) (hm : m ≤ 1000000) : Calls Try.prog 191 #[.pointer (some ⟨g, 0, none⟩)] W (DrawP w0 W g (m + 1) 0 255) := by
  obtain ⟨A, n, c, a, sd, xs, hG, hge, hB, a0, a1, hn, hr, hx⟩ := h
  have c0 := (blk_cell hG 0).trans (by rfl : _ = some (Value.slice A n c))
  have c1 := (blk_cell hG 1).trans (by rfl : _ = some (Value.int .i64 a))
  have c2 := (blk_cell hG 2).trans (by rfl : _ = some (Value.int .u64 sd))
  have f1 := blk_frozen hG 1
  have f2 := blk_frozen hG 2
  have hl := hr.1
  by_cases hlt : a < (n : Int)
  · obtain ⟨ad, rfl, hc⟩ := hr.at_ a a0 hlt
    have hxa : 0 ≤ rd xs a ∧ rd xs a ≤ 255 := by
      have hi : a.toNat < xs.length := by omega
      have : rd xs a = xs[a.toNat] := by unfold rd; rw [List.getD_eq_getElem?_getD, List.getElem?_eq_getElem hi]; rfl
      rw [this]; exact hx _ (List.getElem_mem hi)
    obtain ⟨x0, x1⟩ := hxa
    have hcW : W.cell? (ad.add a.toNat) = some (.int .u8 (rd xs a)) := (hB.cell (World.block_lt_of_cell? w0 _ hc)).trans hc
    have hG := Aside0.mk hG
    have hB := Aside0.mk hB
    have hr := Aside0.mk hr
    have hx := Aside0.mk hx
    have hl := Aside0.mk hl
    have hle : a + 1 ≤ (n : Int) := by omega
    clear hc
    go_enter Try.func191, Try.ntmps191
    go_wp2
    repeat (go_quiet (fail); try go_wp2)
    go_ret
    exact ⟨_, x0, x1, rfl, ⟨some ad, n, c, a + 1, _, xs, by exact blk_put (blk_put (blk_drewN hG.out _) 1 _ rfl) 2 _ rfl, hge, by repeat (first | exact hB.out | apply pw_below_drewN | (refine Below.setCell ?_ (by exact hge) _)), by omega, by omega, hn, hr.out, hx.out⟩, by repeat (first | exact KeepBut.refl _ _ _ | apply KeepBut.set_ | apply keep_drewN)⟩
  · have hG := Aside0.mk hG
    have hB := Aside0.mk hB
    have hr := Aside0.mk hr
    have hx := Aside0.mk hx
    have hl := Aside0.mk hl
    have hle : ¬ a + 1 ≤ (n : Int) := by omega
    go_enter Try.func191, Try.ntmps191
    go_wp2
    repeat (go_quiet (fail); try go_wp2)
    go_ret
    exact ⟨_, (seed_bd _).1, (seed_bd _).2, rfl, ⟨A, n, c, a + 1, _, xs, by exact blk_drewN (blk_put (blk_put (blk_drewN hG.out _) 1 _ rfl) 2 _ rfl) _, hge, by repeat (first | exact hB.out | apply pw_below_drewN | (refine Below.setCell ?_ (by exact hge) _)), by omega, by omega, hn, hr.out, hx.out⟩, by repeat (first | exact KeepBut.refl _ _ _ | apply KeepBut.set_ | apply keep_drewN)⟩
theorem pick_c {w0 W : World} {g : Nat} {m n hi : Int} (h : Src w0 W g m) (hm : m ≤ 900000) (h0 : 0 ≤ hi) (hn : n ≤ hi + 1) (h1 : n ≤ 70000) : Calls Try.prog 166 #[.pointer (some ⟨g, 0, none⟩), .int .i64 n] W (DrawP w0 W g (m + 2) 0 hi) := by
  have h := Aside0.mk h
  by_cases z : n ≤ 1
  · go_enter Try.func166, Try.ntmps166
    go_wp2
    go_ret
    exact ⟨0, by omega, h0, rfl, h.out.le (by omega), KeepBut.refl _ _ _⟩
  · have hz : (n == 0) = false := by simp; omega
    by_cases y : 200 < n
    · go_enter Try.func166, Try.ntmps166
      go_wp2_with (fail)
      refine (next_c h.out (by omega)).mono ?_
      rintro e W1 ⟨x, x0, x1, rfl, k1, kb1⟩
      have k1 := Aside0.mk k1
      have kb1 := Aside0.mk kb1
      go_wp2_with (fail)
      refine (next_c (by first | exact k1.out | exact k1.out.drewN _) (by omega)).mono ?_
      rintro e W2 ⟨v, v0, v1, rfl, k2, kb2⟩
      have k2 := Aside0.mk k2
      have kb2 := Aside0.mk kb2
      have q0 := Int.emod_nonneg (x * 256 + v) (show n ≠ 0 by omega)
      have q1 := Int.emod_lt_of_pos (x * 256 + v) (show 0 < n by omega)
      go_wp2
      go_ret
      exact ⟨_, q0, by omega, rfl, by first | exact k2.out.le (by omega) | exact (k2.out.drewN _).le (by omega), by first | exact kb1.out.trans kb2.out (.inl rfl) | exact keep_drewN (kb1.out.trans kb2.out (.inl rfl)) _⟩
    · go_enter Try.func166, Try.ntmps166
      go_wp2_with (fail)
      refine (next_c h.out (by omega)).mono ?_
      rintro e W1 ⟨x, x0, x1, rfl, k1, kb1⟩
      have k1 := Aside0.mk k1
      have kb1 := Aside0.mk kb1
      have q0 := Int.emod_nonneg x (show n ≠ 0 by omega)
      have q1 := Int.emod_lt_of_pos x (show 0 < n by omega)
      go_wp2
      go_ret
      exact ⟨_, q0, by omega, rfl, by first | exact k1.out.le (by omega) | exact (k1.out.drewN _).le (by omega), by first | exact kb1.out | exact keep_drewN kb1.out _⟩
theorem one_c {w0 W : World} {g : Nat} {m n : Int} (h : Src w0 W g m) (hm : m ≤ 900000) (h1 : n ≤ 70000) : Calls Try.prog 167 #[.pointer (some ⟨g, 0, none⟩), .int .i64 n] W (DrawB w0 W g (m + 2)) := by
  have h := Aside0.mk h
  go_enter Try.func167, Try.ntmps167
  go_wp2_with (fail)
  refine (pick_c (hi := 70000) h.out hm (by omega) (by omega) h1).mono ?_
  rintro e W1 ⟨x, x0, x1, rfl, k1, kb1⟩
  have k1 := Aside0.mk k1
  have kb1 := Aside0.mk kb1
  go_wp2
  go_ret
  exact ⟨_, rfl, by first | exact k1.out | exact k1.out.drewN _, by first | exact kb1.out | exact keep_drewN kb1.out _⟩
theorem among_c {w0 W : World} {g : Nat} {m : Int} {A : Addr} {n c : Nat} {xs : List Int} (h : Src w0 W g m) (hm : m ≤ 900000) (hr : ReadsInt W .i64 (some A) n xs) (h1 : 1 ≤ n) (h2 : n ≤ 70000) (h3 : n ≤ c) (ne : A.block ≠ g) : Calls Try.prog 169 #[.pointer (some ⟨g, 0, none⟩), .slice (some A) n c] W (DrawA w0 W g (m + 2) xs) := by
  have h := Aside0.mk h
  have hr := Aside0.mk hr
  have ne := Aside0.mk ne
  go_enter Try.func169, Try.ntmps169
  go_wp2_with (fail)
  refine (pick_c (hi := (n : Int) - 1) h.out hm (by omega) (by omega) (by omega)).mono ?_
  rintro e W1 ⟨x, x0, x1, rfl, k1, kb1⟩
  obtain ⟨ad, e1, hc⟩ := hr.out.at_ x x0 (by omega)
  injection e1 with e1
  subst e1
  have hc1 := keep_cell kb1 hc (by rw [add_blk]; exact ne.out)
  have hx : rd xs x ∈ xs := by
    have hl := hr.out.1
    have hi : x.toNat < xs.length := by omega
    have : rd xs x = xs[x.toNat] := by unfold rd; rw [List.getD_eq_getElem?_getD, List.getElem?_eq_getElem hi]; rfl
    rw [this]; exact List.getElem_mem hi
  have hx := Aside0.mk hx
  have k1 := Aside0.mk k1
  have kb1 := Aside0.mk kb1
  have x2 : x < n := by omega
  clear hc
  go_wp2
  go_ret
  exact ⟨_, hx.out, rfl, by first | exact k1.out | exact k1.out.drewN _, by first | exact kb1.out | exact keep_drewN kb1.out _⟩
theorem from_c {A : Option Addr} {n c : Nat} (w : World) : Calls Try.prog 130 #[.slice A n c] w fun e w' => e = .returned (.pointer (some ⟨w.heap.size, 0, none⟩)) ∧ w' = w.alloc (.cells #[.slice A n c, .int .i64 0, .int .u64 0] 115 (0, 0)) := by
  go_enter Try.func130, Try.ntmps130
  go_wp2
  go_ret
  exact ⟨rfl, rfl⟩
theorem a2Long_c {A B : Option Addr} {n m c d : Nat} {r : Bool} (w : World) (hr : decide (3000 < n ∨ 3000 < m) = r) : Calls Try.prog 33 #[.slice A n c, .slice B m d] w fun e w' => e = .returned (.bool r) ∧ Drawn0 w w' := by
  subst hr
  by_cases h : 3000 < n <;> by_cases h2 : 3000 < m
  all_goals
    go_enter Try.func33, Try.ntmps33
    go_wp2
    repeat (go_quiet (fail); try go_wp2)
    go_ret
    exact ⟨by first | rfl | (simp [h, h2]; done) | (simp [h, h2]; omega), by repeat (first | exact Drawn0.refl _ | apply Drawn0.step)⟩
set_option maxHeartbeats 4000000 in
set_option maxRecDepth 100000 in
theorem l02Draw_c {w0 W : World} {g : Nat} (h : Src w0 W g 0) : Calls Try.prog 132 #[.pointer (some ⟨g, 0, none⟩)] W (DrawS w0 W g 100) := by
  have h := Aside0.mk h
  go_enter Try.func132, Try.ntmps132
  go_wp2_with (fail)
  refine (pick_c (hi := 180) (by first | exact h.out | exact h.out.drewN _ | exact h.out.step (below_alloc (pw_below_drewN (Below.refl _ _) _) _) | exact h.out.step (below_alloc (Below.refl _ _) _) | exact h.out.step (pw_below_drewN (below_alloc (pw_below_drewN (Below.refl _ _) _) _) _) | exact h.out.step (pw_below_drewN (below_alloc (Below.refl _ _) _) _)) (by omega) (by omega) (by omega) (by omega)).mono ?_
  rintro e Wk1 ⟨x, x0, x1, rfl, k1, qk1⟩
  have k1 := Aside0.mk k1
  have qk1 := Aside0.mk qk1
  go_wp2_with (fail)
  refine (pick_c (hi := 179) (by first | exact k1.out | exact k1.out.drewN _ | exact k1.out.step (below_alloc (pw_below_drewN (Below.refl _ _) _) _) | exact k1.out.step (below_alloc (Below.refl _ _) _) | exact k1.out.step (pw_below_drewN (below_alloc (pw_below_drewN (Below.refl _ _) _) _) _) | exact k1.out.step (pw_below_drewN (below_alloc (Below.refl _ _) _) _)) (by omega) (by omega) (by omega) (by omega)).mono ?_
  rintro e Wk2 ⟨y, y0, y1, rfl, k2, qk2⟩
  have k2 := Aside0.mk k2
  have qk2 := Aside0.mk qk2
  go_wp2_with (fail)
  refine (one_c (by first | exact k2.out | exact k2.out.drewN _ | exact k2.out.step (below_alloc (pw_below_drewN (Below.refl _ _) _) _) | exact k2.out.step (below_alloc (Below.refl _ _) _) | exact k2.out.step (pw_below_drewN (below_alloc (pw_below_drewN (Below.refl _ _) _) _) _) | exact k2.out.step (pw_below_drewN (below_alloc (Below.refl _ _) _) _)) (by omega) (by omega)).mono ?_
  rintro e Wk3 ⟨r, rfl, k3, qk3⟩
  have k3 := Aside0.mk k3
  have qk3 := Aside0.mk qk3
  have kb := Aside0.mk ((qk1.out.trans qk2.out (.inl rfl)).trans qk3.out (.inl rfl))
  cases r with
  | false =>
    go_wp2_with (fail)
    refine (pick_c (hi := 11) (by first | exact k3.out | exact k3.out.drewN _ | exact k3.out.step (below_alloc (pw_below_drewN (Below.refl _ _) _) _) | exact k3.out.step (below_alloc (Below.refl _ _) _) | exact k3.out.step (pw_below_drewN (below_alloc (pw_below_drewN (Below.refl _ _) _) _) _) | exact k3.out.step (pw_below_drewN (below_alloc (Below.refl _ _) _) _)) (by omega) (by omega) (by omega) (by omega)).mono ?_
    rintro e Wk6 ⟨z, z0, z1, rfl, k6, qk6⟩
    have k6 := Aside0.mk k6
    have qk6 := Aside0.mk qk6
    have kb6 := Aside0.mk (kb.out.trans (row1 := none) (by first | exact qk6.out | exact KeepBut.trans (keep_drewN (KeepBut.refl _ _ _) _) qk6.out (.inl rfl)) (.inl rfl))
    by_cases z1 : z = 0
    · subst z1
      go_wp2_with (fail)
      refine (among_c (xs := [-324000, 0, 324000]) (by first | exact k6.out | exact k6.out.drewN _ | exact k6.out.step (below_alloc (pw_below_drewN (Below.refl _ _) _) _) | exact k6.out.step (below_alloc (Below.refl _ _) _) | exact k6.out.step (pw_below_drewN (below_alloc (pw_below_drewN (Below.refl _ _) _) _) _) | exact k6.out.step (pw_below_drewN (below_alloc (Below.refl _ _) _) _)) (by omega) (by first | exact reads_lit _ _ [-324000, 0, 324000] (by decide) | exact (reads_lit _ _ [-324000, 0, 324000] (by decide)).below (pw_below_drewN (Below.refl _ _) _)) (by decide) (by decide) (by decide) (by have := k6.out.lt; simp; omega)).mono ?_
      rintro e Wk7 ⟨t, ht, rfl, k7, qk7⟩
      have k7 := Aside0.mk k7
      have kb7 := Aside0.mk ((keep_alloc kb6.out _).trans (row1 := none) (by first | exact qk7 | exact KeepBut.trans (keep_drewN (KeepBut.refl _ _ _) _) qk7 (.inl rfl)) (.inl rfl))
      have hb : -324000 ≤ t ∧ t ≤ 324000 := by simp at ht; omega
      have hb := Aside0.mk hb
      clear ht qk7
      have hG := kb7.out.blk (blk_new W _) (Nat.ne_of_gt h.out.lt) (by simp)
      have e0 := (blk_cell hG 0).trans (by rfl : _ = some (Value.int .i64 0))
      have e1 := (blk_cell hG 1).trans (by rfl : _ = some (Value.int .i64 0))
      have f0 := blk_frozen hG 0
      have f1 := blk_frozen hG 1
      have hG := Aside0.mk hG
      have hgt := h.out.lt
      have hsz := h.out.size
      go_wp2
      refine bodyPost_ret (v := .agg #[.int .i64 (t), .int .i64 (3600 * (y - 90))]) (by simp [results, Try.results132, go_sem, e0, e1, f0, f1]) rfl ⟨_, _, ⟨hb.out, by omega, by omega⟩, rfl, ?_, ?_⟩
      · exact (Src.far (Src.far k7.out (by simp; omega) (by simp; omega) _) (by simp; omega) (by simp; omega) _).le (by omega)
      · exact keep_far (keep_far (keep_from kb7.out) (by simp) _) (by simp) _
    · by_cases z2 : z = 1
      · subst z2
        go_wp2_with (fail)
        refine (among_c (xs := [-648000, -324000, 0, 324000, 647999]) (by first | exact k6.out | exact k6.out.drewN _ | exact k6.out.step (below_alloc (pw_below_drewN (Below.refl _ _) _) _) | exact k6.out.step (below_alloc (Below.refl _ _) _) | exact k6.out.step (pw_below_drewN (below_alloc (pw_below_drewN (Below.refl _ _) _) _) _) | exact k6.out.step (pw_below_drewN (below_alloc (Below.refl _ _) _) _)) (by omega) (by first | exact reads_lit _ _ [-648000, -324000, 0, 324000, 647999] (by decide) | exact (reads_lit _ _ [-648000, -324000, 0, 324000, 647999] (by decide)).below (pw_below_drewN (Below.refl _ _) _)) (by decide) (by decide) (by decide) (by have := k6.out.lt; simp; omega)).mono ?_
        rintro e Wk7 ⟨t, ht, rfl, k7, qk7⟩
        have k7 := Aside0.mk k7
        have kb7 := Aside0.mk ((keep_alloc kb6.out _).trans (row1 := none) (by first | exact qk7 | exact KeepBut.trans (keep_drewN (KeepBut.refl _ _ _) _) qk7 (.inl rfl)) (.inl rfl))
        have hb : -648000 ≤ t ∧ t ≤ 647999 := by simp at ht; omega
        have hb := Aside0.mk hb
        clear ht qk7
        have hG := kb7.out.blk (blk_new W _) (Nat.ne_of_gt h.out.lt) (by simp)
        have e0 := (blk_cell hG 0).trans (by rfl : _ = some (Value.int .i64 0))
        have e1 := (blk_cell hG 1).trans (by rfl : _ = some (Value.int .i64 0))
        have f0 := blk_frozen hG 0
        have f1 := blk_frozen hG 1
        have hG := Aside0.mk hG
        have hgt := h.out.lt
        have hsz := h.out.size
        go_wp2
        refine bodyPost_ret (v := .agg #[.int .i64 (1800 * (x - 90)), .int .i64 (t)]) (by simp [results, Try.results132, go_sem, e0, e1, f0, f1]) rfl ⟨_, _, ⟨⟨by omega, by omega⟩, hb.out⟩, rfl, ?_, ?_⟩
        · exact (Src.far (Src.far k7.out (by simp; omega) (by simp; omega) _) (by simp; omega) (by simp; omega) _).le (by omega)
        · exact keep_far (keep_far (keep_from kb7.out) (by simp) _) (by simp) _
      · have z3 : (z == 0) = false := by simp [z1]
        have z4 : (z == 1) = false := by simp [z2]
        clear z1 z2
        have hG := kb6.out.blk (blk_new W _) (Nat.ne_of_gt h.out.lt) (by simp)
        have e0 := (blk_cell hG 0).trans (by rfl : _ = some (Value.int .i64 0))
        have e1 := (blk_cell hG 1).trans (by rfl : _ = some (Value.int .i64 0))
        have f0 := blk_frozen hG 0
        have f1 := blk_frozen hG 1
        have hG := Aside0.mk hG
        have hgt := h.out.lt
        have hsz := h.out.size
        go_wp2
        refine bodyPost_ret (v := .agg #[.int .i64 (1800 * (x - 90)), .int .i64 (3600 * (y - 90))]) (by simp [results, Try.results132, go_sem, e0, e1, f0, f1]) rfl ⟨_, _, ⟨⟨by omega, by omega⟩, by omega, by omega⟩, rfl, ?_, ?_⟩
        · exact (Src.far (Src.far k6.out (by simp; omega) (by simp; omega) _) (by simp; omega) (by simp; omega) _).le (by omega)
        · exact keep_far (keep_far (keep_from kb6.out) (by simp) _) (by simp) _
  | true =>
    go_wp2_with (fail)
    refine (pick_c (hi := 119) (by first | exact k3.out | exact k3.out.drewN _ | exact k3.out.step (below_alloc (pw_below_drewN (Below.refl _ _) _) _) | exact k3.out.step (below_alloc (Below.refl _ _) _) | exact k3.out.step (pw_below_drewN (below_alloc (pw_below_drewN (Below.refl _ _) _) _) _) | exact k3.out.step (pw_below_drewN (below_alloc (Below.refl _ _) _) _)) (by omega) (by omega) (by omega) (by omega)).mono ?_
    rintro e Wk4 ⟨u, u0, u1, rfl, k4, qk4⟩
    have k4 := Aside0.mk k4
    have qk4 := Aside0.mk qk4
    go_wp2_with (fail)
    refine (pick_c (hi := 199) (by first | exact k4.out | exact k4.out.drewN _ | exact k4.out.step (below_alloc (pw_below_drewN (Below.refl _ _) _) _) | exact k4.out.step (below_alloc (Below.refl _ _) _) | exact k4.out.step (pw_below_drewN (below_alloc (pw_below_drewN (Below.refl _ _) _) _) _) | exact k4.out.step (pw_below_drewN (below_alloc (Below.refl _ _) _) _)) (by omega) (by omega) (by omega) (by omega)).mono ?_
    rintro e Wk5 ⟨v, v0, v1, rfl, k5, qk5⟩
    have k5 := Aside0.mk k5
    have qk5 := Aside0.mk qk5
    have kb5 := Aside0.mk ((kb.out.trans (row1 := none) (by first | exact qk4.out | exact KeepBut.trans (keep_drewN (KeepBut.refl _ _ _) _) qk4.out (.inl rfl)) (.inl rfl)).trans (row1 := none) (by first | exact qk5.out | exact KeepBut.trans (keep_drewN (KeepBut.refl _ _ _) _) qk5.out (.inl rfl)) (.inl rfl))
    go_wp2_with (fail)
    refine (pick_c (hi := 11) (by first | exact k5.out | exact k5.out.drewN _ | exact k5.out.step (below_alloc (pw_below_drewN (Below.refl _ _) _) _) | exact k5.out.step (below_alloc (Below.refl _ _) _) | exact k5.out.step (pw_below_drewN (below_alloc (pw_below_drewN (Below.refl _ _) _) _) _) | exact k5.out.step (pw_below_drewN (below_alloc (Below.refl _ _) _) _)) (by omega) (by omega) (by omega) (by omega)).mono ?_
    rintro e Wk6 ⟨z, z0, z1, rfl, k6, qk6⟩
    have k6 := Aside0.mk k6
    have qk6 := Aside0.mk qk6
    have kb6 := Aside0.mk (kb5.out.trans (row1 := none) (by first | exact qk6.out | exact KeepBut.trans (keep_drewN (KeepBut.refl _ _ _) _) qk6.out (.inl rfl)) (.inl rfl))
    by_cases z1 : z = 0
    · subst z1
      go_wp2_with (fail)
      refine (among_c (xs := [-324000, 0, 324000]) (by first | exact k6.out | exact k6.out.drewN _ | exact k6.out.step (below_alloc (pw_below_drewN (Below.refl _ _) _) _) | exact k6.out.step (below_alloc (Below.refl _ _) _) | exact k6.out.step (pw_below_drewN (below_alloc (pw_below_drewN (Below.refl _ _) _) _) _) | exact k6.out.step (pw_below_drewN (below_alloc (Below.refl _ _) _) _)) (by omega) (by first | exact reads_lit _ _ [-324000, 0, 324000] (by decide) | exact (reads_lit _ _ [-324000, 0, 324000] (by decide)).below (pw_below_drewN (Below.refl _ _) _)) (by decide) (by decide) (by decide) (by have := k6.out.lt; simp; omega)).mono ?_
      rintro e Wk7 ⟨t, ht, rfl, k7, qk7⟩
      have k7 := Aside0.mk k7
      have kb7 := Aside0.mk ((keep_alloc kb6.out _).trans (row1 := none) (by first | exact qk7 | exact KeepBut.trans (keep_drewN (KeepBut.refl _ _ _) _) qk7 (.inl rfl)) (.inl rfl))
      have hb : -324000 ≤ t ∧ t ≤ 324000 := by simp at ht; omega
      have hb := Aside0.mk hb
      clear ht qk7
      have hG := kb7.out.blk (blk_new W _) (Nat.ne_of_gt h.out.lt) (by simp)
      have e0 := (blk_cell hG 0).trans (by rfl : _ = some (Value.int .i64 0))
      have e1 := (blk_cell hG 1).trans (by rfl : _ = some (Value.int .i64 0))
      have f0 := blk_frozen hG 0
      have f1 := blk_frozen hG 1
      have hG := Aside0.mk hG
      have hgt := h.out.lt
      have hsz := h.out.size
      go_wp2
      refine bodyPost_ret (v := .agg #[.int .i64 (t), .int .i64 (3600 * (y - 90) + 60 * v)]) (by simp [results, Try.results132, go_sem, e0, e1, f0, f1]) rfl ⟨_, _, ⟨hb.out, by omega, by omega⟩, rfl, ?_, ?_⟩
      · exact (Src.far (Src.far k7.out (by simp; omega) (by simp; omega) _) (by simp; omega) (by simp; omega) _).le (by omega)
      · exact keep_far (keep_far (keep_from kb7.out) (by simp) _) (by simp) _
    · by_cases z2 : z = 1
      · subst z2
        go_wp2_with (fail)
        refine (among_c (xs := [-648000, -324000, 0, 324000, 647999]) (by first | exact k6.out | exact k6.out.drewN _ | exact k6.out.step (below_alloc (pw_below_drewN (Below.refl _ _) _) _) | exact k6.out.step (below_alloc (Below.refl _ _) _) | exact k6.out.step (pw_below_drewN (below_alloc (pw_below_drewN (Below.refl _ _) _) _) _) | exact k6.out.step (pw_below_drewN (below_alloc (Below.refl _ _) _) _)) (by omega) (by first | exact reads_lit _ _ [-648000, -324000, 0, 324000, 647999] (by decide) | exact (reads_lit _ _ [-648000, -324000, 0, 324000, 647999] (by decide)).below (pw_below_drewN (Below.refl _ _) _)) (by decide) (by decide) (by decide) (by have := k6.out.lt; simp; omega)).mono ?_
        rintro e Wk7 ⟨t, ht, rfl, k7, qk7⟩
        have k7 := Aside0.mk k7
        have kb7 := Aside0.mk ((keep_alloc kb6.out _).trans (row1 := none) (by first | exact qk7 | exact KeepBut.trans (keep_drewN (KeepBut.refl _ _ _) _) qk7 (.inl rfl)) (.inl rfl))
        have hb : -648000 ≤ t ∧ t ≤ 647999 := by simp at ht; omega
        have hb := Aside0.mk hb
        clear ht qk7
        have hG := kb7.out.blk (blk_new W _) (Nat.ne_of_gt h.out.lt) (by simp)
        have e0 := (blk_cell hG 0).trans (by rfl : _ = some (Value.int .i64 0))
        have e1 := (blk_cell hG 1).trans (by rfl : _ = some (Value.int .i64 0))
        have f0 := blk_frozen hG 0
        have f1 := blk_frozen hG 1
        have hG := Aside0.mk hG
        have hgt := h.out.lt
        have hsz := h.out.size
        go_wp2
        refine bodyPost_ret (v := .agg #[.int .i64 (1800 * (x - 90) + (u - 60)), .int .i64 (t)]) (by simp [results, Try.results132, go_sem, e0, e1, f0, f1]) rfl ⟨_, _, ⟨⟨by omega, by omega⟩, hb.out⟩, rfl, ?_, ?_⟩
        · exact (Src.far (Src.far k7.out (by simp; omega) (by simp; omega) _) (by simp; omega) (by simp; omega) _).le (by omega)
        · exact keep_far (keep_far (keep_from kb7.out) (by simp) _) (by simp) _
      · have z3 : (z == 0) = false := by simp [z1]
        have z4 : (z == 1) = false := by simp [z2]
        clear z1 z2
        have hG := kb6.out.blk (blk_new W _) (Nat.ne_of_gt h.out.lt) (by simp)
        have e0 := (blk_cell hG 0).trans (by rfl : _ = some (Value.int .i64 0))
        have e1 := (blk_cell hG 1).trans (by rfl : _ = some (Value.int .i64 0))
        have f0 := blk_frozen hG 0
        have f1 := blk_frozen hG 1
        have hG := Aside0.mk hG
        have hgt := h.out.lt
        have hsz := h.out.size
        go_wp2
        refine bodyPost_ret (v := .agg #[.int .i64 (1800 * (x - 90) + (u - 60)), .int .i64 (3600 * (y - 90) + 60 * v)]) (by simp [results, Try.results132, go_sem, e0, e1, f0, f1]) rfl ⟨_, _, ⟨⟨by omega, by omega⟩, by omega, by omega⟩, rfl, ?_, ?_⟩
        · exact (Src.far (Src.far k6.out (by simp; omega) (by simp; omega) _) (by simp; omega) (by simp; omega) _).le (by omega)
        · exact keep_far (keep_far (keep_from kb6.out) (by simp) _) (by simp) _
theorem A2Spot_c {A : Option Addr} {n c : Nat} {xs : List Int} (w : World) (hr : ReadsInt w .u8 A n xs) (hx : ∀ x ∈ xs, 0 ≤ x ∧ x ≤ 255) (hn : n ≤ 5000) : Calls Try.prog 36 #[.slice A n c] w (SpotB w) := by
  have h0 := Src.new (w.alloc (.cells #[.int .i64 0, .int .i64 0] 52)) A n c xs hn (hr.below (below_alloc (Below.refl _ _) _)) hx
  rw [show (w.alloc (.cells #[.int .i64 0, .int .i64 0] 52)).heap.size = w.heap.size + 1 by simp] at h0
  have h0 := Aside0.mk h0
  clear hr hx
  go_enter Try.func36, Try.ntmps36
  go_wp2_with (fail)
  refine (from_c _).mono ?_
  rintro e W ⟨rfl, rfl⟩
  go_wp2_with (fail)
  refine (l02Draw_c h0.out).mono ?_
  rintro e W1 ⟨a, b, hab, rfl, k1, _⟩
  have hb := k1.below
  have hG := (hb.block w.heap.size (by simp)).trans (blk_new w _)
  have e0 := (blk_cell hG 0).trans (by rfl : _ = some (Value.int .i64 0))
  have e1 := (blk_cell hG 1).trans (by rfl : _ = some (Value.int .i64 0))
  have f0 := blk_frozen hG 0
  have f1 := blk_frozen hG 1
  have hG := Aside0.mk hG
  have HB := Aside0.mk (show Below w.heap.size w W1 from below_step (below_alloc (Below.refl _ _) _) hb)
  have hab := Aside0.mk hab
  clear hb k1
  go_wp2
  exact bodyPost_ret (v := .agg #[.int .i64 a, .int .i64 b]) (by simp [results, Try.results36, go_sem, e0, e1, f0, f1]) rfl ⟨_, _, hab.out, rfl, (HB.out.setCell (by simp) _).setCell (by simp) _⟩
end Go.Proofs.Ytkfbbaaniglaeaa.Con
end
section
namespace Go.Proofs.Ytkfbbaaniglaeaa.Con
open Go.RowKit Go.Proofs.YtkfbbaaniglaeaaW.PrintWords Go.Proofs.YtkfbbaaniglaeaaW.PrintLast Go.Proofs.YtkfbbaaniglaeaaW.PrintMore Go.Proofs.Ytkfbbaaniglaeaa.Mth
attribute [local go_sem] max2_int min2_int max_two min_two max_three min_three
set_option linter.unusedVariables false
set_option linter.unusedSimpArgs false
theorem impl_arc_c {s : Int} (w : World) (hs0 : 0 ≤ s) (hs1 : s ≤ 1000000) : Calls Try.prog 184 #[.int .i64 s] w fun e w' => e = .returned (.int .i64 (Ar s)) ∧ Drawn0 w w' := by
  go_enter Try.func184, Try.ntmps184
  go_wp2
  go_loopw [3, 4] (fun v3 v4 wr => ∃ l h : Int, 0 ≤ l ∧ l ≤ h ∧ h ≤ 324000 ∧ s ≤ S h ∧ (∀ y, 0 ≤ y → y < l → S y < s) ∧ v3 = .int .i64 l ∧ v4 = .int .i64 h ∧ Drawn0 w wr) (fun v3 v4 _ => (intOf v4 - intOf v3).toNat)
  case atStart => exact ⟨0, 324000, by omega, by omega, by omega, by rw [S_q]; omega, fun y a b => by omega, rfl, rfl, Drawn0.refl _⟩
  case round =>
    obtain ⟨l, h, a, b, c, e, f, rfl, rfl, hd⟩ := hrel
    have f := Aside0.mk f
    have e := Aside0.mk e
    have hd := Aside0.mk hd
    by_cases hlt : l < h
    · by_cases q : s ≤ S ((l + h) / 2)
      · go_wp2_with ((go_at_call 198; (with_reducible refine (impl_sine_c _).mono ?_); rintro e w' ⟨rfl, ⟨nd, rfl⟩⟩))
        go_roundw
        case rel => exact ⟨l, (l + h) / 2, a, by omega, by omega, q, f.out, rfl, rfl, hd.out.step _⟩
        case measure => simp [intOf]; omega
      · go_wp2_with ((go_at_call 198; (with_reducible refine (impl_sine_c _).mono ?_); rintro e w' ⟨rfl, ⟨nd, rfl⟩⟩))
        go_roundw
        case rel =>
          refine ⟨(l + h) / 2 + 1, h, by omega, by omega, c, e.out, ?_, rfl, rfl, hd.out.step _⟩
          intro y y0 y1
          have := S_mono y0 (show y ≤ (l + h) / 2 by omega) (by omega)
          omega
        case measure => simp [intOf]; omega
    · have hh : l = h := by omega
      subst hh
      have g := Aside0.mk (IsArc.eq ⟨a, c, e.out, f.out⟩)
      go_wp2
      go_ret
      exact ⟨ret_int g.out.symm, hd.out⟩
theorem spec_l03Arc_c {s : Int} (w : World) (hs0 : 0 ≤ s) (hs1 : s ≤ 1000000) : Calls Try.prog 182 #[.int .i64 s] w fun e w' => e = .returned (.int .i64 (Ar s)) ∧ Drawn0 w w' := by
  go_enter Try.func182, Try.ntmps182
  go_wp2
  go_loopw [3, 4] (fun v3 v4 wr => ∃ l h : Int, -1 ≤ l ∧ l < h ∧ h ≤ 324000 ∧ s ≤ S h ∧ (∀ y, 0 ≤ y → y ≤ l → S y < s) ∧ v3 = .int .i64 l ∧ v4 = .int .i64 h ∧ Drawn0 w wr) (fun v3 v4 _ => (intOf v4 - intOf v3).toNat)
  case atStart => exact ⟨-1, 324000, by omega, by omega, by omega, by rw [S_q]; omega, fun y a b => by omega, rfl, rfl, Drawn0.refl _⟩
  case round =>
    obtain ⟨l, h, a, b, c, e, f, rfl, rfl, hd⟩ := hrel
    have f := Aside0.mk f
    have e := Aside0.mk e
    have hd := Aside0.mk hd
    by_cases hlt : 1 < h - l
    · by_cases q : s ≤ S ((l + h) / 2)
      · go_wp2_with ((go_at_call 195; (with_reducible refine (spec_l03Sine_c _).mono ?_); rintro e w' ⟨rfl, ⟨nd, rfl⟩⟩))
        go_roundw
        case rel => exact ⟨l, (l + h) / 2, a, by omega, by omega, q, f.out, rfl, rfl, hd.out.step _⟩
        case measure => simp [intOf]; omega
      · go_wp2_with ((go_at_call 195; (with_reducible refine (spec_l03Sine_c _).mono ?_); rintro e w' ⟨rfl, ⟨nd, rfl⟩⟩))
        go_roundw
        case rel =>
          refine ⟨(l + h) / 2, h, by omega, by omega, c, e.out, ?_, rfl, rfl, hd.out.step _⟩
          intro y y0 y1
          have := S_mono y0 y1 (by omega)
          omega
        case measure => simp [intOf]; omega
    · have hh : h = l + 1 := by omega
      subst hh
      have g := Aside0.mk (IsArc.eq ⟨show 0 ≤ l + 1 by omega, c, e.out, fun y y0 y1 => f.out y y0 (by omega)⟩)
      go_wp2
      go_ret
      exact ⟨ret_int g.out.symm, hd.out⟩
end Go.Proofs.Ytkfbbaaniglaeaa.Con
end
section
namespace Go.Proofs.Ytkfbbaaniglaeaa.Con
open Go.RowKit Go.Proofs.YtkfbbaaniglaeaaW.PrintWords Go.Proofs.YtkfbbaaniglaeaaW.PrintLast Go.Proofs.YtkfbbaaniglaeaaW.PrintMore Go.Proofs.Ytkfbbaaniglaeaa.Mth
attribute [local go_sem] max2_int min2_int max_two min_two max_three min_three
set_option linter.unusedVariables false
set_option linter.unusedSimpArgs false
theorem impl_check_tt (w : World) : Calls Try.prog 126 #[.bool true, .bool true] w fun e w' => e = .returned (.int .i64 0) ∧ Drawn0 w w' := by
  go_enter Try.func126, Try.ntmps126
  go_wp2
  go_ret
  exact ⟨rfl, by repeat (first | exact Drawn0.refl _ | apply Drawn0.step)⟩
theorem impl_check_tf (w : World) : Calls Try.prog 126 #[.bool true, .bool false] w fun e w' => e = .returned (.int .i64 2) ∧ Drawn0 w w' := by
  go_enter Try.func126, Try.ntmps126
  go_wp2
  go_ret
  exact ⟨rfl, by repeat (first | exact Drawn0.refl _ | apply Drawn0.step)⟩
theorem impl_check_f {q : Bool} (w : World) : Calls Try.prog 126 #[.bool false, .bool q] w fun e w' => e = .returned (.int .i64 1) ∧ Drawn0 w w' := by
  go_enter Try.func126, Try.ntmps126
  go_wp2
  go_ret
  exact ⟨rfl, by repeat (first | exact Drawn0.refl _ | apply Drawn0.step)⟩
end Go.Proofs.Ytkfbbaaniglaeaa.Con
end
section
namespace Go.Proofs.Ytkfbbaaniglaeaa.Con
open Go.RowKit Go.Proofs.YtkfbbaaniglaeaaW.PrintWords Go.Proofs.YtkfbbaaniglaeaaW.PrintLast Go.Proofs.YtkfbbaaniglaeaaW.PrintMore Go.Proofs.Ytkfbbaaniglaeaa.Mth
attribute [local go_sem] max2_int min2_int max_two min_two max_three min_three
set_option linter.unusedVariables false
set_option linter.unusedSimpArgs false
theorem spec_l00Max_c {a b c : Int} (w : World) (hc : (if b < a then a else b) = c) : Calls Try.prog 145 #[.int .i64 a, .int .i64 b] w fun e w' => e = .returned (.int .i64 (c)) ∧ Drawn0 w w' := by
  by_cases h : b < a
  · have f := Aside0.mk (show c = a by rw [← hc]; exact if_pos h)
    clear hc
    go_enter Try.func145, Try.ntmps145
    go_wp2_with (first | (fail))
    go_ret
    exact ⟨by rw [f.out]; rfl, by repeat (first | exact Drawn0.refl _ | apply Drawn0.step)⟩
  · have f := Aside0.mk (show c = b by rw [← hc]; exact if_neg h)
    clear hc
    go_enter Try.func145, Try.ntmps145
    go_wp2_with (first | (fail))
    go_ret
    exact ⟨by rw [f.out]; rfl, by repeat (first | exact Drawn0.refl _ | apply Drawn0.step)⟩
theorem spec_l00Min_c {a b c : Int} (w : World) (hc : (if a < b then a else b) = c) : Calls Try.prog 196 #[.int .i64 a, .int .i64 b] w fun e w' => e = .returned (.int .i64 (c)) ∧ Drawn0 w w' := by
  by_cases h : a < b
  · have f := Aside0.mk (show c = a by rw [← hc]; exact if_pos h)
    clear hc
    go_enter Try.func196, Try.ntmps196
    go_wp2_with (first | (fail))
    go_ret
    exact ⟨by rw [f.out]; rfl, by repeat (first | exact Drawn0.refl _ | apply Drawn0.step)⟩
  · have f := Aside0.mk (show c = b by rw [← hc]; exact if_neg h)
    clear hc
    go_enter Try.func196, Try.ntmps196
    go_wp2_with (first | (fail))
    go_ret
    exact ⟨by rw [f.out]; rfl, by repeat (first | exact Drawn0.refl _ | apply Drawn0.step)⟩
end Go.Proofs.Ytkfbbaaniglaeaa.Con
end
section
namespace Go.Proofs.Ytkfbbaaniglaeaa.Mth
open Go.RowKit Go.Proofs.YtkfbbaaniglaeaaW.PrintWords Go.Proofs.YtkfbbaaniglaeaaW.PrintLast Go.Proofs.YtkfbbaaniglaeaaW.PrintMore
set_option linter.unusedVariables false
set_option linter.unusedSimpArgs false
def mxD (a b : Int) : Int := if b < a then a else b
def mnD (a b : Int) : Int := if a < b then a else b
def cosV (a b c d : Int) : Int := (S a * S c * 1000000 + Co a * Co c * Co (d - b)) / 1000000000000
def cosD (a b c d : Int) : Int := mx (-1000000) (mn 1000000 (cosV a b c d))
noncomputable def dist (a b c d : Int) : Int := if a = c ∧ b = d then 0 else if cosD a b c d < 0 then 324000 + Ar (-cosD a b c d) else mx 1 (324000 - Ar (cosD a b c d))
noncomputable def RDistanceOf (a b c d : Int) : Int × Int := if sOk a b ∧ sOk c d then (dist a b c d, 0) else (0, 1)
theorem cosD_bd (a b c d : Int) : -1000000 ≤ cosD a b c d ∧ cosD a b c d ≤ 1000000 := by
  unfold cosD mx mn; repeat' split
  all_goals omega
theorem Ar_spec {s : Int} (h0 : 0 ≤ s) (h1 : s ≤ 1000000) : IsArc s (Ar s) := by
  have : ∃ r, IsArc s r := by
    have key : ∀ d : Nat, d ≤ 324000 → (∃ r, IsArc s r) ∨ ∀ y : Int, 0 ≤ y → y < d → S y < s := by
      intro d
      induction d with
      | zero => intro _; exact Or.inr (fun y a b => by omega)
      | succ d ih =>
        intro hd
        rcases ih (by omega) with h | h
        · exact Or.inl h
        · by_cases g : s ≤ S d
          · exact Or.inl ⟨d, by omega, by omega, g, h⟩
          · refine Or.inr (fun y a b => ?_)
            by_cases e : y = d
            · subst e; omega
            · exact h y a (by omega)
    rcases key 324000 (Nat.le_refl _) with h | h
    · exact h
    · exact ⟨324000, by omega, by omega, by rw [S_q]; exact h1, h⟩
  obtain ⟨r, hr⟩ := this
  rw [hr.eq]; exact hr
theorem Ar_bd {s : Int} (h0 : 0 ≤ s) (h1 : s ≤ 1000000) : 0 ≤ Ar s ∧ Ar s ≤ 324000 := ⟨(Ar_spec h0 h1).lo, (Ar_spec h0 h1).hi⟩
theorem dist_bd (a b c d : Int) : 0 ≤ dist a b c d ∧ dist a b c d ≤ 648000 := by
  have h := cosD_bd a b c d
  unfold dist
  split
  · omega
  · split
    · have := Ar_bd (s := -cosD a b c d) (by omega) (by omega); omega
    · have := Ar_bd (s := cosD a b c d) (by omega) (by omega)
      unfold mx; split <;> omega
end Go.Proofs.Ytkfbbaaniglaeaa.Mth
end
section
namespace Go.Proofs.Ytkfbbaaniglaeaa.Con
open Go.RowKit Go.Proofs.YtkfbbaaniglaeaaW.PrintWords Go.Proofs.YtkfbbaaniglaeaaW.PrintLast Go.Proofs.YtkfbbaaniglaeaaW.PrintMore Go.Proofs.Ytkfbbaaniglaeaa.Mth
attribute [local go_sem] max2_int min2_int max_two min_two max_three min_three
set_option linter.unusedVariables false
set_option linter.unusedSimpArgs false
theorem bcell {W w1 : World} (hb : Below W.heap.size W w1) : (∀ b o, b < W.heap.size → w1.cell? ⟨b, o, none⟩ = W.cell? ⟨b, o, none⟩) ∧ (∀ b o, b < W.heap.size → w1.frozen? ⟨b, o, none⟩ = W.frozen? ⟨b, o, none⟩) :=
  ⟨fun b o h => hb.cell (p := ⟨b, o, none⟩) h, fun b o h => hb.frozen (p := ⟨b, o, none⟩) h⟩
theorem quiet1 {P : Program} {f : FuncId} {args : Array Value} {w : World} {a n : Nat} {v : Value}
    (h : Calls P f args (w.drewN (a + n)) fun e w' => e = .returned v ∧ Drawn0 (w.drewN (a + n)) w') : Calls P f args (w.drewN (a + n)) fun e w'' => e = .returned v ∧ ∃ m, w'' = w.drewN (a + m) :=
  h.mono fun _ _ ⟨he, ⟨m, hm⟩⟩ => ⟨he, n + m, by rw [hm, World.drewN_drewN, Nat.add_assoc]⟩
theorem impl_ValidSpot_c {a b : Int} {r : Bool} (hr : decide (sOk a b) = r) (w : World) : Calls Try.prog 133 #[.agg #[.int .i64 a, .int .i64 b]] w fun e w' => e = .returned (.bool r) ∧ Below w.heap.size w w' := by
  rcases dec (-324000 ≤ a ∧ a ≤ 324000) with ⟨h, bh⟩ | ⟨h, bh⟩ <;> rcases dec (-648000 ≤ b ∧ b ≤ 647999) with ⟨k, bk⟩ | ⟨k, bk⟩
  · have f := Aside0.mk (show r = true by rw [← hr]; exact decide_eq_true ⟨h, k⟩)
    clear hr h k
    go_enter Try.func133, Try.ntmps133
    go_wp2_with (first | (go_at_call 136; (with_reducible refine (impl_within_d _ (by first | exact bh.out | exact bk.out)).mono ?_); rintro e w' ⟨rfl, ⟨nd, rfl⟩⟩))
    repeat (go_quiet (first | (go_at_call 136; first | exact quiet0 (impl_within_d _ (by first | exact bh.out | exact bk.out)) | exact quiet1 (impl_within_d _ (by first | exact bh.out | exact bk.out)))); try go_wp2_with (first | (go_at_call 136; (with_reducible refine (impl_within_d _ (by first | exact bh.out | exact bk.out)).mono ?_); rintro e w' ⟨rfl, ⟨nd, rfl⟩⟩)))
    go_ret
    exact ⟨by rw [f.out]; rfl, by repeat (first | (with_reducible exact Below.refl _ _) | apply below_alloc | apply pw_below_drewN | apply below_drew | exact Below.refl _ _)⟩
  all_goals
    have f := Aside0.mk (show r = false by rw [← hr]; exact decide_eq_false (fun e => by first | exact h e.1 | exact k e.2))
    clear hr h k
    go_enter Try.func133, Try.ntmps133
    go_wp2_with (first | (go_at_call 136; (with_reducible refine (impl_within_d _ (by first | exact bh.out | exact bk.out)).mono ?_); rintro e w' ⟨rfl, ⟨nd, rfl⟩⟩))
    repeat (go_quiet (first | (go_at_call 136; first | exact quiet0 (impl_within_d _ (by first | exact bh.out | exact bk.out)) | exact quiet1 (impl_within_d _ (by first | exact bh.out | exact bk.out)))); try go_wp2_with (first | (go_at_call 136; (with_reducible refine (impl_within_d _ (by first | exact bh.out | exact bk.out)).mono ?_); rintro e w' ⟨rfl, ⟨nd, rfl⟩⟩)))
    go_ret
    exact ⟨by rw [f.out]; rfl, by repeat (first | (with_reducible exact Below.refl _ _) | apply below_alloc | apply pw_below_drewN | apply below_drew | exact Below.refl _ _)⟩
theorem spec_l02Ok_c {a b : Int} {r : Bool} (hr : decide (sOk a b) = r) (w : World) : Calls Try.prog 106 #[.agg #[.int .i64 a, .int .i64 b]] w fun e w' => e = .returned (.bool r) ∧ Below w.heap.size w w' := by
  rcases dec (-324000 ≤ a ∧ a ≤ 324000) with ⟨h, bh⟩ | ⟨h, bh⟩ <;> rcases dec (-648000 ≤ b ∧ b ≤ 647999) with ⟨k, bk⟩ | ⟨k, bk⟩
  · have f := Aside0.mk (show r = true by rw [← hr]; exact decide_eq_true ⟨h, k⟩)
    clear hr h k
    go_enter Try.func106, Try.ntmps106
    go_wp2_with (first | (go_at_call 144; (with_reducible refine (spec_l00In_d _ (by first | exact bh.out | exact bk.out)).mono ?_); rintro e w' ⟨rfl, ⟨nd, rfl⟩⟩))
    repeat (go_quiet (first | (go_at_call 144; first | exact quiet0 (spec_l00In_d _ (by first | exact bh.out | exact bk.out)) | exact quiet1 (spec_l00In_d _ (by first | exact bh.out | exact bk.out)))); try go_wp2_with (first | (go_at_call 144; (with_reducible refine (spec_l00In_d _ (by first | exact bh.out | exact bk.out)).mono ?_); rintro e w' ⟨rfl, ⟨nd, rfl⟩⟩)))
    go_ret
    exact ⟨by rw [f.out]; rfl, by repeat (first | (with_reducible exact Below.refl _ _) | apply below_alloc | apply pw_below_drewN | apply below_drew | exact Below.refl _ _)⟩
  all_goals
    have f := Aside0.mk (show r = false by rw [← hr]; exact decide_eq_false (fun e => by first | exact h e.1 | exact k e.2))
    clear hr h k
    go_enter Try.func106, Try.ntmps106
    go_wp2_with (first | (go_at_call 144; (with_reducible refine (spec_l00In_d _ (by first | exact bh.out | exact bk.out)).mono ?_); rintro e w' ⟨rfl, ⟨nd, rfl⟩⟩))
    repeat (go_quiet (first | (go_at_call 144; first | exact quiet0 (spec_l00In_d _ (by first | exact bh.out | exact bk.out)) | exact quiet1 (spec_l00In_d _ (by first | exact bh.out | exact bk.out)))); try go_wp2_with (first | (go_at_call 144; (with_reducible refine (spec_l00In_d _ (by first | exact bh.out | exact bk.out)).mono ?_); rintro e w' ⟨rfl, ⟨nd, rfl⟩⟩)))
    go_ret
    exact ⟨by rw [f.out]; rfl, by repeat (first | (with_reducible exact Below.refl _ _) | apply below_alloc | apply pw_below_drewN | apply below_drew | exact Below.refl _ _)⟩
theorem spec_l00Max_v {a b : Int} (w : World) : Calls Try.prog 145 #[.int .i64 a, .int .i64 b] w fun e w' => e = .returned (.int .i64 (mxD a b)) ∧ Drawn0 w w' := spec_l00Max_c w rfl
theorem spec_l00Min_v {a b : Int} (w : World) : Calls Try.prog 196 #[.int .i64 a, .int .i64 b] w fun e w' => e = .returned (.int .i64 (mnD a b)) ∧ Drawn0 w w' := spec_l00Min_c w rfl
theorem impl_cosDistance_c {a b c d : Int} (h1 : sOk a b) (h2 : sOk c d) (w : World) : Calls Try.prog 183 #[.agg #[.int .i64 a, .int .i64 b], .agg #[.int .i64 c, .int .i64 d]] w fun e w' => e = .returned (.int .i64 (cosD a b c d)) ∧ Below w.heap.size w w' := by
  have sa := S_bd a
  have sc := S_bd c
  have ca := Co_bd a
  have cc := Co_bd c
  have cd := Co_bd (d - b)
  obtain ⟨p0, p1⟩ := mul_bd (x := S a) (y := S c) sa sc
  obtain ⟨q0, q1⟩ := mul_bd (x := Co a) (y := Co c) ca cc
  obtain ⟨r0, r1⟩ := mul_bd (x := Co a * Co c) (y := Co (d - b)) (X := 1000000000000) (Y := 1000000) (by omega) cd
  clear sa sc ca cc cd
  have k0 : IntKind.i64.wrap (d - b) = d - b := IntWalk.i64_in _ (by omega)
  have k1 : IntKind.i64.wrap (S a * S c) = S a * S c := IntWalk.i64_in _ (by omega)
  have k2 : IntKind.i64.wrap (S a * S c * 1000000) = S a * S c * 1000000 := IntWalk.i64_in _ (by omega)
  have k3 : IntKind.i64.wrap (Co a * Co c) = Co a * Co c := IntWalk.i64_in _ (by omega)
  have k4 : IntKind.i64.wrap (Co a * Co c * Co (d - b)) = Co a * Co c * Co (d - b) := IntWalk.i64_in _ (by omega)
  have k5 : IntKind.i64.wrap (S a * S c * 1000000 + Co a * Co c * Co (d - b)) = S a * S c * 1000000 + Co a * Co c * Co (d - b) := IntWalk.i64_in _ (by omega)
  go_enter Try.func183, Try.ntmps183
  go_wp2_with (first | (go_at_call 198; (with_reducible refine (impl_sine_c _).mono ?_); rintro e w' ⟨rfl, ⟨nd, rfl⟩⟩) | (go_at_call 190; (with_reducible refine (impl_cosine_c _ (by omega) (by omega)).mono ?_); rintro e w' ⟨rfl, ⟨nd, rfl⟩⟩) | (go_at_call 172; (with_reducible refine (impl_floorDiv_c _ (by omega) (by omega) (by omega)).mono ?_); rintro e w' ⟨rfl, ⟨nd, rfl⟩⟩))
  repeat (go_quiet (first | (go_at_call 198; first | exact quiet0 (impl_sine_c _) | exact quiet1 (impl_sine_c _)) | (go_at_call 190; first | exact quiet0 (impl_cosine_c _ (by omega) (by omega)) | exact quiet1 (impl_cosine_c _ (by omega) (by omega))) | (go_at_call 172; first | exact quiet0 (impl_floorDiv_c _ (by omega) (by omega) (by omega)) | exact quiet1 (impl_floorDiv_c _ (by omega) (by omega) (by omega)))); try go_wp2_with (first | (go_at_call 198; (with_reducible refine (impl_sine_c _).mono ?_); rintro e w' ⟨rfl, ⟨nd, rfl⟩⟩) | (go_at_call 190; (with_reducible refine (impl_cosine_c _ (by omega) (by omega)).mono ?_); rintro e w' ⟨rfl, ⟨nd, rfl⟩⟩) | (go_at_call 172; (with_reducible refine (impl_floorDiv_c _ (by omega) (by omega) (by omega)).mono ?_); rintro e w' ⟨rfl, ⟨nd, rfl⟩⟩)))
  all_goals go_ret
  all_goals exact ⟨ret_int (by (try unfold mxD mnD); unfold cosD mx mn cosV; (repeat' split) <;> omega), by repeat (first | (with_reducible exact Below.refl _ _) | apply below_alloc | apply pw_below_drewN | apply below_drew | exact Below.refl _ _)⟩
theorem spec_l05Cos_c {a b c d : Int} (h1 : sOk a b) (h2 : sOk c d) (w : World) : Calls Try.prog 181 #[.agg #[.int .i64 a, .int .i64 b], .agg #[.int .i64 c, .int .i64 d]] w fun e w' => e = .returned (.int .i64 (cosD a b c d)) ∧ Below w.heap.size w w' := by
  have sa := S_bd a
  have sc := S_bd c
  have ca := Co_bd a
  have cc := Co_bd c
  have cd := Co_bd (d - b)
  obtain ⟨p0, p1⟩ := mul_bd (x := S a) (y := S c) sa sc
  obtain ⟨q0, q1⟩ := mul_bd (x := Co a) (y := Co c) ca cc
  obtain ⟨r0, r1⟩ := mul_bd (x := Co a * Co c) (y := Co (d - b)) (X := 1000000000000) (Y := 1000000) (by omega) cd
  clear sa sc ca cc cd
  have k0 : IntKind.i64.wrap (d - b) = d - b := IntWalk.i64_in _ (by omega)
  have k1 : IntKind.i64.wrap (S a * S c) = S a * S c := IntWalk.i64_in _ (by omega)
  have k2 : IntKind.i64.wrap (S a * S c * 1000000) = S a * S c * 1000000 := IntWalk.i64_in _ (by omega)
  have k3 : IntKind.i64.wrap (Co a * Co c) = Co a * Co c := IntWalk.i64_in _ (by omega)
  have k4 : IntKind.i64.wrap (Co a * Co c * Co (d - b)) = Co a * Co c * Co (d - b) := IntWalk.i64_in _ (by omega)
  have k5 : IntKind.i64.wrap (S a * S c * 1000000 + Co a * Co c * Co (d - b)) = S a * S c * 1000000 + Co a * Co c * Co (d - b) := IntWalk.i64_in _ (by omega)
  go_enter Try.func181, Try.ntmps181
  go_wp2_with (first | (go_at_call 195; (with_reducible refine (spec_l03Sine_c _).mono ?_); rintro e w' ⟨rfl, ⟨nd, rfl⟩⟩) | (go_at_call 188; (with_reducible refine (spec_l03Cosine_c _ (by omega) (by omega)).mono ?_); rintro e w' ⟨rfl, ⟨nd, rfl⟩⟩) | (go_at_call 197; (with_reducible refine (spec_l00Floor_c _ (by omega) (by omega) (by omega)).mono ?_); rintro e w' ⟨rfl, ⟨nd, rfl⟩⟩) | (go_at_call 196; (with_reducible refine (spec_l00Min_v _).mono ?_); rintro e w' ⟨rfl, ⟨nd, rfl⟩⟩) | (go_at_call 145; (with_reducible refine (spec_l00Max_v _).mono ?_); rintro e w' ⟨rfl, ⟨nd, rfl⟩⟩))
  repeat (go_quiet (first | (go_at_call 195; first | exact quiet0 (spec_l03Sine_c _) | exact quiet1 (spec_l03Sine_c _)) | (go_at_call 188; first | exact quiet0 (spec_l03Cosine_c _ (by omega) (by omega)) | exact quiet1 (spec_l03Cosine_c _ (by omega) (by omega))) | (go_at_call 197; first | exact quiet0 (spec_l00Floor_c _ (by omega) (by omega) (by omega)) | exact quiet1 (spec_l00Floor_c _ (by omega) (by omega) (by omega))) | (go_at_call 196; first | exact quiet0 (spec_l00Min_v _) | exact quiet1 (spec_l00Min_v _)) | (go_at_call 145; first | exact quiet0 (spec_l00Max_v _) | exact quiet1 (spec_l00Max_v _))); try go_wp2_with (first | (go_at_call 195; (with_reducible refine (spec_l03Sine_c _).mono ?_); rintro e w' ⟨rfl, ⟨nd, rfl⟩⟩) | (go_at_call 188; (with_reducible refine (spec_l03Cosine_c _ (by omega) (by omega)).mono ?_); rintro e w' ⟨rfl, ⟨nd, rfl⟩⟩) | (go_at_call 197; (with_reducible refine (spec_l00Floor_c _ (by omega) (by omega) (by omega)).mono ?_); rintro e w' ⟨rfl, ⟨nd, rfl⟩⟩) | (go_at_call 196; (with_reducible refine (spec_l00Min_v _).mono ?_); rintro e w' ⟨rfl, ⟨nd, rfl⟩⟩) | (go_at_call 145; (with_reducible refine (spec_l00Max_v _).mono ?_); rintro e w' ⟨rfl, ⟨nd, rfl⟩⟩)))
  all_goals go_ret
  all_goals exact ⟨ret_int (by (try unfold mxD mnD); unfold cosD mx mn cosV; (repeat' split) <;> omega), by repeat (first | (with_reducible exact Below.refl _ _) | apply below_alloc | apply pw_below_drewN | apply below_drew | exact Below.refl _ _)⟩
end Go.Proofs.Ytkfbbaaniglaeaa.Con
end
