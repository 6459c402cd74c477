/- Plain facts on gores, discs and rims: no Go and no memory here. Conditions: as each lemma states them. -/
import Derived.Test.YtkfbbaaniglaeaaMth
namespace Go.Proofs.Ytkfbbaaniglaeaa.Mth
open Go.RowKit Go.Proofs.YtkfbbaaniglaeaaW.PrintWords Go.Proofs.YtkfbbaaniglaeaaW.PrintLast Go.Proofs.YtkfbbaaniglaeaaW.PrintMore
set_option linter.unusedVariables false
set_option linter.unusedSimpArgs false
abbrev papOk (n : Int) : Prop := 1 ≤ n ∧ n ≤ 100000
abbrev lstepOk (n : Int) : Prop := 3240 ≤ n ∧ n ≤ 324000
def gw (g n l : Int) : Int := near (n * Co l) (1000000 * g)
def par (n l : Int) : Int := near (n * Co l) 1000000
def clo (g n l : Int) : Int := g * gw g n l - par n l
theorem nCo_bd {n : Int} (hn : arOk n) (l : Int) : -1000000000000 ≤ n * Co l ∧ n * Co l ≤ 1000000000000 := by
  obtain ⟨a, b⟩ := mul_bd (x := n) (y := Co l) (X := 1000000) (Y := 1000000) (by omega) (Co_bd l)
  omega
theorem gw_bd {g n : Int} (hg : 6 ≤ g ∧ g ≤ 48) (hn : arOk n) (l : Int) : -1000000 ≤ gw g n l ∧ gw g n l ≤ 1000000 := by
  have a := nCo_bd hn l
  exact near_bd (by omega) (by omega) (by omega)
theorem par_bd {n : Int} (hn : arOk n) (l : Int) : -1000000 ≤ par n l ∧ par n l ≤ 1000000 := by
  have a := nCo_bd hn l
  exact near_bd (by omega) (by omega) (by omega)
theorem ggw_bd {g n : Int} (hg : 6 ≤ g ∧ g ≤ 48) (hn : arOk n) (l : Int) : -48000000 ≤ g * gw g n l ∧ g * gw g n l ≤ 48000000 := by
  obtain ⟨a, b⟩ := mul_bd (x := g) (y := gw g n l) (X := 48) (Y := 1000000) (by omega) (gw_bd hg hn l)
  omega
def RGoreWidth (g n l : Int) : Int × Int := if gOk g then (if arOk n ∧ latOk l then (gw g n l, 0) else (0, 2)) else (0, 1)
def RClosingAt (g n l : Int) : Int × Int := if gOk g then (if arOk n ∧ latOk l then (clo g n l, 0) else (0, 2)) else (0, 1)
def wid (g n : Int) : Int := if 1 < gw g n 0 then gw g n 0 else 1
def sheets (g n p : Int) : Int × Int := if p < wid g n then (0, 5) else (-(-g / (p / wid g n)), 0)
def RSheetsForGores (g n p : Int) : Int × Int := if gOk g then (if arOk n ∧ papOk p then sheets g n p else (0, 2)) else (0, 1)
abbrev fewP (n p g : Int) : Prop := gOk g ∧ gw g n 0 ≤ p
def fewF (n p : Int) : Nat → Int → Int × Int
  | 0, _ => (0, 3)
  | d + 1, g => if fewP n p g then (g, 0) else fewF n p d (g + 1)
def RFewestGores (n p : Int) : Int × Int := if arOk n ∧ papOk p then fewF n p 43 6 else (0, 2)
theorem fewF_yes {n p g : Int} (d : Nat) (h : fewP n p g) : fewF n p (d + 1) g = (g, 0) := if_pos h
theorem fewF_no {n p g : Int} (d : Nat) (h : ¬ fewP n p g) : fewF n p (d + 1) g = fewF n p d (g + 1) := if_neg h
def rimX (n l : Int) : Int := near (710 * arcLen n (324000 - l)) 113 - par n l
theorem arcLen_bd {n a : Int} (hn : arOk n) (ha : 0 ≤ a ∧ a ≤ 1296000) : 0 ≤ arcLen n a ∧ arcLen n a ≤ 1000000 := by
  obtain ⟨m0, m1⟩ := mul_nn_bd (x := n) (y := a) (X := 1000000) (Y := 1296000) (by omega) (by omega)
  exact ⟨near_nn (by omega) m0, (near_bd (B := 1000000) (by omega) (by omega) (by omega)).2⟩
theorem rim_bd {n l : Int} (hn : arOk n) (hl : northOk l) : 0 ≤ near (710 * arcLen n (324000 - l)) 113 ∧ near (710 * arcLen n (324000 - l)) 113 ≤ 100000000 := by
  have a := arcLen_bd hn (a := 324000 - l) (by omega)
  exact ⟨near_nn (by omega) (by omega), (near_bd (B := 100000000) (by omega) (by omega) (by omega)).2⟩
def RRimExcess (n l : Int) : Int × Int := if arOk n ∧ northOk l then (rimX n l, 0) else (0, 2)
def pos (x : Int) : Int := if 0 < x then x else 0
def slits (n l m : Int) : Int := -(-(pos (rimX n l)) / m)
def RSlitsFor (n l m : Int) : Int × Int := if arOk n ∧ northOk l ∧ brOk m then (if 72 < slits n l m then (0, 5) else (slits n l m, 0)) else (0, 2)
theorem pos_bd {x X : Int} (h : x ≤ X) (h0 : 0 ≤ X) : 0 ≤ pos x ∧ pos x ≤ X := by unfold pos; split <;> omega
theorem rimX_bd {n l : Int} (hn : arOk n) (hl : northOk l) : -1000000 ≤ rimX n l ∧ rimX n l ≤ 101000000 := by
  have a := rim_bd hn hl
  have b := par_bd hn l
  unfold rimX; omega
def cod12 (q p : Prop) [Decidable q] [Decidable p] : Int := if q then (if p then 0 else 2) else 1
def cod2 (p : Prop) [Decidable p] : Int := if p then 0 else 2
def discB (n r : Int) (ok : Bool) : Int := if arOk n ∧ radOk r ∧ ok = true then (if n < 4 * r then 5 else 0) else 2
theorem discB_0 {n r : Int} {ok : Bool} (h : discB n r ok = 0) : arOk n ∧ radOk r ∧ 4 * r ≤ n ∧ ok = true := by
  unfold discB at h
  by_cases g : arOk n ∧ radOk r ∧ ok = true
  · rw [if_pos g] at h
    by_cases e : n < 4 * r
    · rw [if_pos e] at h; omega
    · exact ⟨g.1, g.2.1, by omega, g.2.2⟩
  · rw [if_neg g] at h; omega
def onC (c : Int) (p : Int) : Int × Int := if c = 0 then (p, 0) else (0, c)
def RCapOverlap (n r l : Int) : Int × Int := onC (discB n r (decide (northOk l))) (r - arcLen n (324000 - l))
def RCapEdgeB (n r : Int) : Int × Int := onC (discB n r true) (edge n r)
def capV (n l o : Int) : Int := arcLen n (324000 - l) + o
def RSmallestCap (n l o : Int) : Int × Int := if arOk n ∧ northOk l ∧ radOk o then (if 100000 < capV n l o ∨ n < 4 * capV n l o then (0, 5) else (capV n l o, 0)) else (0, 2)
/-- A quotient, rounded up: two ways to reckon it. -/
theorem ceil_eq {a b : Int} (hb : 0 < b) : -(-a / b) = (a + b - 1) / b := by
  have h1 := Int.emod_nonneg (-a) (show b ≠ 0 by omega)
  have h2 := Int.emod_lt_of_pos (-a) hb
  have h3 := Int.mul_ediv_add_emod (-a) b
  exact ((div_parts hb (a := a + b - 1) (q := -(-a / b)) (r := b - 1 - -a % b) (by rw [Int.mul_neg]; omega) (by omega) (by omega)).1).symm
theorem ceil_bd {a b A : Int} (hb : 0 < b) (h0 : 0 ≤ a) (h1 : a ≤ A) : 0 ≤ -(-a / b) ∧ -(-a / b) ≤ A := by
  rw [ceil_eq hb]
  refine ⟨Int.ediv_nonneg (by omega) (by omega), ?_⟩
  rw [← Int.lt_add_one_iff, Int.ediv_lt_iff_lt_mul hb]
  have := Int.mul_nonneg (show 0 ≤ A by omega) (show 0 ≤ b - 1 by omega)
  grind
end Go.Proofs.Ytkfbbaaniglaeaa.Mth
