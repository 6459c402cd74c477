/- Plain facts on tables of sines and lists of widths: no Go and no memory here. Conditions: as each lemma states them. -/
import Derived.Test.YtkfbbaaniglaeaaMgo
namespace Go.Proofs.Ytkfbbaaniglaeaa.Mth
open Go.RowKit Go.Proofs.YtkfbbaaniglaeaaW.PrintWords Go.Proofs.YtkfbbaaniglaeaaW.PrintLast Go.Proofs.YtkfbbaaniglaeaaW.PrintMore
set_option linter.unusedVariables false
set_option linter.unusedSimpArgs false
def sinT (p : Int) (n : Nat) : List Int := (List.range n).map fun (i : Nat) => S ((i : Int) * p)
theorem sinT_succ (p : Int) (n : Nat) : sinT p (n + 1) = sinT p n ++ [S ((n : Int) * p)] := by
  unfold sinT; rw [List.range_succ, List.map_append]; rfl
theorem sinT_len (p : Int) (n : Nat) : (sinT p n).length = n := by simp [sinT]
def RSineTable (p m : Int) : List Int × Int := if stepOk p ∧ (1 ≤ m ∧ m ≤ 100) then (sinT p m.toNat, 0) else ([], 2)
theorem RSineTable_len (p m : Int) : (RSineTable p m).1.length ≤ 100 := by
  unfold RSineTable; split
  · rw [sinT_len]; omega
  · simp
theorem sinT_rd (p : Int) (n : Nat) {i : Int} (h0 : 0 ≤ i) (h1 : i < n) : rd (sinT p n) i = S (i * p) := by
  unfold rd sinT
  rw [List.getD_eq_getElem?_getD, List.getElem?_map, List.getElem?_range (by omega)]
  show S ((i.toNat : Int) * p) = _
  rw [show ((i.toNat : Nat) : Int) = i by omega]
def ab (n : Int) : Int := if n < 0 then -n else n
theorem ab_mx (n : Int) : mx n (-n) = ab n := by unfold mx ab; split <;> split <;> omega
/-- The greatest difference of neighbours among the first n + 1. -/
def wstF (p : Int) : Nat → Int
  | 0 => 0
  | n + 1 => mx (wstF p n) (ab (S (((n : Int) + 1) * p) - S ((n : Int) * p)))
theorem wstF_bd (p : Int) (n : Nat) : 0 ≤ wstF p n ∧ wstF p n ≤ 2000000 := by
  induction n with
  | zero => unfold wstF; omega
  | succ n ih =>
    have a := S_bd (((n : Int) + 1) * p)
    have b := S_bd ((n : Int) * p)
    unfold wstF mx ab; repeat' split
    all_goals omega
def wstI (p i : Int) : Int := wstF p (i - 1).toNat
theorem wstI_bd (p i : Int) : 0 ≤ wstI p i ∧ wstI p i ≤ 2000000 := wstF_bd p _
theorem wstI_1 (p : Int) : wstI p 1 = 0 := rfl
theorem wstI_step {p i : Int} (h : 1 ≤ i) : wstI p (i + 1) = mx (wstI p i) (ab (S (i * p) - S ((i - 1) * p))) := by
  obtain ⟨k, hk⟩ : ∃ k : Nat, i = k + 1 := ⟨(i - 1).toNat, by omega⟩
  subst hk
  unfold wstI
  rw [show ((k : Int) + 1 + 1 - 1).toNat = k + 1 by omega, show ((k : Int) + 1 - 1).toNat = k by omega, wstF, show (k : Int) + 1 - 1 = k by omega]
def RWorstStep (p m : Int) : Int × Int := if stepOk p ∧ (1 ≤ m ∧ m ≤ 100) then (wstI p m, 0) else (0, 2)
end Go.Proofs.Ytkfbbaaniglaeaa.Mth
