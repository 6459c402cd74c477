/- Plain facts on lists of widths and worst closings: no Go and no memory here. Conditions: as each lemma states them. -/
import Derived.Test.YtkfbbaaniglaeaaMgo
import Derived.Test.YtkfbbaaniglaeaaMta
namespace Go.Proofs.Ytkfbbaaniglaeaa.Mth
open Go.RowKit Go.Proofs.YtkfbbaaniglaeaaW.PrintWords Go.Proofs.YtkfbbaaniglaeaaW.PrintLast Go.Proofs.YtkfbbaaniglaeaaW.PrintMore
set_option linter.unusedVariables false
set_option linter.unusedSimpArgs false
def gwT (g n s : Int) (k : Nat) : List Int := (List.range k).map fun (i : Nat) => gw g n ((i : Int) * s)
theorem gwT_succ (g n s : Int) (k : Nat) : gwT g n s (k + 1) = gwT g n s k ++ [gw g n ((k : Int) * s)] := by
  unfold gwT; rw [List.range_succ, List.map_append]; rfl
theorem gwT_len (g n s : Int) (k : Nat) : (gwT g n s k).length = k := by simp [gwT]
theorem gwT_rd (g n s : Int) (k : Nat) {i : Int} (h0 : 0 ≤ i) (h1 : i < k) : rd (gwT g n s k) i = gw g n (i * s) := by
  unfold rd gwT
  rw [List.getD_eq_getElem?_getD, List.getElem?_map, List.getElem?_range (by omega)]
  show gw g n ((i.toNat : Int) * s) = _
  rw [show ((i.toNat : Nat) : Int) = i by omega]
/-- How many parallels there are from 0 to a quarter turn. -/
def lats (s : Int) : Nat := (324000 / s).toNat + 1
theorem lats_le {s : Int} (h : lstepOk s) : lats s ≤ 101 := by
  have h1 : 324000 / s ≤ 100 := by
    rw [← Int.lt_add_one_iff, Int.ediv_lt_iff_lt_mul (by omega)]; omega
  have h0 : 0 ≤ 324000 / s := Int.ediv_nonneg (by omega) (by omega)
  unfold lats; omega
theorem lats_in {s : Int} (h : lstepOk s) {k : Nat} (hk : (k : Int) * s ≤ 324000) : k < lats s := by
  have h0 : (k : Int) ≤ 324000 / s := (Int.le_ediv_iff_mul_le (by omega)).2 hk
  unfold lats; omega
theorem lats_out {s : Int} (h : lstepOk s) {k : Nat} (hk : ¬ (k : Int) * s ≤ 324000) : lats s ≤ k := by
  have h0 : 324000 / s < (k : Int) := (Int.ediv_lt_iff_lt_mul (by omega)).2 (by omega)
  have h1 : 0 ≤ 324000 / s := Int.ediv_nonneg (by omega) (by omega)
  unfold lats; omega
def RGoreWidths (g n s : Int) : List Int × Int := if gOk g then (if arOk n ∧ lstepOk s then (gwT g n s (lats s), 0) else ([], 2)) else ([], 1)
theorem RGoreWidths_len (g n s : Int) : (RGoreWidths g n s).1.length ≤ 101 := by
  unfold RGoreWidths; split
  · split
    · rename_i h; rw [gwT_len]; exact lats_le h.2
    · simp
  · simp
theorem clo_bd {g n : Int} (hg : 6 ≤ g ∧ g ≤ 48) (hn : arOk n) (l : Int) : -49000000 ≤ clo g n l ∧ clo g n l ≤ 49000000 := by
  have a := ggw_bd hg hn l
  have b := par_bd hn l
  unfold clo; omega
/-- The parallel with the worst closing among the first k. -/
def wcB (g n s : Int) : Nat → Int
  | 0 => 0
  | k + 1 => if ab (clo g n (wcB g n s k)) < ab (clo g n ((k : Int) * s)) then (k : Int) * s else wcB g n s k
theorem wcB_yes {g n s : Int} {k : Nat} (h : ab (clo g n (wcB g n s k)) < ab (clo g n ((k : Int) * s))) : wcB g n s (k + 1) = (k : Int) * s := if_pos h
theorem wcB_no {g n s : Int} {k : Nat} (h : ¬ ab (clo g n (wcB g n s k)) < ab (clo g n ((k : Int) * s))) : wcB g n s (k + 1) = wcB g n s k := if_neg h
theorem wcB_1 (g n s : Int) : wcB g n s 1 = 0 := by unfold wcB; split <;> simp [wcB]
def RWorstClosing (g n s : Int) : Int × Int × Int := if gOk g then (if arOk n ∧ lstepOk s then (wcB g n s (lats s), clo g n (wcB g n s (lats s)), 0) else (0, 0, 2)) else (0, 0, 1)
end Go.Proofs.Ytkfbbaaniglaeaa.Mth
