/- Plain facts on lists of numbers and on rings: no Go and no memory here. Conditions: as each lemma states them. -/
import Derived.Test.YtkfbbaaniglaeaaMgo
namespace Go.Proofs.Ytkfbbaaniglaeaa.Mth
open Go.RowKit Go.Proofs.YtkfbbaaniglaeaaW.PrintWords Go.Proofs.YtkfbbaaniglaeaaW.PrintLast Go.Proofs.YtkfbbaaniglaeaaW.PrintMore
set_option linter.unusedVariables false
set_option linter.unusedSimpArgs false
theorem rd_set_eq {l : List Int} {i : Int} (x : Int) (h0 : 0 ≤ i) (h1 : i < l.length) : rd (l.set i.toNat x) i = x := by
  unfold rd; rw [List.getD_eq_getElem?_getD, List.getElem?_set_self (by omega)]; rfl
theorem rd_set_ne {l : List Int} {i j : Int} (x : Int) (h0 : 0 ≤ i) (h1 : 0 ≤ j) (h : i ≠ j) : rd (l.set i.toNat x) j = rd l j := by
  unfold rd; rw [List.getD_eq_getElem?_getD, List.getElem?_set_ne (by omega), ← List.getD_eq_getElem?_getD]
theorem rd_app_lt {l m : List Int} {i : Int} (h0 : 0 ≤ i) (h1 : i < l.length) : rd (l ++ m) i = rd l i := by
  unfold rd; rw [List.getD_eq_getElem?_getD, List.getElem?_append_left (by omega), ← List.getD_eq_getElem?_getD]
theorem rd_app_at (l : List Int) (x : Int) : rd (l ++ [x]) l.length = x := by
  unfold rd; simp
def ringL : Nat → Int → Int → Int → List Int
  | 0, _, _, _ => []
  | d + 1, r, w, x => if x < r then x :: ringL d r w (x + w) else if 0 < r then [r] else []
theorem ringL_yes {r w x : Int} (d : Nat) (h : x < r) : ringL (d + 1) r w x = x :: ringL d r w (x + w) := if_pos h
theorem ringL_no1 {r w x : Int} (d : Nat) (h : ¬ x < r) (z : 0 < r) : ringL (d + 1) r w x = [r] := by
  unfold ringL; rw [if_neg h, if_pos z]
theorem ringL_no2 {r w x : Int} (d : Nat) (h : ¬ x < r) (z : ¬ 0 < r) : ringL (d + 1) r w x = [] := by
  unfold ringL; rw [if_neg h, if_neg z]
theorem ringL_len (d : Nat) : ∀ r w x, (ringL d r w x).length ≤ d := by
  induction d with
  | zero => intro r w x; simp [ringL]
  | succ d ih =>
    intro r w x; unfold ringL
    split
    · have := ih r w (x + w); simp; omega
    · split <;> simp
def RRingsOf (r w : Int) : List Int × Int := if radOk r ∧ brOk w then (if 60 < -(-r / w) then ([], 5) else (ringL 61 r w w, 0)) else ([], 2)
theorem RRingsOf_len (r w : Int) : (RRingsOf r w).1.length ≤ 61 := by
  unfold RRingsOf; split
  · split
    · simp
    · exact ringL_len 61 r w w
  · simp
def RRingOf (n r w a b : Int) : Int × Int := if sOk a b then (if discB n r (decide (brOk w)) = 0 then (if 60 < -(-r / w) then (0, 5) else if a < edge n r then (0, 3) else (n * (324000 - a) / 1296000 / w, 0)) else (0, discB n r (decide (brOk w)))) else (0, 1)
theorem edge_bd {n r : Int} (hn : arOk n) (hr : radOk r) (h : 4 * r ≤ n) : 0 ≤ edge n r ∧ edge n r ≤ 324000 := by
  have q0 : 0 ≤ r * 1296000 / n := Int.ediv_nonneg (by omega) (by omega)
  have q1 : r * 1296000 / n ≤ 324000 := by
    rw [← Int.lt_add_one_iff, Int.ediv_lt_iff_lt_mul (by omega)]; omega
  unfold edge; omega
theorem spec_wa {n a : Int} (hn : arOk n) (h0 : 0 ≤ a) (h1 : a ≤ 324000) : 0 ≤ n * (324000 - a) ∧ n * (324000 - a) ≤ 324000000000 := by
  obtain ⟨a, b⟩ := mul_nn_bd (x := n) (y := 324000 - a) (X := 1000000) (Y := 324000) (by omega) (by omega)
  omega
theorem discB_2 {n r : Int} (h : ¬ (arOk n ∧ radOk r)) (ok : Bool) : discB n r ok = 2 := if_neg (fun e => h ⟨e.1, e.2.1⟩)
theorem discB_tt {n r : Int} (h : arOk n ∧ radOk r) : discB n r true = if n < 4 * r then 5 else 0 := if_pos ⟨h.1, h.2, rfl⟩
end Go.Proofs.Ytkfbbaaniglaeaa.Mth
