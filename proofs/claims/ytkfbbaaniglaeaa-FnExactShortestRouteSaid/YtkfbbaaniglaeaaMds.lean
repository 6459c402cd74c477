/- Plain facts on distances that do not change: both ways, turned, mirrored: no Go and no memory here. Conditions: as each lemma states them. -/
import Derived.Test.YtkfbbaaniglaeaaMdi
namespace Go.Proofs.Ytkfbbaaniglaeaa.Mth
open Go.RowKit Go.Proofs.YtkfbbaaniglaeaaW.PrintWords Go.Proofs.YtkfbbaaniglaeaaW.PrintLast Go.Proofs.YtkfbbaaniglaeaaW.PrintMore
set_option linter.unusedVariables false
set_option linter.unusedSimpArgs false
theorem Co_cong {x y : Int} (h : x % 1296000 = y % 1296000) : Co x = Co y := S_cong (by omega)
theorem cosD_sym (a b c d : Int) : cosD c d a b = cosD a b c d := by
  unfold cosD cosV
  have e : Co (b - d) = Co (d - b) := by rw [← Co_neg (d - b)]; congr 1; omega
  rw [e, Int.mul_comm (S c) (S a), Int.mul_comm (Co c) (Co a)]
theorem dist_sym (a b c d : Int) : dist c d a b = dist a b c d := by
  unfold dist; rw [cosD_sym]
  by_cases h : a = c ∧ b = d
  · rw [if_pos h, if_pos ⟨h.1.symm, h.2.symm⟩]
  · rw [if_neg h, if_neg (fun e => h ⟨e.1.symm, e.2.symm⟩)]
theorem cosD_turn (a b c d t : Int) : cosD a (W (b + t)) c (W (d + t)) = cosD a b c d := by
  have e : Co (W (d + t) - W (b + t)) = Co (d - b) := Co_cong (by unfold W; omega)
  unfold cosD cosV; rw [e]
theorem W_inj {b d t : Int} (hb : -648000 ≤ b ∧ b ≤ 647999) (hd : -648000 ≤ d ∧ d ≤ 647999) : W (b + t) = W (d + t) ↔ b = d := by
  unfold W; omega
theorem dist_turn {a b c d : Int} (hb : -648000 ≤ b ∧ b ≤ 647999) (hd : -648000 ≤ d ∧ d ≤ 647999) (t : Int) : dist a (W (b + t)) c (W (d + t)) = dist a b c d := by
  unfold dist; rw [cosD_turn]
  by_cases h : a = c ∧ b = d
  · rw [if_pos h, if_pos ⟨h.1, (W_inj hb hd).2 h.2⟩]
  · rw [if_neg h, if_neg (fun e => h ⟨e.1, (W_inj hb hd).1 e.2⟩)]
theorem cosD_mirror (a b c d : Int) : cosD (-a) b (-c) d = cosD a b c d := by
  unfold cosD cosV; rw [S_neg, S_neg, Co_neg, Co_neg, Int.neg_mul_neg]
theorem dist_mirror (a b c d : Int) : dist (-a) b (-c) d = dist a b c d := by
  unfold dist; rw [cosD_mirror]
  by_cases h : a = c ∧ b = d
  · rw [if_pos h, if_pos ⟨by omega, h.2⟩]
  · rw [if_neg h, if_neg (fun e => h ⟨by omega, e.2⟩)]
theorem dist_same (a b : Int) : dist a b a b = 0 := if_pos ⟨rfl, rfl⟩
theorem dist_apart {a b c d : Int} (h : ¬ (a = c ∧ b = d)) : 1 ≤ dist a b c d ∧ (0 ≤ cosD a b c d → dist a b c d ≤ 324000) ∧ (cosD a b c d < 0 → 324000 < dist a b c d) := by
  have hb := cosD_bd a b c d
  unfold dist; rw [if_neg h]
  by_cases z : cosD a b c d < 0
  · rw [if_pos z]
    have k := Ar_spec (s := -cosD a b c d) (by omega) (by omega)
    have k0 := k.lo
    have k1 : Ar (-cosD a b c d) ≠ 0 := by
      intro e
      have := k.at_
      rw [e, S_0] at this; omega
    omega
  · rw [if_neg z]
    have k := Ar_bd (s := cosD a b c d) (by omega) (by omega)
    unfold mx; split <;> omega
theorem RDistanceOf_in {a b c d : Int} (h1 : sOk a b) (h2 : sOk c d) : RDistanceOf a b c d = (dist a b c d, 0) := if_pos ⟨h1, h2⟩
theorem RCosDistance_in {a b c d : Int} (h1 : sOk a b) (h2 : sOk c d) : RCosDistance a b c d = (cosD a b c d, 0) := if_pos ⟨h1, h2⟩
end Go.Proofs.Ytkfbbaaniglaeaa.Mth
