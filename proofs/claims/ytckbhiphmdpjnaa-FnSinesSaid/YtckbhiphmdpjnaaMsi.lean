/- Plain facts on sines, tangents and arcs together: no Go and no memory here. Conditions: as each lemma states them. -/
import Derived.Test.YtckbhiphmdpjnaaMdi
namespace Go.Proofs.Ytckbhiphmdpjnaa.Mth
open Go.RowKit Go.Proofs.YtckbhiphmdpjnaaW.PrintWords Go.Proofs.YtckbhiphmdpjnaaW.PrintLast Go.Proofs.YtckbhiphmdpjnaaW.PrintMore
set_option linter.unusedVariables false
set_option linter.unusedSimpArgs false
theorem RSineOf_in {a : Int} (h : angOk a) : RSineOf a = (S a, 0) := if_pos h
theorem RCosineOf_in {a : Int} (h : angOk a) : RCosineOf a = (Co a, 0) := if_pos h
theorem RArcOf_in {s : Int} (h0 : 0 ≤ s) (h1 : s ≤ 1000000) : RArcOf s = (Ar s, 0) := if_pos ⟨h0, h1⟩
theorem S_nn {x : Int} (h0 : 0 ≤ x) (h1 : x ≤ 648000) : 0 ≤ S x := by rw [S_half h0 h1]; exact H_nn h0 h1
theorem Ar_le {x : Int} (h0 : 0 ≤ x) (h1 : x ≤ 324000) : Ar (S x) ≤ x := by
  have k := Ar_spec (S_nn h0 (by omega)) (S_bd x).2
  by_cases g : Ar (S x) ≤ x
  · exact g
  · have := k.least x h0 (by omega); omega
theorem Ar_at {s : Int} (h0 : 0 ≤ s) (h1 : s ≤ 1000000) : s ≤ S (Ar s) := (Ar_spec h0 h1).at_
theorem Ar_less {s : Int} (h0 : 0 ≤ s) (h1 : s ≤ 1000000) (h : 0 < Ar s) : S (Ar s - 1) < s := (Ar_spec h0 h1).least _ (by omega) (by omega)
theorem tan_bd {v k : Int} (v0 : 0 ≤ v) (v1 : v ≤ 1000000) (k0 : 0 < k) (k1 : k ≤ 1000000) :
    0 ≤ near (1000000 * v) k ∧ near (1000000 * v) k ≤ 1000000000000 ∧ 2 * near (1000000 * v) k * k ≤ 2 * 1000000 * v + k ∧ 2 * 1000000 * v - k < 2 * near (1000000 * v) k * k := by
  have n0 : 0 ≤ near (1000000 * v) k := near_nn k0 (by omega)
  have n1 : near (1000000 * v) k ≤ 1000000000000 := by
    have := Int.mul_nonneg (show 0 ≤ k - 1 by omega) (show (0 : Int) ≤ 1000000000000 by omega)
    exact (near_bd (B := 1000000000000) k0 (by omega) (by omega)).2
  have d := Int.mul_ediv_add_emod (2 * (1000000 * v) + k) (2 * k)
  have e0 := Int.emod_nonneg (2 * (1000000 * v) + k) (show 2 * k ≠ 0 by omega)
  have e1 := Int.emod_lt_of_pos (2 * (1000000 * v) + k) (show 0 < 2 * k by omega)
  have e : 2 * near (1000000 * v) k * k = 2 * k * ((2 * (1000000 * v) + k) / (2 * k)) := by unfold near; grind
  omega
theorem Co_nn {x : Int} (h0 : 0 ≤ x) (h1 : x ≤ 324000) : 0 ≤ Co x := S_nn (by omega) (by omega)
end Go.Proofs.Ytckbhiphmdpjnaa.Mth
