/- Plain facts on tables of sines and what lies between their steps: no Go and no memory here. Conditions: as each lemma states them. -/
import Derived.Test.YtkfbbaaniglaeaaMta
namespace Go.Proofs.Ytkfbbaaniglaeaa.Mth
open Go.RowKit Go.Proofs.YtkfbbaaniglaeaaW.PrintWords Go.Proofs.YtkfbbaaniglaeaaW.PrintLast Go.Proofs.YtkfbbaaniglaeaaW.PrintMore
set_option linter.unusedVariables false
set_option linter.unusedSimpArgs false
theorem near_in {a b D E : Int} (hb : 0 < b) (h0 : E * b ≤ a) (h1 : a ≤ D * b) : E ≤ near a b ∧ near a b ≤ D := by
  unfold near
  refine ⟨(Int.le_ediv_iff_mul_le (by omega)).2 ?_, Int.le_of_lt_add_one (Int.ediv_lt_of_lt_mul (by omega) ?_)⟩
  · have e : E * (2 * b) = 2 * (E * b) := by grind
    omega
  · have e : (D + 1) * (2 * b) = 2 * (D * b) + 2 * b := by grind
    omega
theorem near_0 {b : Int} (hb : 0 < b) : near 0 b = 0 := by
  have := near_in (a := 0) (b := b) (D := 0) (E := 0) hb (by omega) (by omega)
  omega
theorem betw_at {p : Int} (hp : 0 < p) (k : Int) : betw p (k * p) = S (k * p) := by
  unfold betw
  rw [Int.mul_ediv_cancel k (by omega)]
  rw [show k * p - k * p = 0 by omega, Int.zero_mul, near_0 hp]; omega
theorem betw_in {p n r : Int} (hp : 0 < p) (r0 : 0 ≤ r) (r1 : r < p) : (S (n * p) ≤ betw p (n * p + r) ∧ betw p (n * p + r) ≤ S ((n + 1) * p)) ∨ (S ((n + 1) * p) ≤ betw p (n * p + r) ∧ betw p (n * p + r) ≤ S (n * p)) := by
  have e : (n * p + r) / p = n := by
    rw [Int.add_comm, Int.add_mul_ediv_right _ _ (by omega), Int.ediv_eq_zero_of_lt r0 r1]; omega
  unfold betw
  rw [e, show n * p + r - n * p = r by omega]
  generalize S ((n + 1) * p) = y
  generalize S (n * p) = x
  by_cases h : x ≤ y
  · left
    have k0 := Int.mul_nonneg r0 (show 0 ≤ y - x by omega)
    have k1 := Int.mul_le_mul_of_nonneg_right (show r ≤ p by omega) (show 0 ≤ y - x by omega)
    have := near_in (a := r * (y - x)) (b := p) (D := y - x) (E := 0) hp (by omega) (by rw [Int.mul_comm (y - x) p]; exact k1)
    omega
  · right
    have k0 := Int.mul_nonneg r0 (show 0 ≤ x - y by omega)
    have k1 := Int.mul_le_mul_of_nonneg_right (show r ≤ p by omega) (show 0 ≤ x - y by omega)
    have e1 : r * (y - x) = -(r * (x - y)) := by grind
    have e2 : (y - x) * p = -(p * (x - y)) := by grind
    have := near_in (a := r * (y - x)) (b := p) (D := 0) (E := y - x) hp (by omega) (by omega)
    omega
theorem Co_mono {x y : Int} (h0 : 0 ≤ x) (h : x ≤ y) (h1 : y ≤ 324000) : Co y ≤ Co x := by
  unfold Co
  rw [← S_sup (y + 324000), ← S_sup (x + 324000)]
  exact S_mono (by omega) (by omega) (by omega)
theorem Co_nn' {x : Int} (h0 : 0 ≤ x) (h1 : x ≤ 324000) : 0 ≤ Co x := by
  unfold Co; rw [S_half (by omega) (by omega)]; exact H_nn (by omega) (by omega)
theorem near_mono {a b c : Int} (hb : 0 < b) (h : a ≤ c) : near a b ≤ near c b := by
  unfold near; exact Int.ediv_le_ediv (by omega) (by omega)
theorem near_mul {n b : Int} (hb : 0 < b) : near (n * b) b = n := by
  have := near_in (a := n * b) (b := b) (D := n) (E := n) hb (by omega) (by omega)
  omega
theorem wid_mono {n l : Int} (hn : 0 ≤ n) (h0 : 0 ≤ l) (h1 : l ≤ 320400) : 0 ≤ near (n * Co (l + 3600)) 1000000 ∧ near (n * Co (l + 3600)) 1000000 ≤ near (n * Co l) 1000000 :=
  ⟨near_nn (by decide) (Int.mul_nonneg hn (Co_nn' (by omega) (by omega))), near_mono (by decide) (Int.mul_le_mul_of_nonneg_left (Co_mono (by omega) (by omega) (by omega)) hn)⟩
theorem wid_0 (n : Int) : near (n * Co 0) 1000000 = n := by rw [show Co 0 = 1000000 from S_q]; exact near_mul (by decide)
theorem wstI_0 (p : Int) : wstI p 0 = 0 := rfl
end Go.Proofs.Ytkfbbaaniglaeaa.Mth
