/- Plain facts on distances: no Go and no memory here. Conditions: as each lemma states them. -/
import Derived.Test.YtkfbbaaniglaeaaMth
namespace Go.Proofs.Ytkfbbaaniglaeaa.Mth
open Go.RowKit Go.Proofs.YtkfbbaaniglaeaaW.PrintWords Go.Proofs.YtkfbbaaniglaeaaW.PrintLast Go.Proofs.YtkfbbaaniglaeaaW.PrintMore
set_option linter.unusedVariables false
set_option linter.unusedSimpArgs false
def mxD (a b : Int) : Int := if b < a then a else b
def mnD (a b : Int) : Int := if a < b then a else b
def cosV (a b c d : Int) : Int := (S a * S c * 1000000 + Co a * Co c * Co (d - b)) / 1000000000000
def cosD (a b c d : Int) : Int := mx (-1000000) (mn 1000000 (cosV a b c d))
noncomputable def dist (a b c d : Int) : Int := if a = c ∧ b = d then 0 else if cosD a b c d < 0 then 324000 + Ar (-cosD a b c d) else mx 1 (324000 - Ar (cosD a b c d))
noncomputable def RDistanceOf (a b c d : Int) : Int × Int := if sOk a b ∧ sOk c d then (dist a b c d, 0) else (0, 1)
def RCosDistance (a b c d : Int) : Int × Int := if sOk a b ∧ sOk c d then (cosD a b c d, 0) else (0, 1)
theorem cosD_bd (a b c d : Int) : -1000000 ≤ cosD a b c d ∧ cosD a b c d ≤ 1000000 := by
  unfold cosD mx mn; repeat' split
  all_goals omega
theorem Ar_spec {s : Int} (h0 : 0 ≤ s) (h1 : s ≤ 1000000) : IsArc s (Ar s) := by
  have : ∃ r, IsArc s r := by
    have key : ∀ d : Nat, d ≤ 324000 → (∃ r, IsArc s r) ∨ ∀ y : Int, 0 ≤ y → y < d → S y < s := by
      intro d
      induction d with
      | zero => intro _; exact Or.inr (fun y a b => by omega)
      | succ d ih =>
        intro hd
        rcases ih (by omega) with h | h
        · exact Or.inl h
        · by_cases g : s ≤ S d
          · exact Or.inl ⟨d, by omega, by omega, g, h⟩
          · refine Or.inr (fun y a b => ?_)
            by_cases e : y = d
            · subst e; omega
            · exact h y a (by omega)
    rcases key 324000 (Nat.le_refl _) with h | h
    · exact h
    · exact ⟨324000, by omega, by omega, by rw [S_q]; exact h1, h⟩
  obtain ⟨r, hr⟩ := this
  rw [hr.eq]; exact hr
theorem Ar_bd {s : Int} (h0 : 0 ≤ s) (h1 : s ≤ 1000000) : 0 ≤ Ar s ∧ Ar s ≤ 324000 := ⟨(Ar_spec h0 h1).lo, (Ar_spec h0 h1).hi⟩
theorem dist_bd (a b c d : Int) : 0 ≤ dist a b c d ∧ dist a b c d ≤ 648000 := by
  have h := cosD_bd a b c d
  unfold dist
  split
  · omega
  · split
    · have := Ar_bd (s := -cosD a b c d) (by omega) (by omega); omega
    · have := Ar_bd (s := cosD a b c d) (by omega) (by omega)
      unfold mx; split <;> omega
end Go.Proofs.Ytkfbbaaniglaeaa.Mth
