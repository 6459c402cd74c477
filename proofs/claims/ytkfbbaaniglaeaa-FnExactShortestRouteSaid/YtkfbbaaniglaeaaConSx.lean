/- slices.Index and slices.Contains at int64. Conditions: as stated. -/
import Derived.Test.YtkfbbaaniglaeaaConSs
import Derived.Test.YtkfbbaaniglaeaaShelf
namespace Go.Proofs.Ytkfbbaaniglaeaa.Con
open Go.RowKit Go.Proofs.YtkfbbaaniglaeaaW.PrintWords Go.Proofs.YtkfbbaaniglaeaaW.PrintLast Go.Proofs.YtkfbbaaniglaeaaW.PrintMore Go.Proofs.Ytkfbbaaniglaeaa.Mth
attribute [local go_sem] max2_int min2_int max_two min_two max_three min_three
set_option linter.unusedVariables false
set_option linter.unusedSimpArgs false
def Fidx (l : List Int) (x : Int) (w : World) (e : Ending) (w' : World) : Prop := ∃ k : Int, e = .returned (.int .i64 k) ∧ (0 ≤ k ↔ x ∈ l) ∧ Drawn0 w w'
theorem index_c {A : Option Addr} {c : Nat} {l : List Int} {x : Int} (w : World) (h : Kd.C (Kd.int .i64) w A l.length l) (hl : l.length ≤ 1000) : Calls Try.prog 177 #[.slice A l.length c, .int .i64 x] w (Fidx l x w) := by
  have hC := Aside0.mk h
  clear h
  go_enter Try.func177, Try.ntmps177
  go_wp2
  go_loopw [8] (fun k wr => ∃ i : Nat, i ≤ l.length ∧ k = .int .i64 i ∧ Aside0 (∀ j : Nat, j < i → rd l j ≠ x) ∧ Aside0 (∃ q, wr = w.drewN q)) (fun k _ => ((l.length : Int) - intOf k).toNat)
  case atStart => exact ⟨0, by omega, rfl, ⟨fun j hj => absurd hj (Nat.not_lt_zero _)⟩, ⟨by first | exact ⟨0, rfl⟩ | exact ⟨_, rfl⟩⟩⟩
  case round =>
    obtain ⟨i, hi, rfl, HN, HD⟩ := hrel
    obtain ⟨q, rfl⟩ := HD.out
    have k3 : IntKind.i64.wrap ((i : Int) + 1) = (i : Int) + 1 := IntWalk.i64_in _ (by omega)
    by_cases hlt : i < l.length
    · have hz : (i : Int) < (l.length : Int) := by omega
      obtain ⟨ad, e1, x0⟩ := Kd.at_int (Kd.C_drewN hC.out q) (i : Int) (by omega) hz
      subst e1
      rw [Int.toNat_natCast] at x0
      have hm := Aside0.mk (show rd l (i : Int) ∈ l by unfold rd; rw [Int.toNat_natCast, List.getD_eq_getElem?_getD, List.getElem?_eq_getElem hlt]; exact List.getElem_mem hlt)
      obtain ⟨v, hv⟩ : ∃ v, rd l (i : Int) = v := ⟨_, rfl⟩
      rw [hv] at x0
      replace hv := Aside0.mk hv
      by_cases e : x = v
      · subst e
        go_wp2
        go_ret
        exact ⟨i, rfl, ⟨fun _ => by rw [← hv.out]; exact hm.out, fun _ => by omega⟩, by first | exact ⟨_, rfl⟩ | (repeat apply Drawn0.step; exact Drawn0.refl _)⟩
      · have e2 : (x == v) = false := beq_eq_false_iff_ne.2 e
        go_wp2
        go_roundw
        case rel => exact ⟨i + 1, by omega, by go_num, ⟨fun j hj => by
          by_cases c : j = i
          · subst c; rw [hv.out]; exact fun h => e h.symm
          · exact HN.out j (by omega)⟩, ⟨⟨_, rfl⟩⟩⟩
        case measure => simp [intOf]; omega
    · have ei : i = l.length := by omega
      subst ei
      have hz : ¬ (l.length : Int) < (l.length : Int) := by omega
      go_wp2
      go_ret
      refine ⟨-1, rfl, ⟨fun h => by omega, fun h => ?_⟩, by first | exact ⟨_, rfl⟩ | (repeat apply Drawn0.step; exact Drawn0.refl _)⟩
      obtain ⟨j, hj, e⟩ := List.getElem_of_mem h
      exact absurd (by unfold rd; rw [Int.toNat_natCast, List.getD_eq_getElem?_getD, List.getElem?_eq_getElem hj]; exact e) (HN.out j hj)
theorem contains_c {A : Option Addr} {c : Nat} {l : List Int} {x : Int} {b : Bool} (w : World) (h : Kd.C (Kd.int .i64) w A l.length l) (hl : l.length ≤ 1000) (hb : decide (x ∈ l) = b) : Calls Try.prog 122 #[.slice A l.length c, .int .i64 x] w fun e w' => e = .returned (.bool b) ∧ Drawn0 w w' := by
  have hC := Aside0.mk h
  have hb := Aside0.mk hb
  clear h
  go_enter Try.func122, Try.ntmps122
  go_wp2_with (fail)
  refine (index_c _ (Kd.C_below hC.out ( by repeat (first | (with_reducible first | exact Below.refl _ _ | apply below_alloc | apply pw_below_drewN | apply below_drew1 | (refine below_step ?_ (by assumption))) | exact Below.refl _ _) )) hl).mono ?_
  rintro e w1 ⟨k, rfl, hk, ⟨nd, rfl⟩⟩
  by_cases h0 : 0 ≤ k
  · have hbt : b = true := by rw [← hb.out]; exact decide_eq_true (hk.1 h0)
    subst hbt
    clear hk
    go_wp2
    go_ret
    exact ⟨rfl, by repeat (first | exact Drawn0.refl _ | apply Drawn0.step)⟩
  · have hbf : b = false := by rw [← hb.out]; exact decide_eq_false (fun c => h0 (hk.2 c))
    subst hbf
    have h1 := Aside0.mk (show decide (0 ≤ k) = false from decide_eq_false h0)
    clear hk h0
    go_wp2
    go_ret
    exact ⟨by show Ending.returned (.bool (decide (0 ≤ k))) = _; rw [h1.out], by repeat (first | exact Drawn0.refl _ | apply Drawn0.step)⟩
theorem add_at (b off j : Nat) : (⟨b, off, none⟩ : Addr).add j = ⟨b, off + j, none⟩ := by
  unfold Addr.add
  by_cases h : j = 0
  · rw [if_pos h, h]; rfl
  · rw [if_neg h]
theorem clone_c {b off c : Nat} {l : List Int} (w : World) (hC : Kd.C (Kd.int .i64) w (some ⟨b, off, none⟩) l.length l) (hl : l.length ≤ 1000) : Calls Try.prog 121 #[.slice (some ⟨b, off, none⟩) l.length c] w fun e w' => ∃ v : Value, e = .returned v ∧ Kd.R (Kd.int .i64) 2 w' w.heap.size (fun _ => True) v l ∧ v ≠ .slice none 0 0 ∧ Below w.heap.size w w' := by
  refine (Try.slices_Clone_int b off l.length c l w (Nat.le_refl _) (by omega) (fun j hj => ?_)).mono ?_
  · obtain ⟨ad, e1, x0⟩ := Kd.at_int hC (j : Int) (by omega) (by omega)
    obtain rfl : (⟨b, off, none⟩ : Addr) = ad := Option.some.inj e1
    rw [Int.toNat_natCast, add_at] at x0
    exact x0
  · rintro e w' ⟨v, rfl, ho, hn, hb⟩
    rw [List.take_length] at ho
    exact ⟨v, rfl, Kd.R_of_own (enc := Value.int .i64) ho (fun _ _ => trivial), hn, hb⟩
end Go.Proofs.Ytkfbbaaniglaeaa.Con
