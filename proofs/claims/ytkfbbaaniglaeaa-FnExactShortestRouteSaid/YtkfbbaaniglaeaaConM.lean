/- Lists of places: what the program asks of them. Conditions: as stated. -/
import Derived.Test.YtkfbbaaniglaeaaConJ
import Derived.Test.YtkfbbaaniglaeaaPkS
namespace Go.Proofs.Ytkfbbaaniglaeaa.Con
open Go.RowKit Go.Proofs.YtkfbbaaniglaeaaW.PrintWords Go.Proofs.YtkfbbaaniglaeaaW.PrintLast Go.Proofs.YtkfbbaaniglaeaaW.PrintMore Go.Proofs.Ytkfbbaaniglaeaa.Mth
attribute [local go_sem] max2_int min2_int max_two min_two max_three min_three
set_option linter.unusedVariables false
set_option linter.unusedSimpArgs false
abbrev Sp := PFnExactUnderCap.S52
abbrev kSp : Kd Sp := PFnExactUnderCap.k52
abbrev rdS (xs : List Sp) (i : Int) : Sp := PFnExactUnderCap.rd_T52 xs i
theorem rdS_eq (xs : List Sp) {i : Nat} (h : i < xs.length) : rdS xs (i : Int) = xs[i] := by
  unfold rdS PFnExactUnderCap.rd_T52
  rw [List.getD_eq_getElem?_getD, Int.toNat_natCast, List.getElem?_eq_getElem h]; rfl
def okL (xs : List Sp) : Prop := ∀ x ∈ xs, sOk x.f0 x.f1
instance (xs : List Sp) : Decidable (okL xs) := by unfold okL; infer_instance
theorem okL_iff (xs : List Sp) : okL xs ↔ ∀ i : Nat, i < xs.length → sOk (rdS xs i).f0 (rdS xs i).f1 := by
  constructor
  · intro h i hi; rw [rdS_eq xs hi]; exact h _ (List.getElem_mem hi)
  · intro h x hx
    obtain ⟨i, hi, rfl⟩ := List.getElem_of_mem hx
    have := h i hi; rwa [rdS_eq xs hi] at this
def FoundB (w : World) (p : Prop) (e : Ending) (w' : World) : Prop := ∃ i : Int, e = .returned (.int .i64 i) ∧ -1 ≤ i ∧ i ≤ 9223372036854775807 ∧ (i < 0 ↔ p) ∧ Below w.heap.size w w'
theorem notSpot_c {a b : Int} {r : Bool} (hr : decide (sOk a b) = r) (w : World) : Calls Try.prog 174 #[.agg #[.int .i64 a, .int .i64 b]] w fun e w' => e = .returned (.bool (!r)) ∧ Below w.heap.size w w' := by
  go_enter Try.func174, Try.ntmps174
  go_wp2_with (first | (go_at_call 133; (with_reducible refine (impl_ValidSpot_c hr _).mono ?_); rintro e w1 ⟨rfl, hb⟩; obtain ⟨hc, hf⟩ := bcell hb; have hz := hb.size; (try simp at hz); (try have hz1 := Nat.lt_of_succ_le hz); (try have hz2 := Nat.lt_of_succ_lt hz1)))
  go_ret
  exact ⟨rfl, by repeat (first | (with_reducible first | exact Below.refl _ _ | apply below_alloc | apply pw_below_drewN | apply below_drew1 | (refine below_step ?_ (by assumption))) | exact Below.refl _ _)⟩
set_option maxHeartbeats 1000000 in
theorem idxSpot_c {A : Option Addr} {n c : Nat} {xs : List Sp} (w : World) (hr : Kd.C kSp w A n xs) : Calls Try.prog 192 #[.slice A n c, .func (.func 174) #[] #[]] w (FoundB w (okL xs)) := by
  have hl := hr.1
  have hn := hr.2.1
  have hr := Aside0.mk hr
  have hl := Aside0.mk hl
  have HB := Aside0.mk (Below.refl w.heap.size w)
  go_enter Try.func192, Try.ntmps192
  go_wp2
  go_loopw [5, 8] (fun a b wr => ∃ i : Nat, i ≤ n ∧ b = .int .i64 i ∧ Aside0 (∀ j : Nat, j < i → sOk (rdS xs j).f0 (rdS xs j).f1) ∧ Aside0 (Below w.heap.size w wr)) (fun _ b _ => ((n : Int) - intOf b).toNat)
  case atStart => exact ⟨0, by omega, rfl, ⟨fun j hj => absurd hj (Nat.not_lt_zero _)⟩, HB⟩
  case round =>
    clear HB
    obtain ⟨i, hi, rfl, HA, HB⟩ := hrel
    by_cases hlt : i < n
    · have hz : (i : Int) < (n : Int) := by omega
      obtain ⟨ad, e1, x0, x1⟩ := PFnExactUnderCap.at_T52 (Kd.C_below hr.out HB.out) (i : Int) (by omega) hz
      subst e1
      rw [Int.toNat_natCast] at x0 x1
      rcases dec (sOk (rdS xs i).f0 (rdS xs i).f1) with ⟨h, b⟩ | ⟨h, b⟩
      · have h := Aside0.mk h
        go_wp2_with (fail)
        refine (notSpot_c b.out _).mono ?_
        rintro e w' ⟨rfl, hb⟩
        have HB := Aside0.mk (below_step HB.out hb)
        go_wp2
        go_roundw
        case rel => exact ⟨i + 1, by omega, by go_num, ⟨fun j hj => by
          by_cases e : j = i
          · subst e; exact h.out
          · exact HA.out j (by omega)⟩, ⟨HB.out⟩⟩
        case measure => simp [intOf]; omega
      · have h := Aside0.mk h
        go_wp2_with (fail)
        refine (notSpot_c b.out _).mono ?_
        rintro e w' ⟨rfl, hb⟩
        have HB := Aside0.mk (below_step HB.out hb)
        go_wp2
        go_ret
        exact ⟨i, rfl, by omega, by omega, ⟨fun k => by omega, fun k => absurd ((okL_iff xs).1 k i (by have := hl.out; omega)) h.out⟩, HB.out⟩
    · have e : i = n := by omega
      subst e
      have hz : ¬ (i : Int) < (i : Int) := by omega
      go_wp2
      go_ret
      exact ⟨-1, rfl, by omega, by omega, ⟨fun _ => (okL_iff xs).2 (by rw [hl.out]; exact HA.out), fun _ => by omega⟩, HB.out⟩
theorem hasNot_c {A : Option Addr} {n c : Nat} {xs : List Sp} {r : Bool} (w : World) (hr : Kd.C kSp w A n xs) (hk : decide (okL xs) = r) : Calls Try.prog 173 #[.slice A n c, .func (.func 174) #[] #[]] w fun e w' => e = .returned (.bool (!r)) ∧ Below w.heap.size w w' := by
  have hr := Aside0.mk hr
  have hk := Aside0.mk hk
  go_enter Try.func173, Try.ntmps173
  go_wp2_with (fail)
  refine (idxSpot_c _ (by first | exact hr.out | exact Kd.C_drewN hr.out _)).mono ?_
  rintro e w' ⟨i, rfl, h0, h1, hi, hb⟩
  have hi := Aside0.mk hi
  cases r with
  | true =>
    have hi2 : i < 0 := hi.out.2 (of_decide_eq_true hk.out)
    go_wp2
    go_ret
    exact ⟨by first | rfl | (simp; omega), by repeat (first | (with_reducible first | exact Below.refl _ _ | apply below_alloc | apply pw_below_drewN | apply below_drew1 | (refine below_step ?_ (by assumption))) | exact Below.refl _ _)⟩
  | false =>
    have hi2 : 0 ≤ i := Int.not_lt.1 (fun k => of_decide_eq_false hk.out (hi.out.1 k))
    go_wp2
    go_ret
    exact ⟨by first | rfl | (simp; omega), by repeat (first | (with_reducible first | exact Below.refl _ _ | apply below_alloc | apply pw_below_drewN | apply below_drew1 | (refine below_step ?_ (by assumption))) | exact Below.refl _ _)⟩
theorem impl_areSpots_c {A : Option Addr} {n c : Nat} {xs : List Sp} {r : Bool} (w : World) (hr : Kd.C kSp w A n xs) (hk : decide (okL xs) = r) : Calls Try.prog 110 #[.slice A n c] w fun e w' => e = .returned (.bool r) ∧ Below w.heap.size w w' := by
  have hr := Aside0.mk hr
  have hk := Aside0.mk hk
  go_enter Try.func110, Try.ntmps110
  go_wp2_with (fail)
  refine (hasNot_c _ (by first | exact hr.out | exact Kd.C_drewN hr.out _) hk.out).mono ?_
  rintro e w' ⟨rfl, hb⟩
  go_wp2
  go_ret
  exact ⟨by simp, by repeat (first | (with_reducible first | exact Below.refl _ _ | apply below_alloc | apply pw_below_drewN | apply below_drew1 | (refine below_step ?_ (by assumption))) | exact Below.refl _ _)⟩
end Go.Proofs.Ytkfbbaaniglaeaa.Con
