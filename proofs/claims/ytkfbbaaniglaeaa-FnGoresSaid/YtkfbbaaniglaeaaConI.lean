/- Contracts of the program's functions on lists of widths and worst closings. Conditions: as stated. -/
import Derived.Test.YtkfbbaaniglaeaaConH
import Derived.Test.YtkfbbaaniglaeaaMwi
namespace Go.Proofs.Ytkfbbaaniglaeaa.Con
open Go.RowKit Go.Proofs.YtkfbbaaniglaeaaW.PrintWords Go.Proofs.YtkfbbaaniglaeaaW.PrintLast Go.Proofs.YtkfbbaaniglaeaaW.PrintMore Go.Proofs.Ytkfbbaaniglaeaa.Mth
open Go.Proofs.Ytkfbbaaniglaeaa.PFnExactRingsOf (laws_eqInt64S.calls laws_markInt64S.calls laws_heldInt64S.calls laws_eqInt64S.f laws_eqInt64S.l0 laws_markInt64S.f laws_markInt64S.l0 laws_heldInt64S.f laws_heldInt64S.l0)
attribute [local go_sem] max2_int min2_int max_two min_two max_three min_three
set_option linter.unusedVariables false
set_option linter.unusedSimpArgs false
theorem triple_eq {a b c : Int} {p : Int × Int × Int} (h : p = (a, b, c)) : Ending.returned (.tuple #[.int .i64 a, .int .i64 b, .int .i64 c]) = .returned (.tuple #[.int .i64 p.1, .int .i64 p.2.1, .int .i64 p.2.2]) := by rw [h]
theorem spec_l04Steps_c {g n s : Int} {c : Int} (w : World) (hc : cod12 (gOk g) (arOk n ∧ lstepOk s) = c) : Calls Try.prog 158 #[.int .i64 g, .int .i64 n, .int .i64 s] w fun e w' => e = .returned (.int .i64 (c)) ∧ Drawn0 w w' := by
  by_cases h : gOk g
  · by_cases hn : arOk n
    · have hd := Aside0.mk (show cod12 (gOk g) (arOk n ∧ latOk 0) = 0 by unfold cod12; rw [if_pos h, if_pos ⟨hn, by omega⟩])
      rcases dec (lstepOk s) with ⟨hl, bl⟩ | ⟨hl, bl⟩
      · have f := Aside0.mk (show c = 0 by rw [← hc]; unfold cod12; rw [if_pos h, if_pos ⟨hn, hl⟩])
        clear hc h hn hl
        go_enter Try.func158, Try.ntmps158
        go_wp2_with (first | (go_at_call 153; (with_reducible refine (spec_l04Code_c _ hd.out).mono ?_); rintro e w' ⟨rfl, ⟨nd, rfl⟩⟩) | (go_at_call 144; (with_reducible refine (spec_l00In_d _ bl.out).mono ?_); rintro e w' ⟨rfl, ⟨nd, rfl⟩⟩))
        go_ret
        exact ⟨by rw [f.out]; rfl, by repeat (first | exact Drawn0.refl _ | apply Drawn0.step)⟩
      · have f := Aside0.mk (show c = 2 by rw [← hc]; unfold cod12; rw [if_pos h, if_neg (fun e => hl e.2)])
        clear hc h hn hl
        go_enter Try.func158, Try.ntmps158
        go_wp2_with (first | (go_at_call 153; (with_reducible refine (spec_l04Code_c _ hd.out).mono ?_); rintro e w' ⟨rfl, ⟨nd, rfl⟩⟩) | (go_at_call 144; (with_reducible refine (spec_l00In_d _ bl.out).mono ?_); rintro e w' ⟨rfl, ⟨nd, rfl⟩⟩))
        go_ret
        exact ⟨by rw [f.out]; rfl, by repeat (first | exact Drawn0.refl _ | apply Drawn0.step)⟩
    · have hd := Aside0.mk (show cod12 (gOk g) (arOk n ∧ latOk 0) = 2 by unfold cod12; rw [if_pos h, if_neg (fun e => hn e.1)])
      have f := Aside0.mk (show c = 2 by rw [← hc]; unfold cod12; rw [if_pos h, if_neg (fun e => hn e.1)])
      clear hc h hn
      go_enter Try.func158, Try.ntmps158
      go_wp2_with (first | (go_at_call 153; (with_reducible refine (spec_l04Code_c _ hd.out).mono ?_); rintro e w' ⟨rfl, ⟨nd, rfl⟩⟩))
      go_ret
      exact ⟨by rw [f.out]; rfl, by repeat (first | exact Drawn0.refl _ | apply Drawn0.step)⟩
  · have hd := Aside0.mk (show cod12 (gOk g) (arOk n ∧ latOk 0) = 1 by unfold cod12; rw [if_neg h])
    have f := Aside0.mk (show c = 1 by rw [← hc]; unfold cod12; rw [if_neg h])
    clear hc h
    go_enter Try.func158, Try.ntmps158
    go_wp2_with (first | (go_at_call 153; (with_reducible refine (spec_l04Code_c _ hd.out).mono ?_); rintro e w' ⟨rfl, ⟨nd, rfl⟩⟩))
    go_ret
    exact ⟨by rw [f.out]; rfl, by repeat (first | exact Drawn0.refl _ | apply Drawn0.step)⟩
theorem impl_GoreWidths_l (g n s : Int) (w : World) : Calls Try.prog 94 #[.int .i64 g, .int .i64 n, .int .i64 s] w fun e w' => ∃ v0_ : Value, e = .returned (.tuple #[v0_, .int .i64 ((RGoreWidths g n s).2)]) ∧ Kd.R (Kd.int .i64) 2 w' w.heap.size (fun _ => True) v0_ ((RGoreWidths g n s).1) ∧ Below w.heap.size w w' := by
  rcases dec (gOk g) with ⟨h, b⟩ | ⟨h, b⟩ <;> rcases dec (arOk n) with ⟨hn, bn⟩ | ⟨hn, bn⟩ <;> rcases dec (lstepOk s) with ⟨hs, bl⟩ | ⟨hs, bl⟩
  · have f := Aside0.mk (show RGoreWidths g n s = (gwT g n s (lats s), 0) by unfold RGoreWidths; rw [if_pos h, if_pos ⟨hn, hs⟩])
    go_enter Try.func94, Try.ntmps94
    go_wp2_with (first | (go_at_call 100; (with_reducible refine (impl_ValidGores_c _ b.out).mono ?_); rintro e w' ⟨rfl, ⟨nd, rfl⟩⟩) | (go_at_call 140; (with_reducible refine (impl_isAround_c _ bn.out).mono ?_); rintro e w' ⟨rfl, ⟨nd, rfl⟩⟩) | (go_at_call 156; (with_reducible refine (impl_isLatStep_c _ bl.out).mono ?_); rintro e w' ⟨rfl, ⟨nd, rfl⟩⟩) | (go_at_call 126; (with_reducible refine (impl_check_tt _).mono ?_); rintro e w' ⟨rfl, ⟨nd, rfl⟩⟩) | (go_at_call 126; (with_reducible refine (impl_check_tf _).mono ?_); rintro e w' ⟨rfl, ⟨nd, rfl⟩⟩) | (go_at_call 126; (with_reducible refine (impl_check_f _).mono ?_); rintro e w' ⟨rfl, ⟨nd, rfl⟩⟩) | ((with_reducible refine gate_dst (N := 23) rfl ?_); refine Kd.R_lit (Kd.int .i64) _ 2 ?hg (N := 23) ?hd (xs := ([] : List Int)) (inner := []) (ok := fun _ => True) (okp := fun _ => True) ?hr ?hp (fun _ hk => hk) trivial (Below.refl _ _) (Nat.le_refl _) (by simp) ?_; (case hd => rfl); (case hg => rfl); (case hr => first | (go_simp; done) | (go_simp; rfl)); (case hp => exact (Reps.none _ _)); intro v0 w5 ho hb hg_ hnew_; clear hg_ hnew_))
    have HB := Aside0.mk (show Below w.heap.size w w5 from below_step ( by repeat (first | (with_reducible first | exact Below.refl _ _ | apply below_alloc | apply pw_below_drewN | apply below_drew1 | (refine below_step ?_ (by assumption))) | exact Below.refl _ _) ) hb)
    have HO := Aside0.mk (Kd.R_lower ho (below_size ( by repeat (first | (with_reducible first | exact Below.refl _ _ | apply below_alloc | apply pw_below_drewN | apply below_drew1 | (refine below_step ?_ (by assumption))) | exact Below.refl _ _) ) : w.heap.size ≤ _))
    clear ho hb
    go_loopw [9, 10] (fun u k wr => ∃ (i : Nat) (l : Int), i ≤ lats s ∧ 0 ≤ l ∧ l ≤ 648000 ∧ Aside0 (l = (i : Int) * s) ∧ k = .int .i64 l ∧ Aside0 (Kd.R (Kd.int .i64) 2 wr w.heap.size (fun _ => True) u (gwT g n s i)) ∧ Aside0 (Below w.heap.size w wr)) (fun _ k _ => (324000 + s - intOf k).toNat)
    case atStart => exact ⟨0, 0, by omega, by omega, by omega, ⟨by simp⟩, rfl, ⟨by (with_reducible repeat (first | apply Kd.R_alloc | apply Kd.R_drewN | apply Kd.R_drew)); exact HO.out⟩, ⟨by repeat (first | (with_reducible first | exact HB.out | apply below_alloc | apply pw_below_drewN | apply below_drew1) | exact HB.out)⟩⟩
    case round =>
      clear HO HB
      obtain ⟨i, l, hi, l0, l1, hl, rfl, HO, HB⟩ := hrel
      by_cases hlt : l ≤ 324000
      · have hi2 := lats_in hs (k := i) (by rw [← hl.out]; exact hlt)
        have hi3 := lats_le hs
        have hlen := gwT_len g n s i
        obtain ⟨m0, m1⟩ := gw_bd h.1 hn l
        have e := Aside0.mk (show gwT g n s i ++ [gw g n l] = gwT g n s (i + 1) by rw [gwT_succ, ← hl.out])
        go_wp2_with (first | (go_at_call 162; (with_reducible refine (impl_goreWidth_c _ (by omega) (by omega) (by omega)).mono ?_); rintro e w' ⟨rfl, ⟨nd, rfl⟩⟩) | (at_builtin; refine Kd.R_append (Kd.int .i64) (w0 := w) w.heap.size rfl _ _ 22 2 (.int .i64 0) 8 rfl Try.underlying22 linfo rfl (by decide) (by omega) u9 (gwT g n s i) (gw g n l) [.int .i64 (gw g n l)] (fun _ => True) (fun _ => False) rfl rfl ?aP (fun _ hk => hk.elim) ?aF ?aO ?aB ?aS ?aL ?_; (case aP => exact rfl); (case aB => exact (by repeat (first | (with_reducible first | exact HB.out | apply below_alloc | apply pw_below_drewN | apply below_drew1) | exact HB.out))); (case aF => exact (fun _ _ => trivial)); (case aO => exact (by (with_reducible repeat (first | apply Kd.R_alloc | apply Kd.R_drewN | apply Kd.R_drew)); exact HO.out)); (case aS => exact (below_size (by repeat (first | (with_reducible first | exact HB.out | apply below_alloc | apply pw_below_drewN | apply below_drew1) | exact HB.out)))); (case aL => first | omega | (simp; omega)); intro v1 w9 ho hb hg hat))
        rw [e.out] at ho
        go_roundw
        case rel => exact ⟨i + 1, l + s, by omega, by omega, by omega, ⟨by rw [hl.out]; grind⟩, rfl, ⟨by (with_reducible repeat (first | apply Kd.R_alloc | apply Kd.R_drewN | apply Kd.R_drew)); exact ho⟩, ⟨by repeat (first | (with_reducible first | exact hb | apply below_alloc | apply pw_below_drewN | apply below_drew1) | exact hb)⟩⟩
        case measure => simp [intOf]; omega
      · have e := lats_out hs (k := i) (by rw [← hl.out]; exact hlt)
        have e2 : lats s = i := by omega
        have f2 := Aside0.mk (show RGoreWidths g n s = (gwT g n s i, 0) by rw [f.out, e2])
        clear e e2
        go_wp2
        go_ret2
        exact ⟨_, by rw [f2.out]; rfl, by rw [f2.out]; exact HO.out, HB.out⟩
  iterate 3
    · have f := Aside0.mk (show RGoreWidths g n s = ([], 2) by unfold RGoreWidths; rw [if_pos h, if_neg (fun e => by first | exact hn e.1 | exact hs e.2)])
      clear h hn hs
      go_enter Try.func94, Try.ntmps94
      go_wp2_with (first | (go_at_call 100; (with_reducible refine (impl_ValidGores_c _ b.out).mono ?_); rintro e w' ⟨rfl, ⟨nd, rfl⟩⟩) | (go_at_call 140; (with_reducible refine (impl_isAround_c _ bn.out).mono ?_); rintro e w' ⟨rfl, ⟨nd, rfl⟩⟩) | (go_at_call 156; (with_reducible refine (impl_isLatStep_c _ bl.out).mono ?_); rintro e w' ⟨rfl, ⟨nd, rfl⟩⟩) | (go_at_call 126; (with_reducible refine (impl_check_tt _).mono ?_); rintro e w' ⟨rfl, ⟨nd, rfl⟩⟩) | (go_at_call 126; (with_reducible refine (impl_check_tf _).mono ?_); rintro e w' ⟨rfl, ⟨nd, rfl⟩⟩) | (go_at_call 126; (with_reducible refine (impl_check_f _).mono ?_); rintro e w' ⟨rfl, ⟨nd, rfl⟩⟩))
      go_ret2
      exact ⟨_, by rw [f.out]; rfl, by rw [f.out]; exact Kd.R_nil .., by repeat (first | (with_reducible first | exact Below.refl _ _ | apply below_alloc | apply pw_below_drewN | apply below_drew1 | (refine below_step ?_ (by assumption))) | exact Below.refl _ _)⟩
  all_goals
    · have f := Aside0.mk (show RGoreWidths g n s = ([], 1) by unfold RGoreWidths; rw [if_neg h])
      clear h hn hs
      go_enter Try.func94, Try.ntmps94
      go_wp2_with (first | (go_at_call 100; (with_reducible refine (impl_ValidGores_c _ b.out).mono ?_); rintro e w' ⟨rfl, ⟨nd, rfl⟩⟩) | (go_at_call 140; (with_reducible refine (impl_isAround_c _ bn.out).mono ?_); rintro e w' ⟨rfl, ⟨nd, rfl⟩⟩) | (go_at_call 156; (with_reducible refine (impl_isLatStep_c _ bl.out).mono ?_); rintro e w' ⟨rfl, ⟨nd, rfl⟩⟩) | (go_at_call 126; (with_reducible refine (impl_check_tt _).mono ?_); rintro e w' ⟨rfl, ⟨nd, rfl⟩⟩) | (go_at_call 126; (with_reducible refine (impl_check_tf _).mono ?_); rintro e w' ⟨rfl, ⟨nd, rfl⟩⟩) | (go_at_call 126; (with_reducible refine (impl_check_f _).mono ?_); rintro e w' ⟨rfl, ⟨nd, rfl⟩⟩))
      go_ret2
      exact ⟨_, by rw [f.out]; rfl, by rw [f.out]; exact Kd.R_nil .., by repeat (first | (with_reducible first | exact Below.refl _ _ | apply below_alloc | apply pw_below_drewN | apply below_drew1 | (refine below_step ?_ (by assumption))) | exact Below.refl _ _)⟩
theorem spec_GoreWidths_l (g n s : Int) (w : World) : Calls Try.prog 95 #[.int .i64 g, .int .i64 n, .int .i64 s] w fun e w' => ∃ v0_ : Value, e = .returned (.tuple #[v0_, .int .i64 ((RGoreWidths g n s).2)]) ∧ Kd.R (Kd.int .i64) 2 w' w.heap.size (fun _ => True) v0_ ((RGoreWidths g n s).1) ∧ Below w.heap.size w w' := by
  by_cases h : gOk g
  · by_cases k : arOk n ∧ lstepOk s
    · have f := Aside0.mk (show RGoreWidths g n s = (gwT g n s (lats s), 0) by unfold RGoreWidths; rw [if_pos h, if_pos k])
      have hc := Aside0.mk (show cod12 (gOk g) (arOk n ∧ lstepOk s) = 0 by unfold cod12; rw [if_pos h, if_pos k])
      obtain ⟨hn, hs⟩ := k
      go_enter Try.func95, Try.ntmps95
      go_wp2_with (first | (go_at_call 158; (with_reducible refine (spec_l04Steps_c _ hc.out).mono ?_); rintro e w' ⟨rfl, ⟨nd, rfl⟩⟩) | ((with_reducible refine gate_dst (N := 18) rfl ?_); refine Kd.R_lit (Kd.int .i64) _ 2 ?hg (N := 18) ?hd (xs := ([] : List Int)) (inner := []) (ok := fun _ => True) (okp := fun _ => True) ?hr ?hp (fun _ hk => hk) trivial (Below.refl _ _) (Nat.le_refl _) (by simp) ?_; (case hd => rfl); (case hg => rfl); (case hr => first | (go_simp; done) | (go_simp; rfl)); (case hp => exact (Reps.none _ _)); intro v0 w5 ho hb hg_ hnew_; clear hg_ hnew_))
      have HB := Aside0.mk (show Below w.heap.size w w5 from below_step ( by repeat (first | (with_reducible first | exact Below.refl _ _ | apply below_alloc | apply pw_below_drewN | apply below_drew1 | (refine below_step ?_ (by assumption))) | exact Below.refl _ _) ) hb)
      have HO := Aside0.mk (Kd.R_lower ho (below_size ( by repeat (first | (with_reducible first | exact Below.refl _ _ | apply below_alloc | apply pw_below_drewN | apply below_drew1 | (refine below_step ?_ (by assumption))) | exact Below.refl _ _) ) : w.heap.size ≤ _))
      clear ho hb
      go_loopw [9, 10] (fun u k wr => ∃ (i : Nat) (l : Int), i ≤ lats s ∧ 0 ≤ l ∧ l ≤ 648000 ∧ Aside0 (l = (i : Int) * s) ∧ k = .int .i64 l ∧ Aside0 (Kd.R (Kd.int .i64) 2 wr w.heap.size (fun _ => True) u (gwT g n s i)) ∧ Aside0 (Below w.heap.size w wr)) (fun _ k _ => (324000 + s - intOf k).toNat)
      case atStart => exact ⟨0, 0, by omega, by omega, by omega, ⟨by simp⟩, rfl, ⟨by (with_reducible repeat (first | apply Kd.R_alloc | apply Kd.R_drewN | apply Kd.R_drew)); exact HO.out⟩, ⟨by repeat (first | (with_reducible first | exact HB.out | apply below_alloc | apply pw_below_drewN | apply below_drew1) | exact HB.out)⟩⟩
      case round =>
        clear HO HB
        obtain ⟨i, l, hi, l0, l1, hl, rfl, HO, HB⟩ := hrel
        by_cases hlt : l ≤ 324000
        · have hi2 := lats_in hs (k := i) (by rw [← hl.out]; exact hlt)
          have hi3 := lats_le hs
          have hlen := gwT_len g n s i
          obtain ⟨m0, m1⟩ := gw_bd h.1 hn l
          have e := Aside0.mk (show gwT g n s i ++ [gw g n l] = gwT g n s (i + 1) by rw [gwT_succ, ← hl.out])
          go_wp2_with (first | (go_at_call 164; (with_reducible refine (spec_l04Width_c _ (by omega) (by omega) (by omega)).mono ?_); rintro e w' ⟨rfl, ⟨nd, rfl⟩⟩) | (at_builtin; refine Kd.R_append (Kd.int .i64) (w0 := w) w.heap.size rfl _ _ 22 2 (.int .i64 0) 8 rfl Try.underlying22 linfo rfl (by decide) (by omega) u9 (gwT g n s i) (gw g n l) [.int .i64 (gw g n l)] (fun _ => True) (fun _ => False) rfl rfl ?aP (fun _ hk => hk.elim) ?aF ?aO ?aB ?aS ?aL ?_; (case aP => exact rfl); (case aB => exact (by repeat (first | (with_reducible first | exact HB.out | apply below_alloc | apply pw_below_drewN | apply below_drew1) | exact HB.out))); (case aF => exact (fun _ _ => trivial)); (case aO => exact (by (with_reducible repeat (first | apply Kd.R_alloc | apply Kd.R_drewN | apply Kd.R_drew)); exact HO.out)); (case aS => exact (below_size (by repeat (first | (with_reducible first | exact HB.out | apply below_alloc | apply pw_below_drewN | apply below_drew1) | exact HB.out)))); (case aL => first | omega | (simp; omega)); intro v1 w9 ho hb hg hat))
          rw [e.out] at ho
          go_roundw
          case rel => exact ⟨i + 1, l + s, by omega, by omega, by omega, ⟨by rw [hl.out]; grind⟩, rfl, ⟨by (with_reducible repeat (first | apply Kd.R_alloc | apply Kd.R_drewN | apply Kd.R_drew)); exact ho⟩, ⟨by repeat (first | (with_reducible first | exact hb | apply below_alloc | apply pw_below_drewN | apply below_drew1) | exact hb)⟩⟩
          case measure => simp [intOf]; omega
        · have e := lats_out hs (k := i) (by rw [← hl.out]; exact hlt)
          have e2 : lats s = i := by omega
          have f2 := Aside0.mk (show RGoreWidths g n s = (gwT g n s i, 0) by rw [f.out, e2])
          clear e e2
          go_wp2
          go_ret2
          exact ⟨_, by rw [f2.out]; rfl, by rw [f2.out]; exact HO.out, HB.out⟩
    · have f := Aside0.mk (show RGoreWidths g n s = ([], 2) by unfold RGoreWidths; rw [if_pos h, if_neg k])
      have hc := Aside0.mk (show cod12 (gOk g) (arOk n ∧ lstepOk s) = 2 by unfold cod12; rw [if_pos h, if_neg k])
      have hn := k
      have hs := k
      clear h hn hs
      go_enter Try.func95, Try.ntmps95
      go_wp2_with (first | (go_at_call 158; (with_reducible refine (spec_l04Steps_c _ hc.out).mono ?_); rintro e w' ⟨rfl, ⟨nd, rfl⟩⟩))
      go_ret2
      exact ⟨_, by rw [f.out]; rfl, by rw [f.out]; exact Kd.R_nil .., by repeat (first | (with_reducible first | exact Below.refl _ _ | apply below_alloc | apply pw_below_drewN | apply below_drew1 | (refine below_step ?_ (by assumption))) | exact Below.refl _ _)⟩
  · have f := Aside0.mk (show RGoreWidths g n s = ([], 1) by unfold RGoreWidths; rw [if_neg h])
    have hc := Aside0.mk (show cod12 (gOk g) (arOk n ∧ lstepOk s) = 1 by unfold cod12; rw [if_neg h])
    have hn := h
    have hs := h
    clear h hn hs
    go_enter Try.func95, Try.ntmps95
    go_wp2_with (first | (go_at_call 158; (with_reducible refine (spec_l04Steps_c _ hc.out).mono ?_); rintro e w' ⟨rfl, ⟨nd, rfl⟩⟩))
    go_ret2
    exact ⟨_, by rw [f.out]; rfl, by rw [f.out]; exact Kd.R_nil .., by repeat (first | (with_reducible first | exact Below.refl _ _ | apply below_alloc | apply pw_below_drewN | apply below_drew1 | (refine below_step ?_ (by assumption))) | exact Below.refl _ _)⟩
theorem impl_WorstClosing_c {g n s : Int} (w : World) : Calls Try.prog 61 #[.int .i64 g, .int .i64 n, .int .i64 s] w fun e w' => e = .returned (.tuple #[.int .i64 (RWorstClosing g n s).1, .int .i64 (RWorstClosing g n s).2.1, .int .i64 (RWorstClosing g n s).2.2]) ∧ Drawn0 w w' := by
  rcases dec (gOk g) with ⟨h, b⟩ | ⟨h, b⟩ <;> rcases dec (arOk n) with ⟨hn, bn⟩ | ⟨hn, bn⟩ <;> rcases dec (lstepOk s) with ⟨hs, bl⟩ | ⟨hs, bl⟩
  · have f := Aside0.mk (show RWorstClosing g n s = (wcB g n s (lats s), clo g n (wcB g n s (lats s)), 0) by unfold RWorstClosing; rw [if_pos h, if_pos ⟨hn, hs⟩])
    have l1 := lats_in hs (k := 1) (by omega)
    go_enter Try.func61, Try.ntmps61
    go_wp2_with (first | (go_at_call 100; (with_reducible refine (impl_ValidGores_c _ b.out).mono ?_); rintro e w' ⟨rfl, ⟨nd, rfl⟩⟩) | (go_at_call 140; (with_reducible refine (impl_isAround_c _ bn.out).mono ?_); rintro e w' ⟨rfl, ⟨nd, rfl⟩⟩) | (go_at_call 156; (with_reducible refine (impl_isLatStep_c _ bl.out).mono ?_); rintro e w' ⟨rfl, ⟨nd, rfl⟩⟩) | (go_at_call 126; (with_reducible refine (impl_check_tt _).mono ?_); rintro e w' ⟨rfl, ⟨nd, rfl⟩⟩) | (go_at_call 126; (with_reducible refine (impl_check_tf _).mono ?_); rintro e w' ⟨rfl, ⟨nd, rfl⟩⟩) | (go_at_call 126; (with_reducible refine (impl_check_f _).mono ?_); rintro e w' ⟨rfl, ⟨nd, rfl⟩⟩) | (go_at_call 152; (with_reducible refine (impl_closing_c _ (by omega) (by omega) (by omega)).mono ?_); rintro e w' ⟨rfl, ⟨nd, rfl⟩⟩) | (go_at_call 157; (with_reducible refine (impl_absolute_c _ (by omega) (by omega)).mono ?_); rintro e w' ⟨rfl, ⟨nd, rfl⟩⟩))
    go_loopw [10, 11, 12] (fun a c k wr => ∃ (i : Nat) (l b : Int), 1 ≤ i ∧ i ≤ lats s ∧ 0 ≤ l ∧ l ≤ 648000 ∧ 0 ≤ b ∧ b ≤ 324000 ∧ Aside0 (l = (i : Int) * s) ∧ Aside0 (b = wcB g n s i) ∧ a = .int .i64 b ∧ c = .int .i64 (clo g n b) ∧ k = .int .i64 l ∧ Aside0 (Drawn0 w wr)) (fun _ _ k _ => (324000 + s - intOf k).toNat)
    case atStart => exact ⟨1, s, 0, by omega, by omega, by omega, by omega, by omega, by omega, ⟨by simp⟩, ⟨(wcB_1 g n s).symm⟩, rfl, rfl, rfl, ⟨by repeat (first | exact Drawn0.refl _ | apply Drawn0.step)⟩⟩
    case round =>
      obtain ⟨i, l, b, i0, hi, l0, l1, b0, b1, hl, hb2, rfl, rfl, rfl, hd⟩ := hrel
      by_cases hlt : l ≤ 324000
      · have hi2 := lats_in hs (k := i) (by rw [← hl.out]; exact hlt)
        have hi3 := lats_le hs
        obtain ⟨m0, m1⟩ := clo_bd h.1 hn l
        obtain ⟨m2, m3⟩ := clo_bd h.1 hn b
        by_cases z : ab (clo g n b) < ab (clo g n l)
        · have e := Aside0.mk (show wcB g n s (i + 1) = l by rw [wcB_yes (by rw [← hb2.out, ← hl.out]; exact z), ← hl.out])
          go_wp2_with (first | (go_at_call 152; (with_reducible refine (impl_closing_c _ (by omega) (by omega) (by omega)).mono ?_); rintro e w' ⟨rfl, ⟨nd, rfl⟩⟩) | (go_at_call 157; (with_reducible refine (impl_absolute_c _ (by omega) (by omega)).mono ?_); rintro e w' ⟨rfl, ⟨nd, rfl⟩⟩))
          repeat (go_quiet (first | (go_at_call 152; exact quiet0 (impl_closing_c _ (by omega) (by omega) (by omega))) | (go_at_call 157; exact quiet0 (impl_absolute_c _ (by omega) (by omega)))); try go_wp2_with (first | (go_at_call 152; (with_reducible refine (impl_closing_c _ (by omega) (by omega) (by omega)).mono ?_); rintro e w' ⟨rfl, ⟨nd, rfl⟩⟩) | (go_at_call 157; (with_reducible refine (impl_absolute_c _ (by omega) (by omega)).mono ?_); rintro e w' ⟨rfl, ⟨nd, rfl⟩⟩)))
          go_roundw
          case rel => exact ⟨i + 1, l + s, l, by omega, by omega, by omega, by omega, by omega, by omega, ⟨by rw [hl.out]; grind⟩, ⟨e.out.symm⟩, rfl, rfl, rfl, ⟨by repeat (first | exact hd.out | apply Drawn0.step)⟩⟩
          case measure => simp [intOf]; omega
        · have e := Aside0.mk (show wcB g n s (i + 1) = b by rw [wcB_no (by rw [← hb2.out, ← hl.out]; exact z), ← hb2.out])
          go_wp2_with (first | (go_at_call 152; (with_reducible refine (impl_closing_c _ (by omega) (by omega) (by omega)).mono ?_); rintro e w' ⟨rfl, ⟨nd, rfl⟩⟩) | (go_at_call 157; (with_reducible refine (impl_absolute_c _ (by omega) (by omega)).mono ?_); rintro e w' ⟨rfl, ⟨nd, rfl⟩⟩))
          repeat (go_quiet (first | (go_at_call 152; exact quiet0 (impl_closing_c _ (by omega) (by omega) (by omega))) | (go_at_call 157; exact quiet0 (impl_absolute_c _ (by omega) (by omega)))); try go_wp2_with (first | (go_at_call 152; (with_reducible refine (impl_closing_c _ (by omega) (by omega) (by omega)).mono ?_); rintro e w' ⟨rfl, ⟨nd, rfl⟩⟩) | (go_at_call 157; (with_reducible refine (impl_absolute_c _ (by omega) (by omega)).mono ?_); rintro e w' ⟨rfl, ⟨nd, rfl⟩⟩)))
          go_roundw
          case rel => exact ⟨i + 1, l + s, b, by omega, by omega, by omega, by omega, by omega, by omega, ⟨by rw [hl.out]; grind⟩, ⟨e.out.symm⟩, rfl, rfl, rfl, ⟨by repeat (first | exact hd.out | apply Drawn0.step)⟩⟩
          case measure => simp [intOf]; omega
      · have e := lats_out hs (k := i) (by rw [← hl.out]; exact hlt)
        have e2 : lats s = i := by omega
        have f2 := Aside0.mk (show RWorstClosing g n s = (b, clo g n b, 0) by rw [f.out, e2, ← hb2.out])
        clear e e2
        go_wp2_with (first | (go_at_call 152; (with_reducible refine (impl_closing_c _ (by omega) (by omega) (by omega)).mono ?_); rintro e w' ⟨rfl, ⟨nd, rfl⟩⟩) | (go_at_call 157; (with_reducible refine (impl_absolute_c _ (by omega) (by omega)).mono ?_); rintro e w' ⟨rfl, ⟨nd, rfl⟩⟩))
        go_ret3
        exact ⟨triple_eq f2.out, by repeat (first | exact hd.out | apply Drawn0.step)⟩
  iterate 3
    · have f := Aside0.mk (show RWorstClosing g n s = (0, 0, 2) by unfold RWorstClosing; rw [if_pos h, if_neg (fun e => by first | exact hn e.1 | exact hs e.2)])
      clear h hn hs
      go_enter Try.func61, Try.ntmps61
      go_wp2_with (first | (go_at_call 100; (with_reducible refine (impl_ValidGores_c _ b.out).mono ?_); rintro e w' ⟨rfl, ⟨nd, rfl⟩⟩) | (go_at_call 140; (with_reducible refine (impl_isAround_c _ bn.out).mono ?_); rintro e w' ⟨rfl, ⟨nd, rfl⟩⟩) | (go_at_call 156; (with_reducible refine (impl_isLatStep_c _ bl.out).mono ?_); rintro e w' ⟨rfl, ⟨nd, rfl⟩⟩) | (go_at_call 126; (with_reducible refine (impl_check_tt _).mono ?_); rintro e w' ⟨rfl, ⟨nd, rfl⟩⟩) | (go_at_call 126; (with_reducible refine (impl_check_tf _).mono ?_); rintro e w' ⟨rfl, ⟨nd, rfl⟩⟩) | (go_at_call 126; (with_reducible refine (impl_check_f _).mono ?_); rintro e w' ⟨rfl, ⟨nd, rfl⟩⟩))
      go_ret3
      exact ⟨triple_eq f.out, by repeat (first | exact Drawn0.refl _ | apply Drawn0.step)⟩
  all_goals
    · have f := Aside0.mk (show RWorstClosing g n s = (0, 0, 1) by unfold RWorstClosing; rw [if_neg h])
      clear h hn hs
      go_enter Try.func61, Try.ntmps61
      go_wp2_with (first | (go_at_call 100; (with_reducible refine (impl_ValidGores_c _ b.out).mono ?_); rintro e w' ⟨rfl, ⟨nd, rfl⟩⟩) | (go_at_call 140; (with_reducible refine (impl_isAround_c _ bn.out).mono ?_); rintro e w' ⟨rfl, ⟨nd, rfl⟩⟩) | (go_at_call 156; (with_reducible refine (impl_isLatStep_c _ bl.out).mono ?_); rintro e w' ⟨rfl, ⟨nd, rfl⟩⟩) | (go_at_call 126; (with_reducible refine (impl_check_tt _).mono ?_); rintro e w' ⟨rfl, ⟨nd, rfl⟩⟩) | (go_at_call 126; (with_reducible refine (impl_check_tf _).mono ?_); rintro e w' ⟨rfl, ⟨nd, rfl⟩⟩) | (go_at_call 126; (with_reducible refine (impl_check_f _).mono ?_); rintro e w' ⟨rfl, ⟨nd, rfl⟩⟩))
      go_ret3
      exact ⟨triple_eq f.out, by repeat (first | exact Drawn0.refl _ | apply Drawn0.step)⟩
theorem spec_WorstClosing_c {g n s : Int} (w : World) : Calls Try.prog 62 #[.int .i64 g, .int .i64 n, .int .i64 s] w fun e w' => e = .returned (.tuple #[.int .i64 (RWorstClosing g n s).1, .int .i64 (RWorstClosing g n s).2.1, .int .i64 (RWorstClosing g n s).2.2]) ∧ Drawn0 w w' := by
  by_cases h : gOk g
  · by_cases k : arOk n ∧ lstepOk s
    · have f := Aside0.mk (show RWorstClosing g n s = (wcB g n s (lats s), clo g n (wcB g n s (lats s)), 0) by unfold RWorstClosing; rw [if_pos h, if_pos k])
      have hc := Aside0.mk (show cod12 (gOk g) (arOk n ∧ lstepOk s) = 0 by unfold cod12; rw [if_pos h, if_pos k])
      obtain ⟨hn, hs⟩ := k
      go_enter Try.func62, Try.ntmps62
      go_wp2_with (first | (go_at_call 158; (with_reducible refine (spec_l04Steps_c _ hc.out).mono ?_); rintro e w' ⟨rfl, ⟨nd, rfl⟩⟩) | (go_at_call 154; (with_reducible refine (spec_l04Closing_c _ (by omega) (by omega) (by omega)).mono ?_); rintro e w' ⟨rfl, ⟨nd, rfl⟩⟩) | (go_at_call 159; (with_reducible refine (spec_l00Size_c _ (by omega) (by omega)).mono ?_); rintro e w' ⟨rfl, ⟨nd, rfl⟩⟩))
      go_loopw [10, 11] (fun a k wr => ∃ (i : Nat) (l b : Int), 0 ≤ i ∧ i ≤ lats s ∧ 0 ≤ l ∧ l ≤ 648000 ∧ 0 ≤ b ∧ b ≤ 324000 ∧ Aside0 (l = (i : Int) * s) ∧ Aside0 (b = wcB g n s i) ∧ a = .int .i64 b ∧ k = .int .i64 l ∧ Aside0 (Drawn0 w wr)) (fun _ k _ => (324000 + s - intOf k).toNat)
      case atStart => exact ⟨0, 0, 0, by omega, by omega, by omega, by omega, by omega, by omega, ⟨by simp⟩, ⟨rfl⟩, rfl, rfl, ⟨by repeat (first | exact Drawn0.refl _ | apply Drawn0.step)⟩⟩
      case round =>
        obtain ⟨i, l, b, i0, hi, l0, l1, b0, b1, hl, hb2, rfl, rfl, hd⟩ := hrel
        by_cases hlt : l ≤ 324000
        · have hi2 := lats_in hs (k := i) (by rw [← hl.out]; exact hlt)
          have hi3 := lats_le hs
          obtain ⟨m0, m1⟩ := clo_bd h.1 hn l
          obtain ⟨m2, m3⟩ := clo_bd h.1 hn b
          by_cases z : ab (clo g n b) < ab (clo g n l)
          · have e := Aside0.mk (show wcB g n s (i + 1) = l by rw [wcB_yes (by rw [← hb2.out, ← hl.out]; exact z), ← hl.out])
            go_wp2_with (first | (go_at_call 154; (with_reducible refine (spec_l04Closing_c _ (by omega) (by omega) (by omega)).mono ?_); rintro e w' ⟨rfl, ⟨nd, rfl⟩⟩) | (go_at_call 159; (with_reducible refine (spec_l00Size_c _ (by omega) (by omega)).mono ?_); rintro e w' ⟨rfl, ⟨nd, rfl⟩⟩))
            repeat (go_quiet (first | (go_at_call 154; exact quiet0 (spec_l04Closing_c _ (by omega) (by omega) (by omega))) | (go_at_call 159; exact quiet0 (spec_l00Size_c _ (by omega) (by omega)))); try go_wp2_with (first | (go_at_call 154; (with_reducible refine (spec_l04Closing_c _ (by omega) (by omega) (by omega)).mono ?_); rintro e w' ⟨rfl, ⟨nd, rfl⟩⟩) | (go_at_call 159; (with_reducible refine (spec_l00Size_c _ (by omega) (by omega)).mono ?_); rintro e w' ⟨rfl, ⟨nd, rfl⟩⟩)))
            go_roundw
            case rel => exact ⟨i + 1, l + s, l, by omega, by omega, by omega, by omega, by omega, by omega, ⟨by rw [hl.out]; grind⟩, ⟨e.out.symm⟩, rfl, rfl, ⟨by repeat (first | exact hd.out | apply Drawn0.step)⟩⟩
            case measure => simp [intOf]; omega
          · have e := Aside0.mk (show wcB g n s (i + 1) = b by rw [wcB_no (by rw [← hb2.out, ← hl.out]; exact z), ← hb2.out])
            go_wp2_with (first | (go_at_call 154; (with_reducible refine (spec_l04Closing_c _ (by omega) (by omega) (by omega)).mono ?_); rintro e w' ⟨rfl, ⟨nd, rfl⟩⟩) | (go_at_call 159; (with_reducible refine (spec_l00Size_c _ (by omega) (by omega)).mono ?_); rintro e w' ⟨rfl, ⟨nd, rfl⟩⟩))
            repeat (go_quiet (first | (go_at_call 154; exact quiet0 (spec_l04Closing_c _ (by omega) (by omega) (by omega))) | (go_at_call 159; exact quiet0 (spec_l00Size_c _ (by omega) (by omega)))); try go_wp2_with (first | (go_at_call 154; (with_reducible refine (spec_l04Closing_c _ (by omega) (by omega) (by omega)).mono ?_); rintro e w' ⟨rfl, ⟨nd, rfl⟩⟩) | (go_at_call 159; (with_reducible refine (spec_l00Size_c _ (by omega) (by omega)).mono ?_); rintro e w' ⟨rfl, ⟨nd, rfl⟩⟩)))
            go_roundw
            case rel => exact ⟨i + 1, l + s, b, by omega, by omega, by omega, by omega, by omega, by omega, ⟨by rw [hl.out]; grind⟩, ⟨e.out.symm⟩, rfl, rfl, ⟨by repeat (first | exact hd.out | apply Drawn0.step)⟩⟩
            case measure => simp [intOf]; omega
        · have e := lats_out hs (k := i) (by rw [← hl.out]; exact hlt)
          have e2 : lats s = i := by omega
          have f2 := Aside0.mk (show RWorstClosing g n s = (b, clo g n b, 0) by rw [f.out, e2, ← hb2.out])
          clear e e2
          go_wp2_with (first | (go_at_call 154; (with_reducible refine (spec_l04Closing_c _ (by omega) (by omega) (by omega)).mono ?_); rintro e w' ⟨rfl, ⟨nd, rfl⟩⟩) | (go_at_call 159; (with_reducible refine (spec_l00Size_c _ (by omega) (by omega)).mono ?_); rintro e w' ⟨rfl, ⟨nd, rfl⟩⟩))
          go_ret3
          exact ⟨triple_eq f2.out, by repeat (first | exact hd.out | apply Drawn0.step)⟩
    · have f := Aside0.mk (show RWorstClosing g n s = (0, 0, 2) by unfold RWorstClosing; rw [if_pos h, if_neg k])
      have hc := Aside0.mk (show cod12 (gOk g) (arOk n ∧ lstepOk s) = 2 by unfold cod12; rw [if_pos h, if_neg k])
      have hn := k
      have hs := k
      clear h hn hs
      go_enter Try.func62, Try.ntmps62
      go_wp2_with (first | (go_at_call 158; (with_reducible refine (spec_l04Steps_c _ hc.out).mono ?_); rintro e w' ⟨rfl, ⟨nd, rfl⟩⟩))
      go_ret3
      exact ⟨triple_eq f.out, by repeat (first | exact Drawn0.refl _ | apply Drawn0.step)⟩
  · have f := Aside0.mk (show RWorstClosing g n s = (0, 0, 1) by unfold RWorstClosing; rw [if_neg h])
    have hc := Aside0.mk (show cod12 (gOk g) (arOk n ∧ lstepOk s) = 1 by unfold cod12; rw [if_neg h])
    have hn := h
    have hs := h
    clear h hn hs
    go_enter Try.func62, Try.ntmps62
    go_wp2_with (first | (go_at_call 158; (with_reducible refine (spec_l04Steps_c _ hc.out).mono ?_); rintro e w' ⟨rfl, ⟨nd, rfl⟩⟩))
    go_ret3
    exact ⟨triple_eq f.out, by repeat (first | exact Drawn0.refl _ | apply Drawn0.step)⟩
end Go.Proofs.Ytkfbbaaniglaeaa.Con
