/- Places within a distance, and places under a cap: lists of numbers of places. Conditions: as stated. -/
import Derived.Test.YtkfbbaaniglaeaaConO
import Derived.Test.YtkfbbaaniglaeaaConG
namespace Go.Proofs.Ytkfbbaaniglaeaa.Con
open Go.RowKit Go.Proofs.YtkfbbaaniglaeaaW.PrintWords Go.Proofs.YtkfbbaaniglaeaaW.PrintLast Go.Proofs.YtkfbbaaniglaeaaW.PrintMore Go.Proofs.Ytkfbbaaniglaeaa.Mth
attribute [local go_sem] max2_int min2_int max_two min_two max_three min_three
set_option linter.unusedVariables false
set_option linter.unusedSimpArgs false
/-- The numbers below n of what has a property, rising. -/
noncomputable def idxF (p : Nat → Prop) : Nat → List Int
  | 0 => []
  | n + 1 => open Classical in if p n then idxF p n ++ [(n : Int)] else idxF p n
theorem idxF_yes {p : Nat → Prop} {n : Nat} (h : p n) : idxF p (n + 1) = idxF p n ++ [(n : Int)] := if_pos h
theorem idxF_no {p : Nat → Prop} {n : Nat} (h : ¬ p n) : idxF p (n + 1) = idxF p n := if_neg h
theorem idxF_len (p : Nat → Prop) (n : Nat) : (idxF p n).length ≤ n := by
  induction n with
  | zero => exact Nat.le_refl _
  | succ n ih =>
    by_cases h : p n
    · rw [idxF_yes h, List.length_append]; show _ + 1 ≤ _; omega
    · rw [idxF_no h]; omega
noncomputable def RSpotsWithin (xs : List Sp) (a b m : Int) : List Int × Int := if sOk a b ∧ okL xs then (if xs.length ≤ 12 ∧ (0 ≤ m ∧ m ≤ 648000) then (idxF (fun i => dist (rdS xs i).f0 (rdS xs i).f1 a b ≤ m) xs.length, 0) else ([], 2)) else ([], 1)
theorem RSpotsWithin_len (xs : List Sp) (a b m : Int) : (RSpotsWithin xs a b m).1.length ≤ 100 := by
  unfold RSpotsWithin; split
  · split
    · rename_i h; have := idxF_len (fun i => dist (rdS xs i).f0 (rdS xs i).f1 a b ≤ m) xs.length; simp only; omega
    · simp
  · simp
noncomputable def RUnderCap (n r : Int) (xs : List Sp) : List Int × Int := if okL xs then (if discB n r (decide (xs.length ≤ 100)) = 0 then (idxF (fun i => edge n r ≤ (rdS xs i).f0) xs.length, 0) else ([], discB n r (decide (xs.length ≤ 100)))) else ([], 1)
theorem RUnderCap_len (n r : Int) (xs : List Sp) : (RUnderCap n r xs).1.length ≤ 100 := by
  unfold RUnderCap; split
  · split
    · rename_i h
      have := (discB_0 h).2.2.2
      have := of_decide_eq_true this
      have := idxF_len (fun i => edge n r ≤ (rdS xs i).f0) xs.length; simp only; omega
    · simp
  · simp
set_option maxHeartbeats 4000000 in
set_option maxRecDepth 100000 in
theorem impl_SpotsWithin_l {A : Option Addr} {n c : Nat} {xs : List Sp} {a b m : Int} (w : World) (hr : Kd.C kSp w A n xs) : Calls Try.prog 41 #[.slice A n c, .agg #[.int .i64 a, .int .i64 b], .int .i64 m] w fun e w' => ∃ v0_ : Value, e = .returned (.tuple #[v0_, .int .i64 (RSpotsWithin xs a b m).2]) ∧ Kd.R (Kd.int .i64) 2 w' w.heap.size (fun _ => True) v0_ (RSpotsWithin xs a b m).1 ∧ Below w.heap.size w w' := by
  have hl := hr.1
  have hr := Aside0.mk hr
  have HB := Aside0.mk (below_alloc (Below.refl w.heap.size w) (.cells #[.int .i64 a, .int .i64 b] 52 (0, 0)))
  rcases dec (sOk a b) with ⟨ha, ba⟩ | ⟨ha, ba⟩
  · rcases dec (okL xs) with ⟨hx, bl⟩ | ⟨hx, bl⟩
    · by_cases h12 : n ≤ 12
      · rcases dec (0 ≤ m ∧ m ≤ 648000) with ⟨hm, bm⟩ | ⟨hm, bm⟩
        · have f := Aside0.mk (show RSpotsWithin xs a b m = (idxF (fun i => dist (rdS xs i).f0 (rdS xs i).f1 a b ≤ m) n, 0) by unfold RSpotsWithin; rw [if_pos ⟨ha, hx⟩, if_pos ⟨by omega, hm⟩, hl])
          have hq := Aside0.mk ((okL_iff xs).1 hx)
          have ha := Aside0.mk ha
          have hl := Aside0.mk hl
          have nq : (n : Int) ≤ 12 := by omega
          clear hx
          go_enter Try.func41, Try.ntmps41
          go_wp2_with (fail)
          refine (impl_ValidSpot_c ba.out _).mono ?_
          rintro e w1 ⟨rfl, hb⟩
          have BK := Aside0.mk (blk_below (blk_new w (.cells #[.int .i64 a, .int .i64 b] 52)) (below_step ( by repeat (first | (with_reducible first | exact Below.refl _ _ | apply below_alloc | apply pw_below_drewN | apply below_drew1 | (refine below_step ?_ (by assumption))) | exact Below.refl _ _) ) hb))
          have HB := Aside0.mk (show Below w.heap.size w w1 from below_step (by repeat (first | (with_reducible first | exact HB.out | apply below_alloc | apply pw_below_drewN | apply below_drew1) | exact HB.out)) hb)
          clear hb
          go_wp2_with (fail)
          refine (impl_areSpots_c _ (Kd.C_below hr.out (by repeat (first | (with_reducible first | exact HB.out | apply below_alloc | apply pw_below_drewN | apply below_drew1) | exact HB.out))) bl.out).mono ?_
          rintro e w2 ⟨rfl, hb⟩
          have BK := Aside0.mk (blk_below BK.out (below_step ( by repeat (first | (with_reducible first | exact Below.refl _ _ | apply below_alloc | apply pw_below_drewN | apply below_drew1 | (refine below_step ?_ (by assumption))) | exact Below.refl _ _) ) hb))
          have HB := Aside0.mk (show Below w.heap.size w w2 from below_step (by repeat (first | (with_reducible first | exact HB.out | apply below_alloc | apply pw_below_drewN | apply below_drew1) | exact HB.out)) hb)
          clear hb
          go_wp2_with (fail)
          refine (impl_within_d _ bm.out).mono ?_
          rintro e w' ⟨rfl, ⟨nd, rfl⟩⟩
          go_wp2_with (fail)
          refine (impl_check_tt _).mono ?_
          rintro e V ⟨rfl, hb⟩
          have hb := hb.below
          have BK := Aside0.mk (blk_below BK.out (below_step ( by repeat (first | (with_reducible first | exact Below.refl _ _ | apply below_alloc | apply pw_below_drewN | apply below_drew1 | (refine below_step ?_ (by assumption))) | exact Below.refl _ _) ) hb))
          have HB := Aside0.mk (show Below w.heap.size w V from below_step (by repeat (first | (with_reducible first | exact HB.out | apply below_alloc | apply pw_below_drewN | apply below_drew1) | exact HB.out)) hb)
          clear hb
          have HV := HB
          have k0 := (blk_cell BK.out 0).trans (by rfl : _ = some (Value.int .i64 a))
          have k1 := (blk_cell BK.out 1).trans (by rfl : _ = some (Value.int .i64 b))
          have gV := blk_lt BK.out
          have hrV := Aside0.mk (Kd.C_below hr.out HV.out)
          clear HB
          go_wp2_with (first | ((with_reducible refine gate_dst (N := 29) rfl ?_); refine Kd.R_lit (Kd.int .i64) _ 2 ?hg (N := 29) ?hd (xs := ([] : List Int)) (inner := []) (ok := fun _ => True) (okp := fun _ => True) ?hr ?hp (fun _ hk => hk) trivial (Below.refl _ _) (Nat.le_refl _) (by simp) ?_; (case hd => rfl); (case hg => rfl); (case hr => first | (go_simp; done) | (go_simp; rfl)); (case hp => exact (Reps.none _ _)); intro v0 w5 ho hb hg_ hnew_; clear hg_ hnew_) | ((with_reducible refine gate_dst (N := 28) rfl ?_); refine Kd.R_lit (Kd.int .i64) _ 2 ?hg (N := 28) ?hd (xs := ([] : List Int)) (inner := []) (ok := fun _ => True) (okp := fun _ => True) ?hr ?hp (fun _ hk => hk) trivial (Below.refl _ _) (Nat.le_refl _) (by simp) ?_; (case hd => rfl); (case hg => rfl); (case hr => first | (go_simp; done) | (go_simp; rfl)); (case hp => exact (Reps.none _ _)); intro v0 w5 ho hb hg_ hnew_; clear hg_ hnew_) | ((with_reducible refine gate_dst (N := 27) rfl ?_); refine Kd.R_lit (Kd.int .i64) _ 2 ?hg (N := 27) ?hd (xs := ([] : List Int)) (inner := []) (ok := fun _ => True) (okp := fun _ => True) ?hr ?hp (fun _ hk => hk) trivial (Below.refl _ _) (Nat.le_refl _) (by simp) ?_; (case hd => rfl); (case hg => rfl); (case hr => first | (go_simp; done) | (go_simp; rfl)); (case hp => exact (Reps.none _ _)); intro v0 w5 ho hb hg_ hnew_; clear hg_ hnew_))
          have HO := Aside0.mk (Kd.R_lower ho (below_size ( by repeat (first | (with_reducible first | exact Below.refl _ _ | apply below_alloc | apply pw_below_drewN | apply below_drew1 | (refine below_step ?_ (by assumption))) | exact Below.refl _ _) ) : V.heap.size ≤ _))
          have HB := Aside0.mk (show Below V.heap.size V w5 from below_step ( by repeat (first | (with_reducible first | exact Below.refl _ _ | apply below_alloc | apply pw_below_drewN | apply below_drew1 | (refine below_step ?_ (by assumption))) | exact Below.refl _ _) ) hb)
          clear ho hb
          go_loopw [9, 32] (fun u k wr => ∃ i : Nat, i ≤ n ∧ k = .int .i64 i ∧ Aside0 (Kd.R (Kd.int .i64) 2 wr V.heap.size (fun _ => True) u (idxF (fun i => dist (rdS xs i).f0 (rdS xs i).f1 a b ≤ m) i)) ∧ Aside0 (Below V.heap.size V wr)) (fun _ k _ => ((n : Int) - intOf k).toNat)
          case atStart => exact ⟨0, by omega, rfl, ⟨(by (with_reducible repeat (first | apply Kd.R_alloc | apply Kd.R_drewN | apply Kd.R_drew)); exact HO.out)⟩, ⟨by repeat (first | (with_reducible first | exact HB.out | apply below_alloc | apply pw_below_drewN | apply below_drew1) | exact HB.out)⟩⟩
          case round =>
            clear HO HB
            obtain ⟨i, hi, rfl, HO, HB⟩ := hrel
            by_cases hlt : i < n
            · have hz : (i : Int) < (n : Int) := by omega
              obtain ⟨ad, e1, x0, x1⟩ := PFnExactUnderCap.at_T52 (Kd.C_below hrV.out HB.out) (i : Int) (by omega) hz
              subst e1
              rw [Int.toNat_natCast] at x0 x1
              have s1 := Aside0.mk (hq.out i (by have := hl.out; omega))
              have ad_l := sp_lt (Kd.C_below hrV.out HB.out) (by omega)
              have q := HB.out.size
              have c0 := (HB.out.cell (p := ⟨w.heap.size, 0, none⟩) gV).trans k0
              have c1 := (HB.out.cell (p := ⟨w.heap.size, 1, none⟩) gV).trans k1
              have il := idxF_len (fun i => dist (rdS xs i).f0 (rdS xs i).f1 a b ≤ m) i
              have gl : w.heap.size < wr.heap.size := by omega
              have gn := Nat.ne_of_lt gl
              have gm := Nat.ne_of_gt gl
              go_wp2_with (fail)
              refine (impl_distance_c s1.out ha.out _).mono ?_
              rintro e W ⟨rfl, hb⟩
              have hbb := Aside0.mk (show Below wr.heap.size wr W from below_step ( by repeat (first | (with_reducible first | exact Below.refl _ _ | apply below_alloc | apply pw_below_drewN | apply below_drew1 | (refine below_step ?_ (by assumption))) | exact Below.refl _ _) ) hb)
              clear hb
              have HB := Aside0.mk (below_step HB.out hbb.out)
              have HO := Aside0.mk (Kd.R_below HO.out hbb.out)
              by_cases lt : dist (rdS xs i).f0 (rdS xs i).f1 a b ≤ m
              · go_wp2_with (first | (at_builtin; refine Kd.R_append (Kd.int .i64) (w0 := V) V.heap.size rfl _ _ 22 2 (.int .i64 0) 8 rfl Try.underlying22 linfo rfl (by decide) (by omega) u9 (idxF (fun i => dist (rdS xs i).f0 (rdS xs i).f1 a b ≤ m) i) ((i : Int)) [.int .i64 ((i : Int))] (fun _ => True) (fun _ => False) rfl rfl ?aP (fun _ hk => hk.elim) ?aF ?aO ?aB ?aS ?aL ?_; (case aP => exact rfl); (case aB => exact (by repeat (first | (with_reducible first | exact HB.out | apply below_alloc | apply pw_below_drewN | apply below_drew1) | exact HB.out))); (case aF => exact (fun _ _ => trivial)); (case aO => exact (by (with_reducible repeat (first | apply Kd.R_alloc | apply Kd.R_drewN | apply Kd.R_drew)); exact HO.out)); (case aS => exact (below_size (by repeat (first | (with_reducible first | exact HB.out | apply below_alloc | apply pw_below_drewN | apply below_drew1) | exact HB.out)))); (case aL => first | omega | (simp; omega)); intro v1 w9 ho hb hg hat))
                rw [← idxF_yes (p := (fun i => dist (rdS xs i).f0 (rdS xs i).f1 a b ≤ m)) lt] at ho
                go_roundw
                case rel => exact ⟨i + 1, by omega, by go_num, ⟨(by (with_reducible repeat (first | apply Kd.R_alloc | apply Kd.R_drewN | apply Kd.R_drew)); exact ho)⟩, ⟨by repeat (first | (with_reducible first | exact hb | apply below_alloc | apply pw_below_drewN | apply below_drew1) | exact hb)⟩⟩
                case measure => simp [intOf]; omega
              · go_wp2
                go_roundw
                case rel => exact ⟨i + 1, by omega, by go_num, ⟨by rw [idxF_no (p := (fun i => dist (rdS xs i).f0 (rdS xs i).f1 a b ≤ m)) (by show ¬ _ ≤ m; omega)]; exact (by (with_reducible repeat (first | apply Kd.R_alloc | apply Kd.R_drewN | apply Kd.R_drew)); exact HO.out)⟩, ⟨by repeat (first | (with_reducible first | exact HB.out | apply below_alloc | apply pw_below_drewN | apply below_drew1) | exact HB.out)⟩⟩
                case measure => simp [intOf]; omega
            · have e : i = n := by omega
              subst e
              have hz : ¬ (i : Int) < (i : Int) := by omega
              go_wp2
              go_ret2
              exact ⟨_, by rw [f.out]; rfl, by rw [f.out]; exact Kd.R_lower HO.out (by have := HV.out.size; omega), below_step HV.out HB.out⟩
        · have nq : (n : Int) ≤ 12 := by omega
          have f := Aside0.mk (show RSpotsWithin xs a b m = ([], 2) by unfold RSpotsWithin; rw [if_pos ⟨ha, hx⟩, if_neg (fun e => hm e.2)])
          clear ha hx hm hl
          go_enter Try.func41, Try.ntmps41
          go_wp2_with (fail)
          refine (impl_ValidSpot_c ba.out _).mono ?_
          rintro e w1 ⟨rfl, hb⟩
          have BK := Aside0.mk (blk_below (blk_new w (.cells #[.int .i64 a, .int .i64 b] 52)) (below_step ( by repeat (first | (with_reducible first | exact Below.refl _ _ | apply below_alloc | apply pw_below_drewN | apply below_drew1 | (refine below_step ?_ (by assumption))) | exact Below.refl _ _) ) hb))
          have HB := Aside0.mk (show Below w.heap.size w w1 from below_step (by repeat (first | (with_reducible first | exact HB.out | apply below_alloc | apply pw_below_drewN | apply below_drew1) | exact HB.out)) hb)
          clear hb
          go_wp2_with (fail)
          refine (impl_areSpots_c _ (Kd.C_below hr.out (by repeat (first | (with_reducible first | exact HB.out | apply below_alloc | apply pw_below_drewN | apply below_drew1) | exact HB.out))) bl.out).mono ?_
          rintro e w2 ⟨rfl, hb⟩
          have BK := Aside0.mk (blk_below BK.out (below_step ( by repeat (first | (with_reducible first | exact Below.refl _ _ | apply below_alloc | apply pw_below_drewN | apply below_drew1 | (refine below_step ?_ (by assumption))) | exact Below.refl _ _) ) hb))
          have HB := Aside0.mk (show Below w.heap.size w w2 from below_step (by repeat (first | (with_reducible first | exact HB.out | apply below_alloc | apply pw_below_drewN | apply below_drew1) | exact HB.out)) hb)
          clear hb
          go_wp2_with (fail)
          refine (impl_within_d _ bm.out).mono ?_
          rintro e w' ⟨rfl, ⟨nd, rfl⟩⟩
          go_wp2_with (fail)
          refine (impl_check_tf _).mono ?_
          rintro e w' ⟨rfl, ⟨nd, rfl⟩⟩
          go_wp2
          go_ret2
          exact ⟨_, by rw [f.out]; rfl, by rw [f.out]; exact Kd.R_nil .., by repeat (first | (with_reducible first | exact HB.out | apply below_alloc | apply pw_below_drewN | apply below_drew1) | exact HB.out)⟩
      · have nq : ¬ (n : Int) ≤ 12 := by omega
        have f := Aside0.mk (show RSpotsWithin xs a b m = ([], 2) by unfold RSpotsWithin; rw [if_pos ⟨ha, hx⟩, if_neg (fun e => h12 (by omega))])
        clear ha hx hl
        go_enter Try.func41, Try.ntmps41
        go_wp2_with (fail)
        refine (impl_ValidSpot_c ba.out _).mono ?_
        rintro e w1 ⟨rfl, hb⟩
        have BK := Aside0.mk (blk_below (blk_new w (.cells #[.int .i64 a, .int .i64 b] 52)) (below_step ( by repeat (first | (with_reducible first | exact Below.refl _ _ | apply below_alloc | apply pw_below_drewN | apply below_drew1 | (refine below_step ?_ (by assumption))) | exact Below.refl _ _) ) hb))
        have HB := Aside0.mk (show Below w.heap.size w w1 from below_step (by repeat (first | (with_reducible first | exact HB.out | apply below_alloc | apply pw_below_drewN | apply below_drew1) | exact HB.out)) hb)
        clear hb
        go_wp2_with (fail)
        refine (impl_areSpots_c _ (Kd.C_below hr.out (by repeat (first | (with_reducible first | exact HB.out | apply below_alloc | apply pw_below_drewN | apply below_drew1) | exact HB.out))) bl.out).mono ?_
        rintro e w2 ⟨rfl, hb⟩
        have BK := Aside0.mk (blk_below BK.out (below_step ( by repeat (first | (with_reducible first | exact Below.refl _ _ | apply below_alloc | apply pw_below_drewN | apply below_drew1 | (refine below_step ?_ (by assumption))) | exact Below.refl _ _) ) hb))
        have HB := Aside0.mk (show Below w.heap.size w w2 from below_step (by repeat (first | (with_reducible first | exact HB.out | apply below_alloc | apply pw_below_drewN | apply below_drew1) | exact HB.out)) hb)
        clear hb
        go_wp2_with (fail)
        refine (impl_check_tf _).mono ?_
        rintro e w' ⟨rfl, ⟨nd, rfl⟩⟩
        go_wp2
        go_ret2
        exact ⟨_, by rw [f.out]; rfl, by rw [f.out]; exact Kd.R_nil .., by repeat (first | (with_reducible first | exact HB.out | apply below_alloc | apply pw_below_drewN | apply below_drew1) | exact HB.out)⟩
    · clear hl
      have f := Aside0.mk (show RSpotsWithin xs a b m = ([], 1) by unfold RSpotsWithin; rw [if_neg (fun e => hx e.2)])
      clear ha hx
      rcases dec (0 ≤ m ∧ m ≤ 648000) with ⟨hm, bm⟩ | ⟨hm, bm⟩
      all_goals
        clear hm
        by_cases h12 : n ≤ 12
        · have nq : (n : Int) ≤ 12 := by omega
          go_enter Try.func41, Try.ntmps41
          go_wp2_with (fail)
          refine (impl_ValidSpot_c ba.out _).mono ?_
          rintro e w1 ⟨rfl, hb⟩
          have BK := Aside0.mk (blk_below (blk_new w (.cells #[.int .i64 a, .int .i64 b] 52)) (below_step ( by repeat (first | (with_reducible first | exact Below.refl _ _ | apply below_alloc | apply pw_below_drewN | apply below_drew1 | (refine below_step ?_ (by assumption))) | exact Below.refl _ _) ) hb))
          have HB := Aside0.mk (show Below w.heap.size w w1 from below_step (by repeat (first | (with_reducible first | exact HB.out | apply below_alloc | apply pw_below_drewN | apply below_drew1) | exact HB.out)) hb)
          clear hb
          go_wp2_with (fail)
          refine (impl_areSpots_c _ (Kd.C_below hr.out (by repeat (first | (with_reducible first | exact HB.out | apply below_alloc | apply pw_below_drewN | apply below_drew1) | exact HB.out))) bl.out).mono ?_
          rintro e w2 ⟨rfl, hb⟩
          have BK := Aside0.mk (blk_below BK.out (below_step ( by repeat (first | (with_reducible first | exact Below.refl _ _ | apply below_alloc | apply pw_below_drewN | apply below_drew1 | (refine below_step ?_ (by assumption))) | exact Below.refl _ _) ) hb))
          have HB := Aside0.mk (show Below w.heap.size w w2 from below_step (by repeat (first | (with_reducible first | exact HB.out | apply below_alloc | apply pw_below_drewN | apply below_drew1) | exact HB.out)) hb)
          clear hb
          go_wp2_with (fail)
          refine (impl_within_d _ bm.out).mono ?_
          rintro e w' ⟨rfl, ⟨nd, rfl⟩⟩
          go_wp2_with (fail)
          refine (impl_check_f _).mono ?_
          rintro e w' ⟨rfl, ⟨nd, rfl⟩⟩
          go_wp2
          go_ret2
          exact ⟨_, by rw [f.out]; rfl, by rw [f.out]; exact Kd.R_nil .., by repeat (first | (with_reducible first | exact HB.out | apply below_alloc | apply pw_below_drewN | apply below_drew1) | exact HB.out)⟩
        · have nq : ¬ (n : Int) ≤ 12 := by omega
          go_enter Try.func41, Try.ntmps41
          go_wp2_with (fail)
          refine (impl_ValidSpot_c ba.out _).mono ?_
          rintro e w1 ⟨rfl, hb⟩
          have BK := Aside0.mk (blk_below (blk_new w (.cells #[.int .i64 a, .int .i64 b] 52)) (below_step ( by repeat (first | (with_reducible first | exact Below.refl _ _ | apply below_alloc | apply pw_below_drewN | apply below_drew1 | (refine below_step ?_ (by assumption))) | exact Below.refl _ _) ) hb))
          have HB := Aside0.mk (show Below w.heap.size w w1 from below_step (by repeat (first | (with_reducible first | exact HB.out | apply below_alloc | apply pw_below_drewN | apply below_drew1) | exact HB.out)) hb)
          clear hb
          go_wp2_with (fail)
          refine (impl_areSpots_c _ (Kd.C_below hr.out (by repeat (first | (with_reducible first | exact HB.out | apply below_alloc | apply pw_below_drewN | apply below_drew1) | exact HB.out))) bl.out).mono ?_
          rintro e w2 ⟨rfl, hb⟩
          have BK := Aside0.mk (blk_below BK.out (below_step ( by repeat (first | (with_reducible first | exact Below.refl _ _ | apply below_alloc | apply pw_below_drewN | apply below_drew1 | (refine below_step ?_ (by assumption))) | exact Below.refl _ _) ) hb))
          have HB := Aside0.mk (show Below w.heap.size w w2 from below_step (by repeat (first | (with_reducible first | exact HB.out | apply below_alloc | apply pw_below_drewN | apply below_drew1) | exact HB.out)) hb)
          clear hb
          go_wp2_with (fail)
          refine (impl_check_f _).mono ?_
          rintro e w' ⟨rfl, ⟨nd, rfl⟩⟩
          go_wp2
          go_ret2
          exact ⟨_, by rw [f.out]; rfl, by rw [f.out]; exact Kd.R_nil .., by repeat (first | (with_reducible first | exact HB.out | apply below_alloc | apply pw_below_drewN | apply below_drew1) | exact HB.out)⟩
  · clear hl
    have f := Aside0.mk (show RSpotsWithin xs a b m = ([], 1) by unfold RSpotsWithin; rw [if_neg (fun e => ha e.1)])
    clear ha
    rcases dec (0 ≤ m ∧ m ≤ 648000) with ⟨hm, bm⟩ | ⟨hm, bm⟩
    all_goals
      clear hm
      by_cases h12 : n ≤ 12
      · have nq : (n : Int) ≤ 12 := by omega
        go_enter Try.func41, Try.ntmps41
        go_wp2_with (fail)
        refine (impl_ValidSpot_c ba.out _).mono ?_
        rintro e w1 ⟨rfl, hb⟩
        have BK := Aside0.mk (blk_below (blk_new w (.cells #[.int .i64 a, .int .i64 b] 52)) (below_step ( by repeat (first | (with_reducible first | exact Below.refl _ _ | apply below_alloc | apply pw_below_drewN | apply below_drew1 | (refine below_step ?_ (by assumption))) | exact Below.refl _ _) ) hb))
        have HB := Aside0.mk (show Below w.heap.size w w1 from below_step (by repeat (first | (with_reducible first | exact HB.out | apply below_alloc | apply pw_below_drewN | apply below_drew1) | exact HB.out)) hb)
        clear hb
        go_wp2_with (fail)
        refine (impl_within_d _ bm.out).mono ?_
        rintro e w' ⟨rfl, ⟨nd, rfl⟩⟩
        go_wp2_with (fail)
        refine (impl_check_f _).mono ?_
        rintro e w' ⟨rfl, ⟨nd, rfl⟩⟩
        go_wp2
        go_ret2
        exact ⟨_, by rw [f.out]; rfl, by rw [f.out]; exact Kd.R_nil .., by repeat (first | (with_reducible first | exact HB.out | apply below_alloc | apply pw_below_drewN | apply below_drew1) | exact HB.out)⟩
      · have nq : ¬ (n : Int) ≤ 12 := by omega
        go_enter Try.func41, Try.ntmps41
        go_wp2_with (fail)
        refine (impl_ValidSpot_c ba.out _).mono ?_
        rintro e w1 ⟨rfl, hb⟩
        have BK := Aside0.mk (blk_below (blk_new w (.cells #[.int .i64 a, .int .i64 b] 52)) (below_step ( by repeat (first | (with_reducible first | exact Below.refl _ _ | apply below_alloc | apply pw_below_drewN | apply below_drew1 | (refine below_step ?_ (by assumption))) | exact Below.refl _ _) ) hb))
        have HB := Aside0.mk (show Below w.heap.size w w1 from below_step (by repeat (first | (with_reducible first | exact HB.out | apply below_alloc | apply pw_below_drewN | apply below_drew1) | exact HB.out)) hb)
        clear hb
        go_wp2_with (fail)
        refine (impl_check_f _).mono ?_
        rintro e w' ⟨rfl, ⟨nd, rfl⟩⟩
        go_wp2
        go_ret2
        exact ⟨_, by rw [f.out]; rfl, by rw [f.out]; exact Kd.R_nil .., by repeat (first | (with_reducible first | exact HB.out | apply below_alloc | apply pw_below_drewN | apply below_drew1) | exact HB.out)⟩
end Go.Proofs.Ytkfbbaaniglaeaa.Con
