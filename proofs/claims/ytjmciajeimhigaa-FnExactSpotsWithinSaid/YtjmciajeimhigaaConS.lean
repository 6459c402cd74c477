/- Places within a distance, and places under a cap: lists of numbers of places. Conditions: as stated. -/
import Derived.Test.YtjmciajeimhigaaConO
import Derived.Test.YtjmciajeimhigaaConG
namespace Go.Proofs.Ytjmciajeimhigaa.Con
open Go.RowKit Go.Proofs.YtjmciajeimhigaaW.PrintWords Go.Proofs.YtjmciajeimhigaaW.PrintLast Go.Proofs.YtjmciajeimhigaaW.PrintMore Go.Proofs.Ytjmciajeimhigaa.Mth
attribute [local go_sem] max2_int min2_int max_two min_two max_three min_three
set_option linter.unusedVariables false
set_option linter.unusedSimpArgs false
/-- The numbers below n of what has a property, rising. -/
noncomputable def idxF (p : Nat → Prop) : Nat → List Int
  | 0 => []
  | n + 1 => open Classical in if p n then idxF p n ++ [(n : Int)] else idxF p n
theorem idxF_yes {p : Nat → Prop} {n : Nat} (h : p n) : idxF p (n + 1) = idxF p n ++ [(n : Int)] := if_pos h
theorem idxF_no {p : Nat → Prop} {n : Nat} (h : ¬ p n) : idxF p (n + 1) = idxF p n := if_neg h
theorem idxF_len (p : Nat → Prop) (n : Nat) : (idxF p n).length ≤ n := by
  induction n with
  | zero => exact Nat.le_refl _
  | succ n ih =>
    by_cases h : p n
    · rw [idxF_yes h, List.length_append]; show _ + 1 ≤ _; omega
    · rw [idxF_no h]; omega
noncomputable def RSpotsWithin (xs : List Sp) (a b m : Int) : List Int × Int := if sOk a b ∧ okL xs then (if xs.length ≤ 12 ∧ (0 ≤ m ∧ m ≤ 648000) then (idxF (fun i => dist (rdS xs i).f0 (rdS xs i).f1 a b ≤ m) xs.length, 0) else ([], 2)) else ([], 1)
theorem RSpotsWithin_len (xs : List Sp) (a b m : Int) : (RSpotsWithin xs a b m).1.length ≤ 100 := by
  unfold RSpotsWithin; split
  · split
    · rename_i h; have := idxF_len (fun i => dist (rdS xs i).f0 (rdS xs i).f1 a b ≤ m) xs.length; simp only; omega
    · simp
  · simp
noncomputable def RUnderCap (n r : Int) (xs : List Sp) : List Int × Int := if okL xs then (if discB n r (decide (xs.length ≤ 100)) = 0 then (idxF (fun i => edge n r ≤ (rdS xs i).f0) xs.length, 0) else ([], discB n r (decide (xs.length ≤ 100)))) else ([], 1)
theorem RUnderCap_len (n r : Int) (xs : List Sp) : (RUnderCap n r xs).1.length ≤ 100 := by
  unfold RUnderCap; split
  · split
    · rename_i h
      have := (discB_0 h).2.2.2
      have := of_decide_eq_true this
      have := idxF_len (fun i => edge n r ≤ (rdS xs i).f0) xs.length; simp only; omega
    · simp
  · simp
set_option maxHeartbeats 4000000 in
set_option maxRecDepth 100000 in
theorem impl_SpotsWithin_l {A : Option Addr} {n c : Nat} {xs : List Sp} {a b m : Int} (w : World) (hr : Kd.C kSp w A n xs) : Calls Try.prog 45 #[.slice A n c, .agg #[.int .i64 a, .int .i64 b], .int .i64 m] w fun e w' => ∃ v0_ : Value, e = .returned (.tuple #[v0_, .int .i64 (RSpotsWithin xs a b m).2]) ∧ Kd.R (Kd.int .i64) 2 w' w.heap.size (fun _ => True) v0_ (RSpotsWithin xs a b m).1 ∧ Below w.heap.size w w' := by
  have hl := hr.1
  have hr := Aside0.mk hr
  have HB := Aside0.mk (below_alloc (Below.refl w.heap.size w) (.cells #[.int .i64 a, .int .i64 b] 50 (0, 0)))
  rcases dec (sOk a b) with ⟨ha, ba⟩ | ⟨ha, ba⟩
  · rcases dec (okL xs) with ⟨hx, bl⟩ | ⟨hx, bl⟩
    · by_cases h12 : n ≤ 12
      · rcases dec (0 ≤ m ∧ m ≤ 648000) with ⟨hm, bm⟩ | ⟨hm, bm⟩
        · have f := Aside0.mk (show RSpotsWithin xs a b m = (idxF (fun i => dist (rdS xs i).f0 (rdS xs i).f1 a b ≤ m) n, 0) by unfold RSpotsWithin; rw [if_pos ⟨ha, hx⟩, if_pos ⟨by omega, hm⟩, hl])
          have hq := Aside0.mk ((okL_iff xs).1 hx)
          have ha := Aside0.mk ha
          have hl := Aside0.mk hl
          have nq : (n : Int) ≤ 12 := by omega
          clear hx
          go_enter Try.func45, Try.ntmps45
          go_wp2_with (fail)
          refine (impl_ValidSpot_c ba.out _).mono ?_
          rintro e w1 ⟨rfl, hb⟩
          have BK := Aside0.mk (blk_below (blk_new w (.cells #[.int .i64 a, .int .i64 b] 50)) (below_step ( by repeat (first | (with_reducible first | exact Below.refl _ _ | apply below_alloc | apply pw_below_drewN | apply below_drew1 | (refine below_step ?_ (by assumption))) | exact Below.refl _ _) ) hb))
          have HB := Aside0.mk (show Below w.heap.size w w1 from below_step (by repeat (first | (with_reducible first | exact HB.out | apply below_alloc | apply pw_below_drewN | apply below_drew1) | exact HB.out)) hb)
          clear hb
          go_wp2_with (fail)
          refine (impl_areSpots_c _ (Kd.C_below hr.out (by repeat (first | (with_reducible first | exact HB.out | apply below_alloc | apply pw_below_drewN | apply below_drew1) | exact HB.out))) bl.out).mono ?_
          rintro e w2 ⟨rfl, hb⟩
          have BK := Aside0.mk (blk_below BK.out (below_step ( by repeat (first | (with_reducible first | exact Below.refl _ _ | apply below_alloc | apply pw_below_drewN | apply below_drew1 | (refine below_step ?_ (by assumption))) | exact Below.refl _ _) ) hb))
          have HB := Aside0.mk (show Below w.heap.size w w2 from below_step (by repeat (first | (with_reducible first | exact HB.out | apply below_alloc | apply pw_below_drewN | apply below_drew1) | exact HB.out)) hb)
          clear hb
          go_wp2_with (fail)
          refine (impl_within_d _ bm.out).mono ?_
          rintro e w' ⟨rfl, ⟨nd, rfl⟩⟩
          go_wp2_with (fail)
          refine (impl_check_tt _).mono ?_
          rintro e V ⟨rfl, hb⟩
          have hb := hb.below
          have BK := Aside0.mk (blk_below BK.out (below_step ( by repeat (first | (with_reducible first | exact Below.refl _ _ | apply below_alloc | apply pw_below_drewN | apply below_drew1 | (refine below_step ?_ (by assumption))) | exact Below.refl _ _) ) hb))
          have HB := Aside0.mk (show Below w.heap.size w V from below_step (by repeat (first | (with_reducible first | exact HB.out | apply below_alloc | apply pw_below_drewN | apply below_drew1) | exact HB.out)) hb)
          clear hb
          have HV := HB
          have k0 := (blk_cell BK.out 0).trans (by rfl : _ = some (Value.int .i64 a))
          have k1 := (blk_cell BK.out 1).trans (by rfl : _ = some (Value.int .i64 b))
          have gV := blk_lt BK.out
          have hrV := Aside0.mk (Kd.C_below hr.out HV.out)
          clear HB
          go_wp2_with (first | ((with_reducible refine gate_dst (N := 29) rfl ?_); refine Kd.R_lit (Kd.int .i64) _ 2 ?hg (N := 29) ?hd (xs := ([] : List Int)) (inner := []) (ok := fun _ => True) (okp := fun _ => True) ?hr ?hp (fun _ hk => hk) trivial (Below.refl _ _) (Nat.le_refl _) (by simp) ?_; (case hd => rfl); (case hg => rfl); (case hr => first | (go_simp; done) | (go_simp; rfl)); (case hp => exact (Reps.none _ _)); intro v0 w5 ho hb hg_ hnew_; clear hg_ hnew_) | ((with_reducible refine gate_dst (N := 28) rfl ?_); refine Kd.R_lit (Kd.int .i64) _ 2 ?hg (N := 28) ?hd (xs := ([] : List Int)) (inner := []) (ok := fun _ => True) (okp := fun _ => True) ?hr ?hp (fun _ hk => hk) trivial (Below.refl _ _) (Nat.le_refl _) (by simp) ?_; (case hd => rfl); (case hg => rfl); (case hr => first | (go_simp; done) | (go_simp; rfl)); (case hp => exact (Reps.none _ _)); intro v0 w5 ho hb hg_ hnew_; clear hg_ hnew_) | ((with_reducible refine gate_dst (N := 27) rfl ?_); refine Kd.R_lit (Kd.int .i64) _ 2 ?hg (N := 27) ?hd (xs := ([] : List Int)) (inner := []) (ok := fun _ => True) (okp := fun _ => True) ?hr ?hp (fun _ hk => hk) trivial (Below.refl _ _) (Nat.le_refl _) (by simp) ?_; (case hd => rfl); (case hg => rfl); (case hr => first | (go_simp; done) | (go_simp; rfl)); (case hp => exact (Reps.none _ _)); intro v0 w5 ho hb hg_ hnew_; clear hg_ hnew_))
          have HO := Aside0.mk (Kd.R_lower ho (below_size ( by repeat (first | (with_reducible first | exact Below.refl _ _ | apply below_alloc | apply pw_below_drewN | apply below_drew1 | (refine below_step ?_ (by assumption))) | exact Below.refl _ _) ) : V.heap.size ≤ _))
          have HB := Aside0.mk (show Below V.heap.size V w5 from below_step ( by repeat (first | (with_reducible first | exact Below.refl _ _ | apply below_alloc | apply pw_below_drewN | apply below_drew1 | (refine below_step ?_ (by assumption))) | exact Below.refl _ _) ) hb)
          clear ho hb
          go_loopw [9, 32] (fun u k wr => ∃ i : Nat, i ≤ n ∧ k = .int .i64 i ∧ Aside0 (Kd.R (Kd.int .i64) 2 wr V.heap.size (fun _ => True) u (idxF (fun i => dist (rdS xs i).f0 (rdS xs i).f1 a b ≤ m) i)) ∧ Aside0 (Below V.heap.size V wr)) (fun _ k _ => ((n : Int) - intOf k).toNat)
          case atStart => exact ⟨0, by omega, rfl, ⟨(by (with_reducible repeat (first | apply Kd.R_alloc | apply Kd.R_drewN | apply Kd.R_drew)); exact HO.out)⟩, ⟨by repeat (first | (with_reducible first | exact HB.out | apply below_alloc | apply pw_below_drewN | apply below_drew1) | exact HB.out)⟩⟩
          case round =>
            clear HO HB
            obtain ⟨i, hi, rfl, HO, HB⟩ := hrel
            by_cases hlt : i < n
            · have hz : (i : Int) < (n : Int) := by omega
              obtain ⟨ad, e1, x0, x1⟩ := PFnExactUnderCap.at_T50 (Kd.C_below hrV.out HB.out) (i : Int) (by omega) hz
              subst e1
              rw [Int.toNat_natCast] at x0 x1
              have s1 := Aside0.mk (hq.out i (by have := hl.out; omega))
              have ad_l := sp_lt (Kd.C_below hrV.out HB.out) (by omega)
              have q := HB.out.size
              have c0 := (HB.out.cell (p := ⟨w.heap.size, 0, none⟩) gV).trans k0
              have c1 := (HB.out.cell (p := ⟨w.heap.size, 1, none⟩) gV).trans k1
              have il := idxF_len (fun i => dist (rdS xs i).f0 (rdS xs i).f1 a b ≤ m) i
              have gl : w.heap.size < wr.heap.size := by omega
              have gn := Nat.ne_of_lt gl
              have gm := Nat.ne_of_gt gl
              go_wp2_with (fail)
              refine (impl_distance_c s1.out ha.out _).mono ?_
              rintro e W ⟨rfl, hb⟩
              have hbb := Aside0.mk (show Below wr.heap.size wr W from below_step ( by repeat (first | (with_reducible first | exact Below.refl _ _ | apply below_alloc | apply pw_below_drewN | apply below_drew1 | (refine below_step ?_ (by assumption))) | exact Below.refl _ _) ) hb)
              clear hb
              have HB := Aside0.mk (below_step HB.out hbb.out)
              have HO := Aside0.mk (Kd.R_below HO.out hbb.out)
              by_cases lt : dist (rdS xs i).f0 (rdS xs i).f1 a b ≤ m
              · go_wp2_with (first | (at_builtin; refine Kd.R_append (Kd.int .i64) (w0 := V) V.heap.size rfl _ _ 22 2 (.int .i64 0) 8 rfl Try.underlying22 linfo rfl (by decide) (by omega) u9 (idxF (fun i => dist (rdS xs i).f0 (rdS xs i).f1 a b ≤ m) i) ((i : Int)) [.int .i64 ((i : Int))] (fun _ => True) (fun _ => False) rfl rfl ?aP (fun _ hk => hk.elim) ?aF ?aO ?aB ?aS ?aL ?_; (case aP => exact rfl); (case aB => exact (by repeat (first | (with_reducible first | exact HB.out | apply below_alloc | apply pw_below_drewN | apply below_drew1) | exact HB.out))); (case aF => exact (fun _ _ => trivial)); (case aO => exact (by (with_reducible repeat (first | apply Kd.R_alloc | apply Kd.R_drewN | apply Kd.R_drew)); exact HO.out)); (case aS => exact (below_size (by repeat (first | (with_reducible first | exact HB.out | apply below_alloc | apply pw_below_drewN | apply below_drew1) | exact HB.out)))); (case aL => first | omega | (simp; omega)); intro v1 w9 ho hb hg hat))
                rw [← idxF_yes (p := (fun i => dist (rdS xs i).f0 (rdS xs i).f1 a b ≤ m)) lt] at ho
                go_roundw
                case rel => exact ⟨i + 1, by omega, by go_num, ⟨(by (with_reducible repeat (first | apply Kd.R_alloc | apply Kd.R_drewN | apply Kd.R_drew)); exact ho)⟩, ⟨by repeat (first | (with_reducible first | exact hb | apply below_alloc | apply pw_below_drewN | apply below_drew1) | exact hb)⟩⟩
                case measure => simp [intOf]; omega
              · go_wp2
                go_roundw
                case rel => exact ⟨i + 1, by omega, by go_num, ⟨by rw [idxF_no (p := (fun i => dist (rdS xs i).f0 (rdS xs i).f1 a b ≤ m)) (by show ¬ _ ≤ m; omega)]; exact (by (with_reducible repeat (first | apply Kd.R_alloc | apply Kd.R_drewN | apply Kd.R_drew)); exact HO.out)⟩, ⟨by repeat (first | (with_reducible first | exact HB.out | apply below_alloc | apply pw_below_drewN | apply below_drew1) | exact HB.out)⟩⟩
                case measure => simp [intOf]; omega
            · have e : i = n := by omega
              subst e
              have hz : ¬ (i : Int) < (i : Int) := by omega
              go_wp2
              go_ret2
              exact ⟨_, by rw [f.out]; rfl, by rw [f.out]; exact Kd.R_lower HO.out (by have := HV.out.size; omega), below_step HV.out HB.out⟩
        · have nq : (n : Int) ≤ 12 := by omega
          have f := Aside0.mk (show RSpotsWithin xs a b m = ([], 2) by unfold RSpotsWithin; rw [if_pos ⟨ha, hx⟩, if_neg (fun e => hm e.2)])
          clear ha hx hm hl
          go_enter Try.func45, Try.ntmps45
          go_wp2_with (fail)
          refine (impl_ValidSpot_c ba.out _).mono ?_
          rintro e w1 ⟨rfl, hb⟩
          have BK := Aside0.mk (blk_below (blk_new w (.cells #[.int .i64 a, .int .i64 b] 50)) (below_step ( by repeat (first | (with_reducible first | exact Below.refl _ _ | apply below_alloc | apply pw_below_drewN | apply below_drew1 | (refine below_step ?_ (by assumption))) | exact Below.refl _ _) ) hb))
          have HB := Aside0.mk (show Below w.heap.size w w1 from below_step (by repeat (first | (with_reducible first | exact HB.out | apply below_alloc | apply pw_below_drewN | apply below_drew1) | exact HB.out)) hb)
          clear hb
          go_wp2_with (fail)
          refine (impl_areSpots_c _ (Kd.C_below hr.out (by repeat (first | (with_reducible first | exact HB.out | apply below_alloc | apply pw_below_drewN | apply below_drew1) | exact HB.out))) bl.out).mono ?_
          rintro e w2 ⟨rfl, hb⟩
          have BK := Aside0.mk (blk_below BK.out (below_step ( by repeat (first | (with_reducible first | exact Below.refl _ _ | apply below_alloc | apply pw_below_drewN | apply below_drew1 | (refine below_step ?_ (by assumption))) | exact Below.refl _ _) ) hb))
          have HB := Aside0.mk (show Below w.heap.size w w2 from below_step (by repeat (first | (with_reducible first | exact HB.out | apply below_alloc | apply pw_below_drewN | apply below_drew1) | exact HB.out)) hb)
          clear hb
          go_wp2_with (fail)
          refine (impl_within_d _ bm.out).mono ?_
          rintro e w' ⟨rfl, ⟨nd, rfl⟩⟩
          go_wp2_with (fail)
          refine (impl_check_tf _).mono ?_
          rintro e w' ⟨rfl, ⟨nd, rfl⟩⟩
          go_wp2
          go_ret2
          exact ⟨_, by rw [f.out]; rfl, by rw [f.out]; exact Kd.R_nil .., by repeat (first | (with_reducible first | exact HB.out | apply below_alloc | apply pw_below_drewN | apply below_drew1) | exact HB.out)⟩
      · have nq : ¬ (n : Int) ≤ 12 := by omega
        have f := Aside0.mk (show RSpotsWithin xs a b m = ([], 2) by unfold RSpotsWithin; rw [if_pos ⟨ha, hx⟩, if_neg (fun e => h12 (by omega))])
        clear ha hx hl
        go_enter Try.func45, Try.ntmps45
        go_wp2_with (fail)
        refine (impl_ValidSpot_c ba.out _).mono ?_
        rintro e w1 ⟨rfl, hb⟩
        have BK := Aside0.mk (blk_below (blk_new w (.cells #[.int .i64 a, .int .i64 b] 50)) (below_step ( by repeat (first | (with_reducible first | exact Below.refl _ _ | apply below_alloc | apply pw_below_drewN | apply below_drew1 | (refine below_step ?_ (by assumption))) | exact Below.refl _ _) ) hb))
        have HB := Aside0.mk (show Below w.heap.size w w1 from below_step (by repeat (first | (with_reducible first | exact HB.out | apply below_alloc | apply pw_below_drewN | apply below_drew1) | exact HB.out)) hb)
        clear hb
        go_wp2_with (fail)
        refine (impl_areSpots_c _ (Kd.C_below hr.out (by repeat (first | (with_reducible first | exact HB.out | apply below_alloc | apply pw_below_drewN | apply below_drew1) | exact HB.out))) bl.out).mono ?_
        rintro e w2 ⟨rfl, hb⟩
        have BK := Aside0.mk (blk_below BK.out (below_step ( by repeat (first | (with_reducible first | exact Below.refl _ _ | apply below_alloc | apply pw_below_drewN | apply below_drew1 | (refine below_step ?_ (by assumption))) | exact Below.refl _ _) ) hb))
        have HB := Aside0.mk (show Below w.heap.size w w2 from below_step (by repeat (first | (with_reducible first | exact HB.out | apply below_alloc | apply pw_below_drewN | apply below_drew1) | exact HB.out)) hb)
        clear hb
        go_wp2_with (fail)
        refine (impl_check_tf _).mono ?_
        rintro e w' ⟨rfl, ⟨nd, rfl⟩⟩
        go_wp2
        go_ret2
        exact ⟨_, by rw [f.out]; rfl, by rw [f.out]; exact Kd.R_nil .., by repeat (first | (with_reducible first | exact HB.out | apply below_alloc | apply pw_below_drewN | apply below_drew1) | exact HB.out)⟩
    · clear hl
      have f := Aside0.mk (show RSpotsWithin xs a b m = ([], 1) by unfold RSpotsWithin; rw [if_neg (fun e => hx e.2)])
      clear ha hx
      rcases dec (0 ≤ m ∧ m ≤ 648000) with ⟨hm, bm⟩ | ⟨hm, bm⟩
      all_goals
        clear hm
        by_cases h12 : n ≤ 12
        · have nq : (n : Int) ≤ 12 := by omega
          go_enter Try.func45, Try.ntmps45
          go_wp2_with (fail)
          refine (impl_ValidSpot_c ba.out _).mono ?_
          rintro e w1 ⟨rfl, hb⟩
          have BK := Aside0.mk (blk_below (blk_new w (.cells #[.int .i64 a, .int .i64 b] 50)) (below_step ( by repeat (first | (with_reducible first | exact Below.refl _ _ | apply below_alloc | apply pw_below_drewN | apply below_drew1 | (refine below_step ?_ (by assumption))) | exact Below.refl _ _) ) hb))
          have HB := Aside0.mk (show Below w.heap.size w w1 from below_step (by repeat (first | (with_reducible first | exact HB.out | apply below_alloc | apply pw_below_drewN | apply below_drew1) | exact HB.out)) hb)
          clear hb
          go_wp2_with (fail)
          refine (impl_areSpots_c _ (Kd.C_below hr.out (by repeat (first | (with_reducible first | exact HB.out | apply below_alloc | apply pw_below_drewN | apply below_drew1) | exact HB.out))) bl.out).mono ?_
          rintro e w2 ⟨rfl, hb⟩
          have BK := Aside0.mk (blk_below BK.out (below_step ( by repeat (first | (with_reducible first | exact Below.refl _ _ | apply below_alloc | apply pw_below_drewN | apply below_drew1 | (refine below_step ?_ (by assumption))) | exact Below.refl _ _) ) hb))
          have HB := Aside0.mk (show Below w.heap.size w w2 from below_step (by repeat (first | (with_reducible first | exact HB.out | apply below_alloc | apply pw_below_drewN | apply below_drew1) | exact HB.out)) hb)
          clear hb
          go_wp2_with (fail)
          refine (impl_within_d _ bm.out).mono ?_
          rintro e w' ⟨rfl, ⟨nd, rfl⟩⟩
          go_wp2_with (fail)
          refine (impl_check_f _).mono ?_
          rintro e w' ⟨rfl, ⟨nd, rfl⟩⟩
          go_wp2
          go_ret2
          exact ⟨_, by rw [f.out]; rfl, by rw [f.out]; exact Kd.R_nil .., by repeat (first | (with_reducible first | exact HB.out | apply below_alloc | apply pw_below_drewN | apply below_drew1) | exact HB.out)⟩
        · have nq : ¬ (n : Int) ≤ 12 := by omega
          go_enter Try.func45, Try.ntmps45
          go_wp2_with (fail)
          refine (impl_ValidSpot_c ba.out _).mono ?_
          rintro e w1 ⟨rfl, hb⟩
          have BK := Aside0.mk (blk_below (blk_new w (.cells #[.int .i64 a, .int .i64 b] 50)) (below_step ( by repeat (first | (with_reducible first | exact Below.refl _ _ | apply below_alloc | apply pw_below_drewN | apply below_drew1 | (refine below_step ?_ (by assumption))) | exact Below.refl _ _) ) hb))
          have HB := Aside0.mk (show Below w.heap.size w w1 from below_step (by repeat (first | (with_reducible first | exact HB.out | apply below_alloc | apply pw_below_drewN | apply below_drew1) | exact HB.out)) hb)
          clear hb
          go_wp2_with (fail)
          refine (impl_areSpots_c _ (Kd.C_below hr.out (by repeat (first | (with_reducible first | exact HB.out | apply below_alloc | apply pw_below_drewN | apply below_drew1) | exact HB.out))) bl.out).mono ?_
          rintro e w2 ⟨rfl, hb⟩
          have BK := Aside0.mk (blk_below BK.out (below_step ( by repeat (first | (with_reducible first | exact Below.refl _ _ | apply below_alloc | apply pw_below_drewN | apply below_drew1 | (refine below_step ?_ (by assumption))) | exact Below.refl _ _) ) hb))
          have HB := Aside0.mk (show Below w.heap.size w w2 from below_step (by repeat (first | (with_reducible first | exact HB.out | apply below_alloc | apply pw_below_drewN | apply below_drew1) | exact HB.out)) hb)
          clear hb
          go_wp2_with (fail)
          refine (impl_check_f _).mono ?_
          rintro e w' ⟨rfl, ⟨nd, rfl⟩⟩
          go_wp2
          go_ret2
          exact ⟨_, by rw [f.out]; rfl, by rw [f.out]; exact Kd.R_nil .., by repeat (first | (with_reducible first | exact HB.out | apply below_alloc | apply pw_below_drewN | apply below_drew1) | exact HB.out)⟩
  · clear hl
    have f := Aside0.mk (show RSpotsWithin xs a b m = ([], 1) by unfold RSpotsWithin; rw [if_neg (fun e => ha e.1)])
    clear ha
    rcases dec (0 ≤ m ∧ m ≤ 648000) with ⟨hm, bm⟩ | ⟨hm, bm⟩
    all_goals
      clear hm
      by_cases h12 : n ≤ 12
      · have nq : (n : Int) ≤ 12 := by omega
        go_enter Try.func45, Try.ntmps45
        go_wp2_with (fail)
        refine (impl_ValidSpot_c ba.out _).mono ?_
        rintro e w1 ⟨rfl, hb⟩
        have BK := Aside0.mk (blk_below (blk_new w (.cells #[.int .i64 a, .int .i64 b] 50)) (below_step ( by repeat (first | (with_reducible first | exact Below.refl _ _ | apply below_alloc | apply pw_below_drewN | apply below_drew1 | (refine below_step ?_ (by assumption))) | exact Below.refl _ _) ) hb))
        have HB := Aside0.mk (show Below w.heap.size w w1 from below_step (by repeat (first | (with_reducible first | exact HB.out | apply below_alloc | apply pw_below_drewN | apply below_drew1) | exact HB.out)) hb)
        clear hb
        go_wp2_with (fail)
        refine (impl_within_d _ bm.out).mono ?_
        rintro e w' ⟨rfl, ⟨nd, rfl⟩⟩
        go_wp2_with (fail)
        refine (impl_check_f _).mono ?_
        rintro e w' ⟨rfl, ⟨nd, rfl⟩⟩
        go_wp2
        go_ret2
        exact ⟨_, by rw [f.out]; rfl, by rw [f.out]; exact Kd.R_nil .., by repeat (first | (with_reducible first | exact HB.out | apply below_alloc | apply pw_below_drewN | apply below_drew1) | exact HB.out)⟩
      · have nq : ¬ (n : Int) ≤ 12 := by omega
        go_enter Try.func45, Try.ntmps45
        go_wp2_with (fail)
        refine (impl_ValidSpot_c ba.out _).mono ?_
        rintro e w1 ⟨rfl, hb⟩
        have BK := Aside0.mk (blk_below (blk_new w (.cells #[.int .i64 a, .int .i64 b] 50)) (below_step ( by repeat (first | (with_reducible first | exact Below.refl _ _ | apply below_alloc | apply pw_below_drewN | apply below_drew1 | (refine below_step ?_ (by assumption))) | exact Below.refl _ _) ) hb))
        have HB := Aside0.mk (show Below w.heap.size w w1 from below_step (by repeat (first | (with_reducible first | exact HB.out | apply below_alloc | apply pw_below_drewN | apply below_drew1) | exact HB.out)) hb)
        clear hb
        go_wp2_with (fail)
        refine (impl_check_f _).mono ?_
        rintro e w' ⟨rfl, ⟨nd, rfl⟩⟩
        go_wp2
        go_ret2
        exact ⟨_, by rw [f.out]; rfl, by rw [f.out]; exact Kd.R_nil .., by repeat (first | (with_reducible first | exact HB.out | apply below_alloc | apply pw_below_drewN | apply below_drew1) | exact HB.out)⟩
set_option maxHeartbeats 4000000 in
set_option maxRecDepth 100000 in
theorem spec_SpotsWithin_l {A : Option Addr} {n c : Nat} {xs : List Sp} {a b m : Int} (w : World) (hr : Kd.C kSp w A n xs) : Calls Try.prog 44 #[.slice A n c, .agg #[.int .i64 a, .int .i64 b], .int .i64 m] w fun e w' => ∃ v0_ : Value, e = .returned (.tuple #[v0_, .int .i64 (RSpotsWithin xs a b m).2]) ∧ Kd.R (Kd.int .i64) 2 w' w.heap.size (fun _ => True) v0_ (RSpotsWithin xs a b m).1 ∧ Below w.heap.size w w' := by
  have hl := hr.1
  have hr := Aside0.mk hr
  have HB := Aside0.mk (below_alloc (Below.refl w.heap.size w) (.cells #[.int .i64 a, .int .i64 b] 50 (0, 0)))
  by_cases h : sOk a b ∧ okL xs ∧ n ≤ 12
  · obtain ⟨ha, hx, h12⟩ := h
    have hk := Aside0.mk (show (if sOk a b then codL xs 0 12 else 1) = 0 by rw [if_pos ha]; unfold codL; rw [if_pos hx, if_pos (by omega), if_neg (by omega)])
    rcases dec (0 ≤ m ∧ m ≤ 648000) with ⟨hm, bm⟩ | ⟨hm, bm⟩
    · have f := Aside0.mk (show RSpotsWithin xs a b m = (idxF (fun i => dist (rdS xs i).f0 (rdS xs i).f1 a b ≤ m) n, 0) by unfold RSpotsWithin; rw [if_pos ⟨ha, hx⟩, if_pos ⟨by omega, hm⟩, hl])
      have hq := Aside0.mk ((okL_iff xs).1 hx)
      have ha := Aside0.mk ha
      have hl := Aside0.mk hl
      have nq : (n : Int) ≤ 12 := by omega
      clear hx
      go_enter Try.func44, Try.ntmps44
      go_wp2_with (fail)
      refine (spec_l05With_c _ (Kd.C_below hr.out (by repeat (first | (with_reducible first | exact HB.out | apply below_alloc | apply pw_below_drewN | apply below_drew1) | exact HB.out))) (r := 0) (by first | exact hk.out)).mono ?_
      rintro e w1 ⟨rfl, hb⟩
      have BK := Aside0.mk (blk_below (blk_new w (.cells #[.int .i64 a, .int .i64 b] 50)) (below_step ( by repeat (first | (with_reducible first | exact Below.refl _ _ | apply below_alloc | apply pw_below_drewN | apply below_drew1 | (refine below_step ?_ (by assumption))) | exact Below.refl _ _) ) hb))
      have HB := Aside0.mk (show Below w.heap.size w w1 from below_step (by repeat (first | (with_reducible first | exact HB.out | apply below_alloc | apply pw_below_drewN | apply below_drew1) | exact HB.out)) hb)
      clear hb
      go_wp2_with (fail)
      refine (spec_l00In_d _ bm.out).mono ?_
      rintro e V ⟨rfl, hb⟩
      have hb := hb.below
      have BK := Aside0.mk (blk_below BK.out (below_step ( by repeat (first | (with_reducible first | exact Below.refl _ _ | apply below_alloc | apply pw_below_drewN | apply below_drew1 | (refine below_step ?_ (by assumption))) | exact Below.refl _ _) ) hb))
      have HB := Aside0.mk (show Below w.heap.size w V from below_step (by repeat (first | (with_reducible first | exact HB.out | apply below_alloc | apply pw_below_drewN | apply below_drew1) | exact HB.out)) hb)
      clear hb
      have HV := HB
      have k0 := (blk_cell BK.out 0).trans (by rfl : _ = some (Value.int .i64 a))
      have k1 := (blk_cell BK.out 1).trans (by rfl : _ = some (Value.int .i64 b))
      have gV := blk_lt BK.out
      have hrV := Aside0.mk (Kd.C_below hr.out HV.out)
      clear HB
      go_wp2_with (first | ((with_reducible refine gate_dst (N := 6) rfl ?_); refine Kd.R_lit (Kd.int .i64) _ 2 ?hg (N := 6) ?hd (xs := ([] : List Int)) (inner := []) (ok := fun _ => True) (okp := fun _ => True) ?hr ?hp (fun _ hk => hk) trivial (Below.refl _ _) (Nat.le_refl _) (by simp) ?_; (case hd => rfl); (case hg => rfl); (case hr => first | (go_simp; done) | (go_simp; rfl)); (case hp => exact (Reps.none _ _)); intro v0 w5 ho hb hg_ hnew_; clear hg_ hnew_) | ((with_reducible refine gate_dst (N := 7) rfl ?_); refine Kd.R_lit (Kd.int .i64) _ 2 ?hg (N := 7) ?hd (xs := ([] : List Int)) (inner := []) (ok := fun _ => True) (okp := fun _ => True) ?hr ?hp (fun _ hk => hk) trivial (Below.refl _ _) (Nat.le_refl _) (by simp) ?_; (case hd => rfl); (case hg => rfl); (case hr => first | (go_simp; done) | (go_simp; rfl)); (case hp => exact (Reps.none _ _)); intro v0 w5 ho hb hg_ hnew_; clear hg_ hnew_) | ((with_reducible refine gate_dst (N := 8) rfl ?_); refine Kd.R_lit (Kd.int .i64) _ 2 ?hg (N := 8) ?hd (xs := ([] : List Int)) (inner := []) (ok := fun _ => True) (okp := fun _ => True) ?hr ?hp (fun _ hk => hk) trivial (Below.refl _ _) (Nat.le_refl _) (by simp) ?_; (case hd => rfl); (case hg => rfl); (case hr => first | (go_simp; done) | (go_simp; rfl)); (case hp => exact (Reps.none _ _)); intro v0 w5 ho hb hg_ hnew_; clear hg_ hnew_) | ((with_reducible refine gate_dst (N := 9) rfl ?_); refine Kd.R_lit (Kd.int .i64) _ 2 ?hg (N := 9) ?hd (xs := ([] : List Int)) (inner := []) (ok := fun _ => True) (okp := fun _ => True) ?hr ?hp (fun _ hk => hk) trivial (Below.refl _ _) (Nat.le_refl _) (by simp) ?_; (case hd => rfl); (case hg => rfl); (case hr => first | (go_simp; done) | (go_simp; rfl)); (case hp => exact (Reps.none _ _)); intro v0 w5 ho hb hg_ hnew_; clear hg_ hnew_) | ((with_reducible refine gate_dst (N := 10) rfl ?_); refine Kd.R_lit (Kd.int .i64) _ 2 ?hg (N := 10) ?hd (xs := ([] : List Int)) (inner := []) (ok := fun _ => True) (okp := fun _ => True) ?hr ?hp (fun _ hk => hk) trivial (Below.refl _ _) (Nat.le_refl _) (by simp) ?_; (case hd => rfl); (case hg => rfl); (case hr => first | (go_simp; done) | (go_simp; rfl)); (case hp => exact (Reps.none _ _)); intro v0 w5 ho hb hg_ hnew_; clear hg_ hnew_) | ((with_reducible refine gate_dst (N := 11) rfl ?_); refine Kd.R_lit (Kd.int .i64) _ 2 ?hg (N := 11) ?hd (xs := ([] : List Int)) (inner := []) (ok := fun _ => True) (okp := fun _ => True) ?hr ?hp (fun _ hk => hk) trivial (Below.refl _ _) (Nat.le_refl _) (by simp) ?_; (case hd => rfl); (case hg => rfl); (case hr => first | (go_simp; done) | (go_simp; rfl)); (case hp => exact (Reps.none _ _)); intro v0 w5 ho hb hg_ hnew_; clear hg_ hnew_) | ((with_reducible refine gate_dst (N := 12) rfl ?_); refine Kd.R_lit (Kd.int .i64) _ 2 ?hg (N := 12) ?hd (xs := ([] : List Int)) (inner := []) (ok := fun _ => True) (okp := fun _ => True) ?hr ?hp (fun _ hk => hk) trivial (Below.refl _ _) (Nat.le_refl _) (by simp) ?_; (case hd => rfl); (case hg => rfl); (case hr => first | (go_simp; done) | (go_simp; rfl)); (case hp => exact (Reps.none _ _)); intro v0 w5 ho hb hg_ hnew_; clear hg_ hnew_) | ((with_reducible refine gate_dst (N := 13) rfl ?_); refine Kd.R_lit (Kd.int .i64) _ 2 ?hg (N := 13) ?hd (xs := ([] : List Int)) (inner := []) (ok := fun _ => True) (okp := fun _ => True) ?hr ?hp (fun _ hk => hk) trivial (Below.refl _ _) (Nat.le_refl _) (by simp) ?_; (case hd => rfl); (case hg => rfl); (case hr => first | (go_simp; done) | (go_simp; rfl)); (case hp => exact (Reps.none _ _)); intro v0 w5 ho hb hg_ hnew_; clear hg_ hnew_) | ((with_reducible refine gate_dst (N := 14) rfl ?_); refine Kd.R_lit (Kd.int .i64) _ 2 ?hg (N := 14) ?hd (xs := ([] : List Int)) (inner := []) (ok := fun _ => True) (okp := fun _ => True) ?hr ?hp (fun _ hk => hk) trivial (Below.refl _ _) (Nat.le_refl _) (by simp) ?_; (case hd => rfl); (case hg => rfl); (case hr => first | (go_simp; done) | (go_simp; rfl)); (case hp => exact (Reps.none _ _)); intro v0 w5 ho hb hg_ hnew_; clear hg_ hnew_) | ((with_reducible refine gate_dst (N := 15) rfl ?_); refine Kd.R_lit (Kd.int .i64) _ 2 ?hg (N := 15) ?hd (xs := ([] : List Int)) (inner := []) (ok := fun _ => True) (okp := fun _ => True) ?hr ?hp (fun _ hk => hk) trivial (Below.refl _ _) (Nat.le_refl _) (by simp) ?_; (case hd => rfl); (case hg => rfl); (case hr => first | (go_simp; done) | (go_simp; rfl)); (case hp => exact (Reps.none _ _)); intro v0 w5 ho hb hg_ hnew_; clear hg_ hnew_) | ((with_reducible refine gate_dst (N := 16) rfl ?_); refine Kd.R_lit (Kd.int .i64) _ 2 ?hg (N := 16) ?hd (xs := ([] : List Int)) (inner := []) (ok := fun _ => True) (okp := fun _ => True) ?hr ?hp (fun _ hk => hk) trivial (Below.refl _ _) (Nat.le_refl _) (by simp) ?_; (case hd => rfl); (case hg => rfl); (case hr => first | (go_simp; done) | (go_simp; rfl)); (case hp => exact (Reps.none _ _)); intro v0 w5 ho hb hg_ hnew_; clear hg_ hnew_) | ((with_reducible refine gate_dst (N := 17) rfl ?_); refine Kd.R_lit (Kd.int .i64) _ 2 ?hg (N := 17) ?hd (xs := ([] : List Int)) (inner := []) (ok := fun _ => True) (okp := fun _ => True) ?hr ?hp (fun _ hk => hk) trivial (Below.refl _ _) (Nat.le_refl _) (by simp) ?_; (case hd => rfl); (case hg => rfl); (case hr => first | (go_simp; done) | (go_simp; rfl)); (case hp => exact (Reps.none _ _)); intro v0 w5 ho hb hg_ hnew_; clear hg_ hnew_) | ((with_reducible refine gate_dst (N := 18) rfl ?_); refine Kd.R_lit (Kd.int .i64) _ 2 ?hg (N := 18) ?hd (xs := ([] : List Int)) (inner := []) (ok := fun _ => True) (okp := fun _ => True) ?hr ?hp (fun _ hk => hk) trivial (Below.refl _ _) (Nat.le_refl _) (by simp) ?_; (case hd => rfl); (case hg => rfl); (case hr => first | (go_simp; done) | (go_simp; rfl)); (case hp => exact (Reps.none _ _)); intro v0 w5 ho hb hg_ hnew_; clear hg_ hnew_) | ((with_reducible refine gate_dst (N := 19) rfl ?_); refine Kd.R_lit (Kd.int .i64) _ 2 ?hg (N := 19) ?hd (xs := ([] : List Int)) (inner := []) (ok := fun _ => True) (okp := fun _ => True) ?hr ?hp (fun _ hk => hk) trivial (Below.refl _ _) (Nat.le_refl _) (by simp) ?_; (case hd => rfl); (case hg => rfl); (case hr => first | (go_simp; done) | (go_simp; rfl)); (case hp => exact (Reps.none _ _)); intro v0 w5 ho hb hg_ hnew_; clear hg_ hnew_) | ((with_reducible refine gate_dst (N := 20) rfl ?_); refine Kd.R_lit (Kd.int .i64) _ 2 ?hg (N := 20) ?hd (xs := ([] : List Int)) (inner := []) (ok := fun _ => True) (okp := fun _ => True) ?hr ?hp (fun _ hk => hk) trivial (Below.refl _ _) (Nat.le_refl _) (by simp) ?_; (case hd => rfl); (case hg => rfl); (case hr => first | (go_simp; done) | (go_simp; rfl)); (case hp => exact (Reps.none _ _)); intro v0 w5 ho hb hg_ hnew_; clear hg_ hnew_) | ((with_reducible refine gate_dst (N := 21) rfl ?_); refine Kd.R_lit (Kd.int .i64) _ 2 ?hg (N := 21) ?hd (xs := ([] : List Int)) (inner := []) (ok := fun _ => True) (okp := fun _ => True) ?hr ?hp (fun _ hk => hk) trivial (Below.refl _ _) (Nat.le_refl _) (by simp) ?_; (case hd => rfl); (case hg => rfl); (case hr => first | (go_simp; done) | (go_simp; rfl)); (case hp => exact (Reps.none _ _)); intro v0 w5 ho hb hg_ hnew_; clear hg_ hnew_) | ((with_reducible refine gate_dst (N := 22) rfl ?_); refine Kd.R_lit (Kd.int .i64) _ 2 ?hg (N := 22) ?hd (xs := ([] : List Int)) (inner := []) (ok := fun _ => True) (okp := fun _ => True) ?hr ?hp (fun _ hk => hk) trivial (Below.refl _ _) (Nat.le_refl _) (by simp) ?_; (case hd => rfl); (case hg => rfl); (case hr => first | (go_simp; done) | (go_simp; rfl)); (case hp => exact (Reps.none _ _)); intro v0 w5 ho hb hg_ hnew_; clear hg_ hnew_) | ((with_reducible refine gate_dst (N := 23) rfl ?_); refine Kd.R_lit (Kd.int .i64) _ 2 ?hg (N := 23) ?hd (xs := ([] : List Int)) (inner := []) (ok := fun _ => True) (okp := fun _ => True) ?hr ?hp (fun _ hk => hk) trivial (Below.refl _ _) (Nat.le_refl _) (by simp) ?_; (case hd => rfl); (case hg => rfl); (case hr => first | (go_simp; done) | (go_simp; rfl)); (case hp => exact (Reps.none _ _)); intro v0 w5 ho hb hg_ hnew_; clear hg_ hnew_) | ((with_reducible refine gate_dst (N := 24) rfl ?_); refine Kd.R_lit (Kd.int .i64) _ 2 ?hg (N := 24) ?hd (xs := ([] : List Int)) (inner := []) (ok := fun _ => True) (okp := fun _ => True) ?hr ?hp (fun _ hk => hk) trivial (Below.refl _ _) (Nat.le_refl _) (by simp) ?_; (case hd => rfl); (case hg => rfl); (case hr => first | (go_simp; done) | (go_simp; rfl)); (case hp => exact (Reps.none _ _)); intro v0 w5 ho hb hg_ hnew_; clear hg_ hnew_) | ((with_reducible refine gate_dst (N := 25) rfl ?_); refine Kd.R_lit (Kd.int .i64) _ 2 ?hg (N := 25) ?hd (xs := ([] : List Int)) (inner := []) (ok := fun _ => True) (okp := fun _ => True) ?hr ?hp (fun _ hk => hk) trivial (Below.refl _ _) (Nat.le_refl _) (by simp) ?_; (case hd => rfl); (case hg => rfl); (case hr => first | (go_simp; done) | (go_simp; rfl)); (case hp => exact (Reps.none _ _)); intro v0 w5 ho hb hg_ hnew_; clear hg_ hnew_) | ((with_reducible refine gate_dst (N := 26) rfl ?_); refine Kd.R_lit (Kd.int .i64) _ 2 ?hg (N := 26) ?hd (xs := ([] : List Int)) (inner := []) (ok := fun _ => True) (okp := fun _ => True) ?hr ?hp (fun _ hk => hk) trivial (Below.refl _ _) (Nat.le_refl _) (by simp) ?_; (case hd => rfl); (case hg => rfl); (case hr => first | (go_simp; done) | (go_simp; rfl)); (case hp => exact (Reps.none _ _)); intro v0 w5 ho hb hg_ hnew_; clear hg_ hnew_) | ((with_reducible refine gate_dst (N := 27) rfl ?_); refine Kd.R_lit (Kd.int .i64) _ 2 ?hg (N := 27) ?hd (xs := ([] : List Int)) (inner := []) (ok := fun _ => True) (okp := fun _ => True) ?hr ?hp (fun _ hk => hk) trivial (Below.refl _ _) (Nat.le_refl _) (by simp) ?_; (case hd => rfl); (case hg => rfl); (case hr => first | (go_simp; done) | (go_simp; rfl)); (case hp => exact (Reps.none _ _)); intro v0 w5 ho hb hg_ hnew_; clear hg_ hnew_) | ((with_reducible refine gate_dst (N := 28) rfl ?_); refine Kd.R_lit (Kd.int .i64) _ 2 ?hg (N := 28) ?hd (xs := ([] : List Int)) (inner := []) (ok := fun _ => True) (okp := fun _ => True) ?hr ?hp (fun _ hk => hk) trivial (Below.refl _ _) (Nat.le_refl _) (by simp) ?_; (case hd => rfl); (case hg => rfl); (case hr => first | (go_simp; done) | (go_simp; rfl)); (case hp => exact (Reps.none _ _)); intro v0 w5 ho hb hg_ hnew_; clear hg_ hnew_) | ((with_reducible refine gate_dst (N := 29) rfl ?_); refine Kd.R_lit (Kd.int .i64) _ 2 ?hg (N := 29) ?hd (xs := ([] : List Int)) (inner := []) (ok := fun _ => True) (okp := fun _ => True) ?hr ?hp (fun _ hk => hk) trivial (Below.refl _ _) (Nat.le_refl _) (by simp) ?_; (case hd => rfl); (case hg => rfl); (case hr => first | (go_simp; done) | (go_simp; rfl)); (case hp => exact (Reps.none _ _)); intro v0 w5 ho hb hg_ hnew_; clear hg_ hnew_))
      have HO := Aside0.mk (Kd.R_lower ho (below_size ( by repeat (first | (with_reducible first | exact Below.refl _ _ | apply below_alloc | apply pw_below_drewN | apply below_drew1 | (refine below_step ?_ (by assumption))) | exact Below.refl _ _) ) : V.heap.size ≤ _))
      have HB := Aside0.mk (show Below V.heap.size V w5 from below_step ( by repeat (first | (with_reducible first | exact Below.refl _ _ | apply below_alloc | apply pw_below_drewN | apply below_drew1 | (refine below_step ?_ (by assumption))) | exact Below.refl _ _) ) hb)
      clear ho hb
      go_loopw [9, 10] (fun u k wr => ∃ i : Nat, i ≤ n ∧ k = .int .i64 i ∧ Aside0 (Kd.R (Kd.int .i64) 2 wr V.heap.size (fun _ => True) u (idxF (fun i => dist (rdS xs i).f0 (rdS xs i).f1 a b ≤ m) i)) ∧ Aside0 (Below V.heap.size V wr)) (fun _ k _ => ((n : Int) - intOf k).toNat)
      case atStart => exact ⟨0, by omega, rfl, ⟨(by (with_reducible repeat (first | apply Kd.R_alloc | apply Kd.R_drewN | apply Kd.R_drew)); exact HO.out)⟩, ⟨by repeat (first | (with_reducible first | exact HB.out | apply below_alloc | apply pw_below_drewN | apply below_drew1) | exact HB.out)⟩⟩
      case round =>
        clear HO HB
        obtain ⟨i, hi, rfl, HO, HB⟩ := hrel
        by_cases hlt : i < n
        · have hz : (i : Int) < (n : Int) := by omega
          obtain ⟨ad, e1, x0, x1⟩ := PFnExactUnderCap.at_T50 (Kd.C_below hrV.out HB.out) (i : Int) (by omega) hz
          subst e1
          rw [Int.toNat_natCast] at x0 x1
          have s1 := Aside0.mk (hq.out i (by have := hl.out; omega))
          have ad_l := sp_lt (Kd.C_below hrV.out HB.out) (by omega)
          have q := HB.out.size
          have c0 := (HB.out.cell (p := ⟨w.heap.size, 0, none⟩) gV).trans k0
          have c1 := (HB.out.cell (p := ⟨w.heap.size, 1, none⟩) gV).trans k1
          have il := idxF_len (fun i => dist (rdS xs i).f0 (rdS xs i).f1 a b ≤ m) i
          have BA : Below wr.heap.size wr wr.drew := below_drew1 (Below.refl wr.heap.size wr)
          have i0 : wr.drew.cell? (ad.add (i * 2)) = some (.int .i64 ((rdS xs i).f0)) := cell_after BA (x0)
          have i1 : wr.drew.cell? (⟨(ad.add (i * 2)).block, (ad.add (i * 2)).off + 1, none⟩) = some (.int .i64 ((rdS xs i).f1)) := cell_after BA (x1)
          have i2 : wr.drew.cell? (⟨w.heap.size, 0, none⟩) = some (.int .i64 (a)) := cell_after BA (c0)
          have i3 : wr.drew.cell? (⟨w.heap.size, 1, none⟩) = some (.int .i64 (b)) := cell_after BA (c1)
          have LB : wr.heap.size ≤ wr.drew.heap.size := by first | (simp; done) | (simp; omega) | exact Nat.le_refl _
          go_wp2_with (fail)
          go_region_held3 (fun W => W.cell? (ad.add (i * 2)) = some (.int .i64 ((rdS xs i).f0)) ∧ W.cell? (⟨(ad.add (i * 2)).block, (ad.add (i * 2)).off + 1, none⟩) = some (.int .i64 ((rdS xs i).f1)) ∧ W.cell? (⟨w.heap.size, 0, none⟩) = some (.int .i64 (a)) ∧ W.cell? (⟨w.heap.size, 1, none⟩) = some (.int .i64 (b)) ∧ Below wr.heap.size wr W ∧ wr.heap.size ≤ W.heap.size) (first | ((try go_split_ands); refine ⟨?_, ?_, ?_, ?_, ?_, ?_⟩; (first | (with_reducible exact cell_after hb (by with_reducible assumption)) | (with_reducible exact cell_after hb i0) | (with_reducible exact i0) | exact cell_after hb i0 | go_keep); (first | (with_reducible exact cell_after hb (by with_reducible assumption)) | (with_reducible exact cell_after hb i1) | (with_reducible exact i1) | exact cell_after hb i1 | go_keep); (first | (with_reducible exact cell_after hb (by with_reducible assumption)) | (with_reducible exact cell_after hb i2) | (with_reducible exact i2) | exact cell_after hb i2 | go_keep); (first | (with_reducible exact cell_after hb (by with_reducible assumption)) | (with_reducible exact cell_after hb i3) | (with_reducible exact i3) | exact cell_after hb i3 | go_keep); (first | (with_reducible exact below_step (by with_reducible assumption) hb) | (with_reducible exact below_step BA hb) | (with_reducible exact BA) | exact below_step BA hb | go_keep); (first | (with_reducible exact LB) | (have := hb.size; omega) | (have := hb.size; simp at this; omega) | go_keep)) | go_keep) (first | (go_at_call 88; refine (spec_l05Distance_c s1.out ha.out _).mono ?_; rintro e w1 ⟨rfl, hb⟩))
          all_goals have hbb := Aside0.mk (show Below wr.heap.size wr _ by (go_split_ands; assumption))
          have HB := Aside0.mk (below_step HB.out hbb.out)
          have HO := Aside0.mk (Kd.R_below HO.out hbb.out)
          by_cases lt : dist (rdS xs i).f0 (rdS xs i).f1 a b ≤ m
          · go_wp2_with (first | (at_builtin; refine Kd.R_append (Kd.int .i64) (w0 := V) V.heap.size rfl _ _ 22 2 (.int .i64 0) 8 rfl Try.underlying22 linfo rfl (by decide) (by omega) u9 (idxF (fun i => dist (rdS xs i).f0 (rdS xs i).f1 a b ≤ m) i) ((i : Int)) [.int .i64 ((i : Int))] (fun _ => True) (fun _ => False) rfl rfl ?aP (fun _ hk => hk.elim) ?aF ?aO ?aB ?aS ?aL ?_; (case aP => exact rfl); (case aB => exact (by repeat (first | (with_reducible first | exact HB.out | apply below_alloc | apply pw_below_drewN | apply below_drew1) | exact HB.out))); (case aF => exact (fun _ _ => trivial)); (case aO => exact (by (with_reducible repeat (first | apply Kd.R_alloc | apply Kd.R_drewN | apply Kd.R_drew)); exact HO.out)); (case aS => exact (below_size (by repeat (first | (with_reducible first | exact HB.out | apply below_alloc | apply pw_below_drewN | apply below_drew1) | exact HB.out)))); (case aL => first | omega | (simp; omega)); intro v1 w9 ho hb hg hat))
            rw [← idxF_yes (p := (fun i => dist (rdS xs i).f0 (rdS xs i).f1 a b ≤ m)) lt] at ho
            go_roundw
            case rel => exact ⟨i + 1, by omega, by go_num, ⟨(by (with_reducible repeat (first | apply Kd.R_alloc | apply Kd.R_drewN | apply Kd.R_drew)); exact ho)⟩, ⟨by repeat (first | (with_reducible first | exact hb | apply below_alloc | apply pw_below_drewN | apply below_drew1) | exact hb)⟩⟩
            case measure => simp [intOf]; omega
          · go_wp2
            go_roundw
            case rel => exact ⟨i + 1, by omega, by go_num, ⟨by rw [idxF_no (p := (fun i => dist (rdS xs i).f0 (rdS xs i).f1 a b ≤ m)) (by show ¬ _ ≤ m; omega)]; exact (by (with_reducible repeat (first | apply Kd.R_alloc | apply Kd.R_drewN | apply Kd.R_drew)); exact HO.out)⟩, ⟨by repeat (first | (with_reducible first | exact HB.out | apply below_alloc | apply pw_below_drewN | apply below_drew1) | exact HB.out)⟩⟩
            case measure => simp [intOf]; omega
        · have e : i = n := by omega
          subst e
          have hz : ¬ (i : Int) < (i : Int) := by omega
          go_wp2
          go_ret2
          exact ⟨_, by rw [f.out]; rfl, by rw [f.out]; exact Kd.R_lower HO.out (by have := HV.out.size; omega), below_step HV.out HB.out⟩
    · have f := Aside0.mk (show RSpotsWithin xs a b m = ([], 2) by unfold RSpotsWithin; rw [if_pos ⟨ha, hx⟩, if_neg (fun e => hm e.2)])
      clear ha hx hm hl
      go_enter Try.func44, Try.ntmps44
      go_wp2_with (fail)
      refine (spec_l05With_c _ (Kd.C_below hr.out (by repeat (first | (with_reducible first | exact HB.out | apply below_alloc | apply pw_below_drewN | apply below_drew1) | exact HB.out))) (r := 0) (by first | exact hk.out)).mono ?_
      rintro e w1 ⟨rfl, hb⟩
      have BK := Aside0.mk (blk_below (blk_new w (.cells #[.int .i64 a, .int .i64 b] 50)) (below_step ( by repeat (first | (with_reducible first | exact Below.refl _ _ | apply below_alloc | apply pw_below_drewN | apply below_drew1 | (refine below_step ?_ (by assumption))) | exact Below.refl _ _) ) hb))
      have HB := Aside0.mk (show Below w.heap.size w w1 from below_step (by repeat (first | (with_reducible first | exact HB.out | apply below_alloc | apply pw_below_drewN | apply below_drew1) | exact HB.out)) hb)
      clear hb
      go_wp2_with (fail)
      refine (spec_l00In_d _ bm.out).mono ?_
      rintro e w' ⟨rfl, ⟨nd, rfl⟩⟩
      go_wp2
      go_ret2
      exact ⟨_, by rw [f.out]; rfl, by rw [f.out]; exact Kd.R_nil .., by repeat (first | (with_reducible first | exact HB.out | apply below_alloc | apply pw_below_drewN | apply below_drew1) | exact HB.out)⟩
  · obtain ⟨r, hR, hz, hc⟩ : ∃ r : Int, (if sOk a b then codL xs 0 12 else 1) = r ∧ (r == 0) = false ∧ RSpotsWithin xs a b m = ([], r) := by
      refine ⟨_, rfl, ?_⟩
      unfold RSpotsWithin codL
      by_cases ha : sOk a b
      · by_cases hx : okL xs
        · have h12 : ¬ n ≤ 12 := fun e => h ⟨ha, hx, e⟩
          rw [if_pos ha, if_pos hx, if_neg (show ¬ (xs.length : Int) ≤ 12 by omega), if_pos (And.intro ha hx), if_neg (fun e => h12 (by have := e.1; omega))]; exact ⟨rfl, rfl⟩
        · rw [if_pos ha, if_neg hx, if_neg (fun e => hx e.2)]; exact ⟨rfl, rfl⟩
      · rw [if_neg ha, if_neg (fun e => ha e.1)]; exact ⟨rfl, rfl⟩
    have f := Aside0.mk hc
    have hk := Aside0.mk hR
    clear hl h hR hc
    go_enter Try.func44, Try.ntmps44
    go_wp2_with (fail)
    refine (spec_l05With_c _ (Kd.C_below hr.out (by repeat (first | (with_reducible first | exact HB.out | apply below_alloc | apply pw_below_drewN | apply below_drew1) | exact HB.out))) (r := r) (by first | exact hk.out)).mono ?_
    rintro e w1 ⟨rfl, hb⟩
    have BK := Aside0.mk (blk_below (blk_new w (.cells #[.int .i64 a, .int .i64 b] 50)) (below_step ( by repeat (first | (with_reducible first | exact Below.refl _ _ | apply below_alloc | apply pw_below_drewN | apply below_drew1 | (refine below_step ?_ (by assumption))) | exact Below.refl _ _) ) hb))
    have HB := Aside0.mk (show Below w.heap.size w w1 from below_step (by repeat (first | (with_reducible first | exact HB.out | apply below_alloc | apply pw_below_drewN | apply below_drew1) | exact HB.out)) hb)
    clear hb
    go_wp2
    go_ret2
    exact ⟨_, by rw [f.out]; rfl, by rw [f.out]; exact Kd.R_nil .., by repeat (first | (with_reducible first | exact HB.out | apply below_alloc | apply pw_below_drewN | apply below_drew1) | exact HB.out)⟩
end Go.Proofs.Ytjmciajeimhigaa.Con
