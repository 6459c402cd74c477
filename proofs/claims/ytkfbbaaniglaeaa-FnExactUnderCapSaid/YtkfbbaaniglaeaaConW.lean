/- Places under a cap. Conditions: as stated. -/
import Derived.Test.YtkfbbaaniglaeaaConV
namespace Go.Proofs.Ytkfbbaaniglaeaa.Con
open Go.RowKit Go.Proofs.YtkfbbaaniglaeaaW.PrintWords Go.Proofs.YtkfbbaaniglaeaaW.PrintLast Go.Proofs.YtkfbbaaniglaeaaW.PrintMore Go.Proofs.Ytkfbbaaniglaeaa.Mth
attribute [local go_sem] max2_int min2_int max_two min_two max_three min_three
set_option linter.unusedVariables false
set_option linter.unusedSimpArgs false
open Go.Proofs.Ytkfbbaaniglaeaa.PFnExactRingsOf (laws_eqInt64S.calls laws_markInt64S.calls laws_heldInt64S.calls laws_eqInt64S.f laws_eqInt64S.l0 laws_markInt64S.f laws_markInt64S.l0 laws_heldInt64S.f laws_heldInt64S.l0)
theorem sep3n {α β : Type} {d : Kd α} {d' : Kd β} {e e' : Nat} {Wc W4 : World} {b b0 : Nat} {ok0 : Nat → Prop} {u v : Value} {xs : List α} {ys : List β} (H0 : d.R e Wc b0 ok0 u xs) (ho : d'.R e' W4 Wc.heap.size (fun _ => True) v ys) (hb : Below Wc.heap.size Wc W4) (hbase : b ≤ Wc.heap.size) : ∃ z, d.R e W4 b0 (fun k => k < z) u xs ∧ d'.R e' W4 b (fun k => z ≤ k ∧ k < W4.heap.size) v ys ∧ z ≤ W4.heap.size :=
  ⟨Wc.heap.size, Kd.R_mono (Kd.R_below (Kd.R_bound H0) hb) (fun k hk => hk.2.2.1), Kd.R_mono (Kd.R_bound (Kd.R_lower (Kd.R_mono (Kd.R_bound ho) (fun k hk => hk.2.1)) hbase)) (fun k hk => ⟨hk.1, hk.2.2.1⟩), hb.size⟩
set_option maxHeartbeats 4000000 in
set_option maxRecDepth 100000 in
theorem impl_UnderCap_l {A : Option Addr} {n c : Nat} {xs : List Sp} {g r : Int} (w : World) (hr : Kd.C kSp w A n xs) : Calls Try.prog 21 #[.int .i64 g, .int .i64 r, .slice A n c] w fun e w' => ∃ v0_ : Value, e = .returned (.tuple #[v0_, .int .i64 (RUnderCap g r xs).2]) ∧ Kd.R (Kd.int .i64) 2 w' w.heap.size (fun _ => True) v0_ (RUnderCap g r xs).1 ∧ Below w.heap.size w w' := by
  have hl := hr.1
  have hn0 := hr.2.1
  have hr := Aside0.mk hr
  have HB := Aside0.mk (Below.refl w.heap.size w)
  rcases dec (okL xs) with ⟨hx, bl⟩ | ⟨hx, bl⟩
  · by_cases h100 : n ≤ 100
    · have nq : (n : Int) ≤ 100 := by omega
      have ndc := Aside0.mk (decide_eq_true nq)
      have nb : decide (xs.length ≤ 100) = true := by rw [hl]; exact decide_eq_true h100
      by_cases hd : discB g r true = 0
      · obtain ⟨h1, h2, h3, _⟩ := discB_0 hd
        have f := Aside0.mk (show RUnderCap g r xs = (idxF (fun i => edge g r ≤ (rdS xs i).f0) n, 0) by unfold RUnderCap; rw [if_pos hx, nb, if_pos hd, hl])
        have hd := Aside0.mk hd
        clear hx
        go_enter Try.func21, Try.ntmps21
        go_wp2_with (fail)
        refine (impl_areSpots_c _ (Kd.C_below hr.out (by repeat (first | (with_reducible first | exact HB.out | apply below_alloc | apply pw_below_drewN | apply below_drew1) | exact HB.out))) bl.out).mono ?_
        rintro e w1 ⟨rfl, hb⟩
        have HB := Aside0.mk (show Below w.heap.size w w1 from below_step (by repeat (first | (with_reducible first | exact HB.out | apply below_alloc | apply pw_below_drewN | apply below_drew1) | exact HB.out)) hb)
        clear hb
        go_wp2_with (fail)
        try rw [ndc.out]
        refine (impl_discCode_c (ok := true) _ hd.out).mono ?_
        rintro e V ⟨rfl, hb⟩
        have hb := hb.below
        have HB := Aside0.mk (show Below w.heap.size w V from below_step (by repeat (first | (with_reducible first | exact HB.out | apply below_alloc | apply pw_below_drewN | apply below_drew1) | exact HB.out)) hb)
        clear hb
        have HV := HB
        have hrV := Aside0.mk (Kd.C_below hr.out HV.out)
        clear HB
        go_wp2_with (first | ((with_reducible refine gate_dst (N := 24) rfl ?_); refine Kd.R_lit (Kd.int .i64) _ 2 ?hg (N := 24) ?hd (xs := ([] : List Int)) (inner := []) (ok := fun _ => True) (okp := fun _ => True) ?hr ?hp (fun _ hk => hk) trivial (Below.refl _ _) (Nat.le_refl _) (by simp) ?_; (case hd => rfl); (case hg => rfl); (case hr => first | (go_simp; done) | (go_simp; rfl)); (case hp => exact (Reps.none _ _)); intro v0 w5 ho hb hg_ hnew_; clear hg_ hnew_))
        have HO := Aside0.mk (Kd.R_lower ho (below_size ( by repeat (first | (with_reducible first | exact Below.refl _ _ | apply below_alloc | apply pw_below_drewN | apply below_drew1 | (refine below_step ?_ (by assumption))) | exact Below.refl _ _) ) : V.heap.size ≤ _))
        have HB := Aside0.mk (show Below V.heap.size V w5 from below_step ( by repeat (first | (with_reducible first | exact Below.refl _ _ | apply below_alloc | apply pw_below_drewN | apply below_drew1 | (refine below_step ?_ (by assumption))) | exact Below.refl _ _) ) hb)
        clear ho hb
        go_loopw [9, 27] (fun u k wr => ∃ i : Nat, i ≤ n ∧ k = .int .i64 i ∧ Aside0 (Kd.R (Kd.int .i64) 2 wr V.heap.size (fun _ => True) u (idxF (fun i => edge g r ≤ (rdS xs i).f0) i)) ∧ Aside0 (Below V.heap.size V wr)) (fun _ k _ => ((n : Int) - intOf k).toNat)
        case atStart => exact ⟨0, by omega, rfl, ⟨(by (with_reducible repeat (first | apply Kd.R_alloc | apply Kd.R_drewN | apply Kd.R_drew)); exact HO.out)⟩, ⟨by repeat (first | (with_reducible first | exact HB.out | apply below_alloc | apply pw_below_drewN | apply below_drew1) | exact HB.out)⟩⟩
        case round =>
          clear HO HB
          obtain ⟨i, hi, rfl, HO, HB⟩ := hrel
          by_cases hlt : i < n
          · have hz : (i : Int) < (n : Int) := by omega
            obtain ⟨ad, e1, x0, x1⟩ := PFnExactUnderCap.at_T52 (Kd.C_below hrV.out HB.out) (i : Int) (by omega) hz
            subst e1
            rw [Int.toNat_natCast] at x0 x1
            have ad_l := sp_lt (Kd.C_below hrV.out HB.out) (by omega)
            have q := HB.out.size
            have il := idxF_len (fun i => edge g r ≤ (rdS xs i).f0) i
            skip
            have BA : Below wr.heap.size wr (wr.alloc (.cells #[.int .i64 (rdS xs i).f0, .int .i64 (rdS xs i).f1] 52)).drew := below_drew1 (below_alloc (Below.refl wr.heap.size wr) _)
            have i0 : (wr.alloc (.cells #[.int .i64 (rdS xs i).f0, .int .i64 (rdS xs i).f1] 52)).drew.cell? (⟨wr.heap.size, 0, none⟩) = some (.int .i64 ((rdS xs i).f0)) := (blk_cell (blk_new wr (.cells #[.int .i64 ((rdS xs i).f0), .int .i64 ((rdS xs i).f1)] 52)) 0).trans (by rfl)
            have LB : wr.heap.size + 1 ≤ (wr.alloc (.cells #[.int .i64 (rdS xs i).f0, .int .i64 (rdS xs i).f1] 52)).drew.heap.size := by first | (simp; done) | (simp; omega) | exact Nat.le_refl _
            go_wp2_with (fail)
            go_region_held3 (fun W => W.cell? (⟨wr.heap.size, 0, none⟩) = some (.int .i64 ((rdS xs i).f0)) ∧ Below wr.heap.size wr W ∧ wr.heap.size + 1 ≤ W.heap.size) (first | ((try go_split_ands); refine ⟨?_, ?_, ?_⟩; (first | (with_reducible exact cell_after hb (by with_reducible assumption)) | (with_reducible exact cell_after hb i0) | (with_reducible exact i0) | exact cell_after hb i0 | go_keep); (first | (with_reducible exact below_step (by with_reducible assumption) hb) | (with_reducible exact below_step BA hb) | (with_reducible exact BA) | exact below_step BA hb | go_keep); (first | (with_reducible exact LB) | (have := hb.size; omega) | (have := hb.size; simp at this; omega) | go_keep)) | go_keep) (first | (go_at_call 112; refine (impl_capEdge_c _ h1 h2 h3).mono ?_; rintro e w1 ⟨rfl, hd⟩; have hb := hd.below))
            all_goals have hbb := Aside0.mk (show Below wr.heap.size wr _ by (go_split_ands; assumption))
            have HB := Aside0.mk (below_step HB.out hbb.out)
            have HO := Aside0.mk (Kd.R_below HO.out hbb.out)
            by_cases lt : edge g r ≤ (rdS xs i).f0
            · go_wp2_with (first | (at_builtin; refine Kd.R_append (Kd.int .i64) (w0 := V) V.heap.size rfl _ _ 22 2 (.int .i64 0) 8 rfl Try.underlying22 linfo rfl (by decide) (by omega) u9 (idxF (fun i => edge g r ≤ (rdS xs i).f0) i) ((i : Int)) [.int .i64 ((i : Int))] (fun _ => True) (fun _ => False) rfl rfl ?aP (fun _ hk => hk.elim) ?aF ?aO ?aB ?aS ?aL ?_; (case aP => exact rfl); (case aB => exact (by repeat (first | (with_reducible first | exact HB.out | apply below_alloc | apply pw_below_drewN | apply below_drew1) | exact HB.out))); (case aF => exact (fun _ _ => trivial)); (case aO => exact (by (with_reducible repeat (first | apply Kd.R_alloc | apply Kd.R_drewN | apply Kd.R_drew)); exact HO.out)); (case aS => exact (below_size (by repeat (first | (with_reducible first | exact HB.out | apply below_alloc | apply pw_below_drewN | apply below_drew1) | exact HB.out)))); (case aL => first | omega | (simp; omega)); intro v1 w9 ho hb hg hat))
              rw [← idxF_yes (p := (fun i => edge g r ≤ (rdS xs i).f0)) lt] at ho
              go_roundw
              case rel => exact ⟨i + 1, by omega, by go_num, ⟨(by (with_reducible repeat (first | apply Kd.R_alloc | apply Kd.R_drewN | apply Kd.R_drew)); exact ho)⟩, ⟨by repeat (first | (with_reducible first | exact hb | apply below_alloc | apply pw_below_drewN | apply below_drew1) | exact hb)⟩⟩
              case measure => simp [intOf]; omega
            · go_wp2
              go_roundw
              case rel => exact ⟨i + 1, by omega, by go_num, ⟨by rw [idxF_no (p := (fun i => edge g r ≤ (rdS xs i).f0)) (by show ¬ _ ≤ _; omega)]; exact (by (with_reducible repeat (first | apply Kd.R_alloc | apply Kd.R_drewN | apply Kd.R_drew)); exact HO.out)⟩, ⟨by repeat (first | (with_reducible first | exact HB.out | apply below_alloc | apply pw_below_drewN | apply below_drew1) | exact HB.out)⟩⟩
              case measure => simp [intOf]; omega
          · have e : i = n := by omega
            subst e
            have hz : ¬ (i : Int) < (i : Int) := by omega
            go_wp2
            go_ret2
            exact ⟨_, by rw [f.out]; rfl, by rw [f.out]; exact Kd.R_lower HO.out (by have := HV.out.size; omega), below_step HV.out HB.out⟩
      · have f := Aside0.mk (show RUnderCap g r xs = ([], discB g r true) by unfold RUnderCap; rw [if_pos hx, nb, if_neg hd])
        have hd0 : (discB g r true == 0) = false := by simp [hd]
        obtain ⟨cc, hk⟩ : ∃ cc, discB g r true = cc := ⟨_, rfl⟩
        rw [hk] at f hd hd0
        clear hd
        have hk := Aside0.mk hk
        clear hx
        go_enter Try.func21, Try.ntmps21
        go_wp2_with (fail)
        refine (impl_areSpots_c _ (Kd.C_below hr.out (by repeat (first | (with_reducible first | exact HB.out | apply below_alloc | apply pw_below_drewN | apply below_drew1) | exact HB.out))) bl.out).mono ?_
        rintro e w1 ⟨rfl, hb⟩
        have HB := Aside0.mk (show Below w.heap.size w w1 from below_step (by repeat (first | (with_reducible first | exact HB.out | apply below_alloc | apply pw_below_drewN | apply below_drew1) | exact HB.out)) hb)
        clear hb
        go_wp2_with (fail)
        try rw [ndc.out]
        refine (impl_discCode_c (ok := true) _ hk.out).mono ?_
        rintro e V ⟨rfl, hb⟩
        have hb := hb.below
        have HB := Aside0.mk (show Below w.heap.size w V from below_step (by repeat (first | (with_reducible first | exact HB.out | apply below_alloc | apply pw_below_drewN | apply below_drew1) | exact HB.out)) hb)
        clear hb
        go_wp2
        go_ret2
        exact ⟨_, by rw [f.out]; rfl, by rw [f.out]; exact Kd.R_nil .., by repeat (first | (with_reducible first | exact HB.out | apply below_alloc | apply pw_below_drewN | apply below_drew1) | exact HB.out)⟩
    · have nq : (100 : Int) < n := by omega
      have ndc := Aside0.mk (decide_eq_false (show ¬ (n : Int) ≤ 100 by omega))
      have nb : decide (xs.length ≤ 100) = false := by rw [hl]; exact decide_eq_false h100
      have hd : discB g r false = 2 := if_neg (fun e => by cases e.2.2)
      have f := Aside0.mk (show RUnderCap g r xs = ([], 2) by unfold RUnderCap; rw [if_pos hx, nb, hd]; rfl)
      have hd := Aside0.mk hd
      clear hx
      go_enter Try.func21, Try.ntmps21
      go_wp2_with (fail)
      refine (impl_areSpots_c _ (Kd.C_below hr.out (by repeat (first | (with_reducible first | exact HB.out | apply below_alloc | apply pw_below_drewN | apply below_drew1) | exact HB.out))) bl.out).mono ?_
      rintro e w1 ⟨rfl, hb⟩
      have HB := Aside0.mk (show Below w.heap.size w w1 from below_step (by repeat (first | (with_reducible first | exact HB.out | apply below_alloc | apply pw_below_drewN | apply below_drew1) | exact HB.out)) hb)
      clear hb
      go_wp2_with (fail)
      try rw [ndc.out]
      refine (impl_discCode_c (ok := false) _ hd.out).mono ?_
      rintro e V ⟨rfl, hb⟩
      have hb := hb.below
      have HB := Aside0.mk (show Below w.heap.size w V from below_step (by repeat (first | (with_reducible first | exact HB.out | apply below_alloc | apply pw_below_drewN | apply below_drew1) | exact HB.out)) hb)
      clear hb
      go_wp2
      go_ret2
      exact ⟨_, by rw [f.out]; rfl, by rw [f.out]; exact Kd.R_nil .., by repeat (first | (with_reducible first | exact HB.out | apply below_alloc | apply pw_below_drewN | apply below_drew1) | exact HB.out)⟩
  · have f := Aside0.mk (show RUnderCap g r xs = ([], 1) from if_neg hx)
    clear hx
    go_enter Try.func21, Try.ntmps21
    go_wp2_with (fail)
    refine (impl_areSpots_c _ (Kd.C_below hr.out (by repeat (first | (with_reducible first | exact HB.out | apply below_alloc | apply pw_below_drewN | apply below_drew1) | exact HB.out))) bl.out).mono ?_
    rintro e w1 ⟨rfl, hb⟩
    have HB := Aside0.mk (show Below w.heap.size w w1 from below_step (by repeat (first | (with_reducible first | exact HB.out | apply below_alloc | apply pw_below_drewN | apply below_drew1) | exact HB.out)) hb)
    clear hb
    go_wp2
    go_ret2
    exact ⟨_, by rw [f.out]; rfl, by rw [f.out]; exact Kd.R_nil .., by repeat (first | (with_reducible first | exact HB.out | apply below_alloc | apply pw_below_drewN | apply below_drew1) | exact HB.out)⟩
set_option maxHeartbeats 4000000 in
set_option maxRecDepth 100000 in
theorem spec_UnderCap_l {A : Option Addr} {n c : Nat} {xs : List Sp} {g r : Int} (w : World) (hr : Kd.C kSp w A n xs) : Calls Try.prog 19 #[.int .i64 g, .int .i64 r, .slice A n c] w fun e w' => ∃ v0_ : Value, e = .returned (.tuple #[v0_, .int .i64 (RUnderCap g r xs).2]) ∧ Kd.R (Kd.int .i64) 2 w' w.heap.size (fun _ => True) v0_ (RUnderCap g r xs).1 ∧ Below w.heap.size w w' := by
  have hl := hr.1
  have hn0 := hr.2.1
  have hr := Aside0.mk hr
  have HB := Aside0.mk (Below.refl w.heap.size w)
  have hl := Aside0.mk hl
  go_enter Try.func19, Try.ntmps19
  go_wp2_with (fail)
  go_loopw [8] (fun b wr => ∃ i : Nat, i ≤ n ∧ b = .int .i64 i ∧ Aside0 (∀ j : Nat, j < i → sOk (rdS xs j).f0 (rdS xs j).f1) ∧ Aside0 (Below w.heap.size w wr)) (fun b _ => ((n : Int) - intOf b).toNat)
  case atStart => exact ⟨0, by omega, rfl, ⟨fun j hj => absurd hj (Nat.not_lt_zero _)⟩, HB⟩
  case round =>
    clear HB
    obtain ⟨i, hi, rfl, HA, HB⟩ := hrel
    by_cases hlt : i < n
    · have hz : (i : Int) < (n : Int) := by omega
      obtain ⟨ad, e1, x0, x1⟩ := PFnExactUnderCap.at_T52 (Kd.C_below hr.out HB.out) (i : Int) (by omega) hz
      subst e1
      rw [Int.toNat_natCast] at x0 x1
      rcases dec (sOk (rdS xs i).f0 (rdS xs i).f1) with ⟨h, b⟩ | ⟨h, b⟩
      · have h := Aside0.mk h
        go_wp2_with (fail)
        refine (spec_l02Ok_c b.out _).mono ?_
        rintro e w' ⟨rfl, hb⟩
        have HB := Aside0.mk (show Below w.heap.size w w' from below_step (by repeat (first | (with_reducible first | exact HB.out | apply below_alloc | apply pw_below_drewN | apply below_drew1) | exact HB.out)) hb)
        clear hb
        go_wp2
        go_roundw
        case rel => exact ⟨i + 1, by omega, by go_num, ⟨fun j hj => by
            by_cases e : j = i
            · subst e; exact h.out
            · exact HA.out j (by omega)⟩, ⟨HB.out⟩⟩
        case measure => simp [intOf]; omega
      · have f := Aside0.mk (show RUnderCap g r xs = ([], 1) from if_neg (fun k => h ((okL_iff xs).1 k i (by have := hl.out; omega))))
        have h := Aside0.mk h
        go_wp2_with (fail)
        refine (spec_l02Ok_c b.out _).mono ?_
        rintro e w' ⟨rfl, hb⟩
        have HB := Aside0.mk (show Below w.heap.size w w' from below_step (by repeat (first | (with_reducible first | exact HB.out | apply below_alloc | apply pw_below_drewN | apply below_drew1) | exact HB.out)) hb)
        clear hb
        go_wp2
        go_ret2
        exact ⟨_, by rw [f.out]; rfl, by rw [f.out]; exact Kd.R_nil .., by repeat (first | (with_reducible first | exact HB.out | apply below_alloc | apply pw_below_drewN | apply below_drew1) | exact HB.out)⟩
    · have e : i = n := by omega
      subst e
      have hz : ¬ (i : Int) < (i : Int) := by omega
      have hx := (okL_iff xs).2 (by rw [hl.out]; exact HA.out)
      have hl := hl.out
      obtain ⟨n, hN⟩ : ∃ n, n = i := ⟨i, rfl⟩
      subst hN
      clear hi hlt hz
      by_cases h100 : n ≤ 100
      · have nq : (n : Int) ≤ 100 := by omega
        have ndc := Aside0.mk (decide_eq_true nq)
        have nb : decide (xs.length ≤ 100) = true := by rw [hl]; exact decide_eq_true h100
        by_cases hd : discB g r true = 0
        · obtain ⟨h1, h2, h3, _⟩ := discB_0 hd
          have f := Aside0.mk (show RUnderCap g r xs = (idxF (fun i => edge g r ≤ (rdS xs i).f0) n, 0) by unfold RUnderCap; rw [if_pos hx, nb, if_pos hd, hl])
          have hd := Aside0.mk hd
          go_wp2_with (fail)
          refine (spec_l06Radius_c _ hd.out).mono ?_
          rintro e V ⟨rfl, hb⟩
          have hb := hb.below
          have HB := Aside0.mk (show Below w.heap.size w V from below_step (by repeat (first | (with_reducible first | exact HB.out | apply below_alloc | apply pw_below_drewN | apply below_drew1) | exact HB.out)) hb)
          clear hb
          have HV := HB
          have hrV := Aside0.mk (Kd.C_below hr.out HV.out)
          have hl := Aside0.mk hl
          clear HB HA
          go_wp2_with (first | ((with_reducible refine gate_dst (N := 24) rfl ?_); refine Kd.R_lit (Kd.int .i64) _ 2 ?hg (N := 24) ?hd (xs := ([] : List Int)) (inner := []) (ok := fun _ => True) (okp := fun _ => True) ?hr ?hp (fun _ hk => hk) trivial (Below.refl _ _) (Nat.le_refl _) (by simp) ?_; (case hd => rfl); (case hg => rfl); (case hr => first | (go_simp; done) | (go_simp; rfl)); (case hp => exact (Reps.none _ _)); intro v0 w5 ho hb hg_ hnew_; clear hg_ hnew_) | ((with_reducible refine gate_dst (N := 25) rfl ?_); refine Kd.R_lit (Kd.int .i64) _ 2 ?hg (N := 25) ?hd (xs := ([] : List Int)) (inner := []) (ok := fun _ => True) (okp := fun _ => True) ?hr ?hp (fun _ hk => hk) trivial (Below.refl _ _) (Nat.le_refl _) (by simp) ?_; (case hd => rfl); (case hg => rfl); (case hr => first | (go_simp; done) | (go_simp; rfl)); (case hp => exact (Reps.none _ _)); intro v0 w5 ho hb hg_ hnew_; clear hg_ hnew_) | ((with_reducible refine gate_dst (N := 26) rfl ?_); refine Kd.R_lit (Kd.int .i64) _ 2 ?hg (N := 26) ?hd (xs := ([] : List Int)) (inner := []) (ok := fun _ => True) (okp := fun _ => True) ?hr ?hp (fun _ hk => hk) trivial (Below.refl _ _) (Nat.le_refl _) (by simp) ?_; (case hd => rfl); (case hg => rfl); (case hr => first | (go_simp; done) | (go_simp; rfl)); (case hp => exact (Reps.none _ _)); intro v0 w5 ho hb hg_ hnew_; clear hg_ hnew_) | ((with_reducible refine gate_dst (N := 27) rfl ?_); refine Kd.R_lit (Kd.int .i64) _ 2 ?hg (N := 27) ?hd (xs := ([] : List Int)) (inner := []) (ok := fun _ => True) (okp := fun _ => True) ?hr ?hp (fun _ hk => hk) trivial (Below.refl _ _) (Nat.le_refl _) (by simp) ?_; (case hd => rfl); (case hg => rfl); (case hr => first | (go_simp; done) | (go_simp; rfl)); (case hp => exact (Reps.none _ _)); intro v0 w5 ho hb hg_ hnew_; clear hg_ hnew_) | ((with_reducible refine gate_dst (N := 28) rfl ?_); refine Kd.R_lit (Kd.int .i64) _ 2 ?hg (N := 28) ?hd (xs := ([] : List Int)) (inner := []) (ok := fun _ => True) (okp := fun _ => True) ?hr ?hp (fun _ hk => hk) trivial (Below.refl _ _) (Nat.le_refl _) (by simp) ?_; (case hd => rfl); (case hg => rfl); (case hr => first | (go_simp; done) | (go_simp; rfl)); (case hp => exact (Reps.none _ _)); intro v0 w5 ho hb hg_ hnew_; clear hg_ hnew_) | ((with_reducible refine gate_dst (N := 29) rfl ?_); refine Kd.R_lit (Kd.int .i64) _ 2 ?hg (N := 29) ?hd (xs := ([] : List Int)) (inner := []) (ok := fun _ => True) (okp := fun _ => True) ?hr ?hp (fun _ hk => hk) trivial (Below.refl _ _) (Nat.le_refl _) (by simp) ?_; (case hd => rfl); (case hg => rfl); (case hr => first | (go_simp; done) | (go_simp; rfl)); (case hp => exact (Reps.none _ _)); intro v0 w5 ho hb hg_ hnew_; clear hg_ hnew_) | ((with_reducible refine gate_dst (N := 30) rfl ?_); refine Kd.R_lit (Kd.int .i64) _ 2 ?hg (N := 30) ?hd (xs := ([] : List Int)) (inner := []) (ok := fun _ => True) (okp := fun _ => True) ?hr ?hp (fun _ hk => hk) trivial (Below.refl _ _) (Nat.le_refl _) (by simp) ?_; (case hd => rfl); (case hg => rfl); (case hr => first | (go_simp; done) | (go_simp; rfl)); (case hp => exact (Reps.none _ _)); intro v0 w5 ho hb hg_ hnew_; clear hg_ hnew_) | ((with_reducible refine gate_dst (N := 31) rfl ?_); refine Kd.R_lit (Kd.int .i64) _ 2 ?hg (N := 31) ?hd (xs := ([] : List Int)) (inner := []) (ok := fun _ => True) (okp := fun _ => True) ?hr ?hp (fun _ hk => hk) trivial (Below.refl _ _) (Nat.le_refl _) (by simp) ?_; (case hd => rfl); (case hg => rfl); (case hr => first | (go_simp; done) | (go_simp; rfl)); (case hp => exact (Reps.none _ _)); intro v0 w5 ho hb hg_ hnew_; clear hg_ hnew_) | ((with_reducible refine gate_dst (N := 32) rfl ?_); refine Kd.R_lit (Kd.int .i64) _ 2 ?hg (N := 32) ?hd (xs := ([] : List Int)) (inner := []) (ok := fun _ => True) (okp := fun _ => True) ?hr ?hp (fun _ hk => hk) trivial (Below.refl _ _) (Nat.le_refl _) (by simp) ?_; (case hd => rfl); (case hg => rfl); (case hr => first | (go_simp; done) | (go_simp; rfl)); (case hp => exact (Reps.none _ _)); intro v0 w5 ho hb hg_ hnew_; clear hg_ hnew_) | ((with_reducible refine gate_dst (N := 33) rfl ?_); refine Kd.R_lit (Kd.int .i64) _ 2 ?hg (N := 33) ?hd (xs := ([] : List Int)) (inner := []) (ok := fun _ => True) (okp := fun _ => True) ?hr ?hp (fun _ hk => hk) trivial (Below.refl _ _) (Nat.le_refl _) (by simp) ?_; (case hd => rfl); (case hg => rfl); (case hr => first | (go_simp; done) | (go_simp; rfl)); (case hp => exact (Reps.none _ _)); intro v0 w5 ho hb hg_ hnew_; clear hg_ hnew_) | ((with_reducible refine gate_dst (N := 34) rfl ?_); refine Kd.R_lit (Kd.int .i64) _ 2 ?hg (N := 34) ?hd (xs := ([] : List Int)) (inner := []) (ok := fun _ => True) (okp := fun _ => True) ?hr ?hp (fun _ hk => hk) trivial (Below.refl _ _) (Nat.le_refl _) (by simp) ?_; (case hd => rfl); (case hg => rfl); (case hr => first | (go_simp; done) | (go_simp; rfl)); (case hp => exact (Reps.none _ _)); intro v0 w5 ho hb hg_ hnew_; clear hg_ hnew_) | ((with_reducible refine gate_dst (N := 35) rfl ?_); refine Kd.R_lit (Kd.int .i64) _ 2 ?hg (N := 35) ?hd (xs := ([] : List Int)) (inner := []) (ok := fun _ => True) (okp := fun _ => True) ?hr ?hp (fun _ hk => hk) trivial (Below.refl _ _) (Nat.le_refl _) (by simp) ?_; (case hd => rfl); (case hg => rfl); (case hr => first | (go_simp; done) | (go_simp; rfl)); (case hp => exact (Reps.none _ _)); intro v0 w5 ho hb hg_ hnew_; clear hg_ hnew_) | ((with_reducible refine gate_dst (N := 36) rfl ?_); refine Kd.R_lit (Kd.int .i64) _ 2 ?hg (N := 36) ?hd (xs := ([] : List Int)) (inner := []) (ok := fun _ => True) (okp := fun _ => True) ?hr ?hp (fun _ hk => hk) trivial (Below.refl _ _) (Nat.le_refl _) (by simp) ?_; (case hd => rfl); (case hg => rfl); (case hr => first | (go_simp; done) | (go_simp; rfl)); (case hp => exact (Reps.none _ _)); intro v0 w5 ho hb hg_ hnew_; clear hg_ hnew_) | ((with_reducible refine gate_dst (N := 37) rfl ?_); refine Kd.R_lit (Kd.int .i64) _ 2 ?hg (N := 37) ?hd (xs := ([] : List Int)) (inner := []) (ok := fun _ => True) (okp := fun _ => True) ?hr ?hp (fun _ hk => hk) trivial (Below.refl _ _) (Nat.le_refl _) (by simp) ?_; (case hd => rfl); (case hg => rfl); (case hr => first | (go_simp; done) | (go_simp; rfl)); (case hp => exact (Reps.none _ _)); intro v0 w5 ho hb hg_ hnew_; clear hg_ hnew_) | ((with_reducible refine gate_dst (N := 38) rfl ?_); refine Kd.R_lit (Kd.int .i64) _ 2 ?hg (N := 38) ?hd (xs := ([] : List Int)) (inner := []) (ok := fun _ => True) (okp := fun _ => True) ?hr ?hp (fun _ hk => hk) trivial (Below.refl _ _) (Nat.le_refl _) (by simp) ?_; (case hd => rfl); (case hg => rfl); (case hr => first | (go_simp; done) | (go_simp; rfl)); (case hp => exact (Reps.none _ _)); intro v0 w5 ho hb hg_ hnew_; clear hg_ hnew_) | ((with_reducible refine gate_dst (N := 39) rfl ?_); refine Kd.R_lit (Kd.int .i64) _ 2 ?hg (N := 39) ?hd (xs := ([] : List Int)) (inner := []) (ok := fun _ => True) (okp := fun _ => True) ?hr ?hp (fun _ hk => hk) trivial (Below.refl _ _) (Nat.le_refl _) (by simp) ?_; (case hd => rfl); (case hg => rfl); (case hr => first | (go_simp; done) | (go_simp; rfl)); (case hp => exact (Reps.none _ _)); intro v0 w5 ho hb hg_ hnew_; clear hg_ hnew_) | ((with_reducible refine gate_dst (N := 40) rfl ?_); refine Kd.R_lit (Kd.int .i64) _ 2 ?hg (N := 40) ?hd (xs := ([] : List Int)) (inner := []) (ok := fun _ => True) (okp := fun _ => True) ?hr ?hp (fun _ hk => hk) trivial (Below.refl _ _) (Nat.le_refl _) (by simp) ?_; (case hd => rfl); (case hg => rfl); (case hr => first | (go_simp; done) | (go_simp; rfl)); (case hp => exact (Reps.none _ _)); intro v0 w5 ho hb hg_ hnew_; clear hg_ hnew_) | ((with_reducible refine gate_dst (N := 41) rfl ?_); refine Kd.R_lit (Kd.int .i64) _ 2 ?hg (N := 41) ?hd (xs := ([] : List Int)) (inner := []) (ok := fun _ => True) (okp := fun _ => True) ?hr ?hp (fun _ hk => hk) trivial (Below.refl _ _) (Nat.le_refl _) (by simp) ?_; (case hd => rfl); (case hg => rfl); (case hr => first | (go_simp; done) | (go_simp; rfl)); (case hp => exact (Reps.none _ _)); intro v0 w5 ho hb hg_ hnew_; clear hg_ hnew_) | ((with_reducible refine gate_dst (N := 42) rfl ?_); refine Kd.R_lit (Kd.int .i64) _ 2 ?hg (N := 42) ?hd (xs := ([] : List Int)) (inner := []) (ok := fun _ => True) (okp := fun _ => True) ?hr ?hp (fun _ hk => hk) trivial (Below.refl _ _) (Nat.le_refl _) (by simp) ?_; (case hd => rfl); (case hg => rfl); (case hr => first | (go_simp; done) | (go_simp; rfl)); (case hp => exact (Reps.none _ _)); intro v0 w5 ho hb hg_ hnew_; clear hg_ hnew_) | ((with_reducible refine gate_dst (N := 43) rfl ?_); refine Kd.R_lit (Kd.int .i64) _ 2 ?hg (N := 43) ?hd (xs := ([] : List Int)) (inner := []) (ok := fun _ => True) (okp := fun _ => True) ?hr ?hp (fun _ hk => hk) trivial (Below.refl _ _) (Nat.le_refl _) (by simp) ?_; (case hd => rfl); (case hg => rfl); (case hr => first | (go_simp; done) | (go_simp; rfl)); (case hp => exact (Reps.none _ _)); intro v0 w5 ho hb hg_ hnew_; clear hg_ hnew_) | ((with_reducible refine gate_dst (N := 44) rfl ?_); refine Kd.R_lit (Kd.int .i64) _ 2 ?hg (N := 44) ?hd (xs := ([] : List Int)) (inner := []) (ok := fun _ => True) (okp := fun _ => True) ?hr ?hp (fun _ hk => hk) trivial (Below.refl _ _) (Nat.le_refl _) (by simp) ?_; (case hd => rfl); (case hg => rfl); (case hr => first | (go_simp; done) | (go_simp; rfl)); (case hp => exact (Reps.none _ _)); intro v0 w5 ho hb hg_ hnew_; clear hg_ hnew_) | ((with_reducible refine gate_dst (N := 45) rfl ?_); refine Kd.R_lit (Kd.int .i64) _ 2 ?hg (N := 45) ?hd (xs := ([] : List Int)) (inner := []) (ok := fun _ => True) (okp := fun _ => True) ?hr ?hp (fun _ hk => hk) trivial (Below.refl _ _) (Nat.le_refl _) (by simp) ?_; (case hd => rfl); (case hg => rfl); (case hr => first | (go_simp; done) | (go_simp; rfl)); (case hp => exact (Reps.none _ _)); intro v0 w5 ho hb hg_ hnew_; clear hg_ hnew_))
          have HO := Aside0.mk (Kd.R_lower ho (below_size ( by repeat (first | (with_reducible first | exact Below.refl _ _ | apply below_alloc | apply pw_below_drewN | apply below_drew1 | (refine below_step ?_ (by assumption))) | exact Below.refl _ _) ) : V.heap.size ≤ _))
          have HB := Aside0.mk (show Below V.heap.size V w5 from below_step ( by repeat (first | (with_reducible first | exact Below.refl _ _ | apply below_alloc | apply pw_below_drewN | apply below_drew1 | (refine below_step ?_ (by assumption))) | exact Below.refl _ _) ) hb)
          clear ho hb
          go_loopw [10, 11] (fun u k wr => ∃ i : Nat, i ≤ n ∧ k = .int .i64 i ∧ Aside0 (Kd.R (Kd.int .i64) 2 wr V.heap.size (fun _ => True) u (idxF (fun i => edge g r ≤ (rdS xs i).f0) i)) ∧ Aside0 (Below V.heap.size V wr)) (fun _ k _ => ((n : Int) - intOf k).toNat)
          case atStart => exact ⟨0, by omega, rfl, ⟨(by (with_reducible repeat (first | apply Kd.R_alloc | apply Kd.R_drewN | apply Kd.R_drew)); exact HO.out)⟩, ⟨by repeat (first | (with_reducible first | exact HB.out | apply below_alloc | apply pw_below_drewN | apply below_drew1) | exact HB.out)⟩⟩
          case round =>
            clear HO HB
            obtain ⟨i, hi, rfl, HO, HB⟩ := hrel
            by_cases hlt : i < n
            · have hz : (i : Int) < (n : Int) := by omega
              obtain ⟨ad, e1, x0, x1⟩ := PFnExactUnderCap.at_T52 (Kd.C_below hrV.out HB.out) (i : Int) (by omega) hz
              subst e1
              rw [Int.toNat_natCast] at x0 x1
              have ad_l := sp_lt (Kd.C_below hrV.out HB.out) (by omega)
              have q := HB.out.size
              have il := idxF_len (fun i => edge g r ≤ (rdS xs i).f0) i
              skip
              have BA : Below wr.heap.size wr wr.drew := below_drew1 (Below.refl wr.heap.size wr)
              have i0 : wr.drew.cell? (ad.add (i * 2)) = some (.int .i64 ((rdS xs i).f0)) := cell_after BA (x0)
              have LB : wr.heap.size ≤ wr.drew.heap.size := by first | (simp; done) | (simp; omega) | exact Nat.le_refl _
              go_wp2_with (fail)
              go_region_held3 (fun W => W.cell? (ad.add (i * 2)) = some (.int .i64 ((rdS xs i).f0)) ∧ Below wr.heap.size wr W ∧ wr.heap.size ≤ W.heap.size) (first | ((try go_split_ands); refine ⟨?_, ?_, ?_⟩; (first | (with_reducible exact cell_after hb (by with_reducible assumption)) | (with_reducible exact cell_after hb i0) | (with_reducible exact i0) | exact cell_after hb i0 | go_keep); (first | (with_reducible exact below_step (by with_reducible assumption) hb) | (with_reducible exact below_step BA hb) | (with_reducible exact BA) | exact below_step BA hb | go_keep); (first | (with_reducible exact LB) | (have := hb.size; omega) | (have := hb.size; simp at this; omega) | go_keep)) | go_keep) (first | (go_at_call 108; refine (spec_l06Edge_c _ h1 h2 h3).mono ?_; rintro e w1 ⟨rfl, hd⟩; have hb := hd.below))
              all_goals have hbb := Aside0.mk (show Below wr.heap.size wr _ by (go_split_ands; assumption))
              have HB := Aside0.mk (below_step HB.out hbb.out)
              have HO := Aside0.mk (Kd.R_below HO.out hbb.out)
              by_cases lt : edge g r ≤ (rdS xs i).f0
              · go_wp2_with (first | (at_builtin; refine Kd.R_append (Kd.int .i64) (w0 := V) V.heap.size rfl _ _ 22 2 (.int .i64 0) 8 rfl Try.underlying22 linfo rfl (by decide) (by omega) u10 (idxF (fun i => edge g r ≤ (rdS xs i).f0) i) ((i : Int)) [.int .i64 ((i : Int))] (fun _ => True) (fun _ => False) rfl rfl ?aP (fun _ hk => hk.elim) ?aF ?aO ?aB ?aS ?aL ?_; (case aP => exact rfl); (case aB => exact (by repeat (first | (with_reducible first | exact HB.out | apply below_alloc | apply pw_below_drewN | apply below_drew1) | exact HB.out))); (case aF => exact (fun _ _ => trivial)); (case aO => exact (by (with_reducible repeat (first | apply Kd.R_alloc | apply Kd.R_drewN | apply Kd.R_drew)); exact HO.out)); (case aS => exact (below_size (by repeat (first | (with_reducible first | exact HB.out | apply below_alloc | apply pw_below_drewN | apply below_drew1) | exact HB.out)))); (case aL => first | omega | (simp; omega)); intro v1 w9 ho hb hg hat))
                rw [← idxF_yes (p := (fun i => edge g r ≤ (rdS xs i).f0)) lt] at ho
                go_roundw
                case rel => exact ⟨i + 1, by omega, by go_num, ⟨(by (with_reducible repeat (first | apply Kd.R_alloc | apply Kd.R_drewN | apply Kd.R_drew)); exact ho)⟩, ⟨by repeat (first | (with_reducible first | exact hb | apply below_alloc | apply pw_below_drewN | apply below_drew1) | exact hb)⟩⟩
                case measure => simp [intOf]; omega
              · go_wp2
                go_roundw
                case rel => exact ⟨i + 1, by omega, by go_num, ⟨by rw [idxF_no (p := (fun i => edge g r ≤ (rdS xs i).f0)) (by show ¬ _ ≤ _; omega)]; exact (by (with_reducible repeat (first | apply Kd.R_alloc | apply Kd.R_drewN | apply Kd.R_drew)); exact HO.out)⟩, ⟨by repeat (first | (with_reducible first | exact HB.out | apply below_alloc | apply pw_below_drewN | apply below_drew1) | exact HB.out)⟩⟩
                case measure => simp [intOf]; omega
            · have e : i = n := by omega
              subst e
              have hz : ¬ (i : Int) < (i : Int) := by omega
              go_wp2
              go_ret2
              exact ⟨_, by rw [f.out]; rfl, by rw [f.out]; exact Kd.R_lower HO.out (by have := HV.out.size; omega), below_step HV.out HB.out⟩
        · have f := Aside0.mk (show RUnderCap g r xs = ([], discB g r true) by unfold RUnderCap; rw [if_pos hx, nb, if_neg hd])
          have hd0 : (discB g r true == 0) = false := by simp [hd]
          obtain ⟨cc, hk⟩ : ∃ cc, discB g r true = cc := ⟨_, rfl⟩
          rw [hk] at f hd hd0
          clear hd
          have hk := Aside0.mk hk
          by_cases h2 : cc = 2
          · subst h2
            go_wp2_with (fail)
            refine (spec_l06Radius_c _ hk.out).mono ?_
            rintro e V ⟨rfl, hb⟩
            have hb := hb.below
            have HB := Aside0.mk (show Below w.heap.size w V from below_step (by repeat (first | (with_reducible first | exact HB.out | apply below_alloc | apply pw_below_drewN | apply below_drew1) | exact HB.out)) hb)
            clear hb
            go_wp2
            go_ret2
            exact ⟨_, by rw [f.out]; rfl, by rw [f.out]; exact Kd.R_nil .., by repeat (first | (with_reducible first | exact HB.out | apply below_alloc | apply pw_below_drewN | apply below_drew1) | exact HB.out)⟩
          · have h3 : (cc == 2) = false := by simp [h2]
            go_wp2_with (fail)
            refine (spec_l06Radius_c _ hk.out).mono ?_
            rintro e V ⟨rfl, hb⟩
            have hb := hb.below
            have HB := Aside0.mk (show Below w.heap.size w V from below_step (by repeat (first | (with_reducible first | exact HB.out | apply below_alloc | apply pw_below_drewN | apply below_drew1) | exact HB.out)) hb)
            clear hb
            go_wp2
            go_ret2
            exact ⟨_, by rw [f.out]; rfl, by rw [f.out]; exact Kd.R_nil .., by repeat (first | (with_reducible first | exact HB.out | apply below_alloc | apply pw_below_drewN | apply below_drew1) | exact HB.out)⟩
      · have nq : (100 : Int) < n := by omega
        have ndc := Aside0.mk (decide_eq_false (show ¬ (n : Int) ≤ 100 by omega))
        have nb : decide (xs.length ≤ 100) = false := by rw [hl]; exact decide_eq_false h100
        have hd : discB g r false = 2 := if_neg (fun e => by cases e.2.2)
        have f := Aside0.mk (show RUnderCap g r xs = ([], 2) by unfold RUnderCap; rw [if_pos hx, nb, hd]; rfl)
        obtain ⟨cc, hk⟩ : ∃ cc, discB g r true = cc := ⟨_, rfl⟩
        clear hd
        have hk := Aside0.mk hk
        have hq2 : (100 : Int) < n := by omega
        by_cases h2 : cc = 2
        · subst h2
          go_wp2_with (fail)
          refine (spec_l06Radius_c _ hk.out).mono ?_
          rintro e V ⟨rfl, hb⟩
          have hb := hb.below
          have HB := Aside0.mk (show Below w.heap.size w V from below_step (by repeat (first | (with_reducible first | exact HB.out | apply below_alloc | apply pw_below_drewN | apply below_drew1) | exact HB.out)) hb)
          clear hb
          go_wp2
          go_ret2
          exact ⟨_, by rw [f.out]; rfl, by rw [f.out]; exact Kd.R_nil .., by repeat (first | (with_reducible first | exact HB.out | apply below_alloc | apply pw_below_drewN | apply below_drew1) | exact HB.out)⟩
        · have h3 : (cc == 2) = false := by simp [h2]
          go_wp2_with (fail)
          refine (spec_l06Radius_c _ hk.out).mono ?_
          rintro e V ⟨rfl, hb⟩
          have hb := hb.below
          have HB := Aside0.mk (show Below w.heap.size w V from below_step (by repeat (first | (with_reducible first | exact HB.out | apply below_alloc | apply pw_below_drewN | apply below_drew1) | exact HB.out)) hb)
          clear hb
          go_wp2
          go_ret2
          exact ⟨_, by rw [f.out]; rfl, by rw [f.out]; exact Kd.R_nil .., by repeat (first | (with_reducible first | exact HB.out | apply below_alloc | apply pw_below_drewN | apply below_drew1) | exact HB.out)⟩
set_option maxHeartbeats 4000000 in
set_option maxRecDepth 100000 in
theorem FnExactUnderCap_c {A : Option Addr} {n c : Nat} {xs : List Lp} (g r : Int) (w : World) (_ : (Lit.int .i64 g).wf = true) (_ : (Lit.int .i64 r).wf = true) (hr : Kd.C kLp w A n xs) (hc : n ≤ c)  : Calls Try.prog 4 #[.int .i64 g, .int .i64 r, .slice A n c] w fun e w' => e = .returned (.bool true) ∧ Below w.heap.size w w' := by
  have hn := hr.2.1
  have hl : (xs.map toS).length = n := by rw [List.length_map]; exact hr.1
  have hr := Aside0.mk hr
  by_cases h : (1048576 : Int) - n < 0
  · have f := Aside0.mk (show (if (1048576 : Int) - n < 0 then (-1 : Int) else 1048576 - n) = -1 from if_pos h)
    clear h
    go_enter Try.func4, Try.ntmps4
    go_wp2_with (fail)
    refine (szSpotS_c _ (Kd.C_below hr.out ( by repeat (first | (with_reducible first | exact Below.refl _ _ | apply below_alloc | apply pw_below_drewN | apply below_drew1 | (refine below_step ?_ (by assumption))) | exact Below.refl _ _) )) hc).mono ?_
    rintro e w' ⟨rfl, ⟨nd, rfl⟩⟩
    rw [f.out]
    go_wp2
    go_ret
    exact ⟨rfl, by repeat (first | (with_reducible first | exact Below.refl _ _ | apply below_alloc | apply pw_below_drewN | apply below_drew1 | (refine below_step ?_ (by assumption))) | exact Below.refl _ _)⟩
  · have f := Aside0.mk (show (if (1048576 : Int) - n < 0 then (-1 : Int) else 1048576 - n) = 1048576 - n from if_neg h)
    have hm : n ≤ 1048576 := by omega
    obtain ⟨zs, hZ⟩ := markSpotS_ok (xs.map toS) (by omega)
    obtain ⟨⟨L, cd⟩, hR⟩ : ∃ v, RUnderCap g r (xs.map toS) = v := ⟨_, rfl⟩
    have hlen : L.length ≤ 100 := by have := RUnderCap_len g r (xs.map toS); rw [hR] at this; exact this
    have hs : ∀ (W : World) (A : Option Addr) (c : Nat), Kd.C kSp W A n (xs.map toS) → Calls Try.prog 19 #[.int .i64 g, .int .i64 r, .slice A n c] W fun e w' => ∃ v0_ : Value, e = .returned (.tuple #[v0_, .int .i64 cd]) ∧ Kd.R (Kd.int .i64) 2 w' W.heap.size (fun _ => True) v0_ L ∧ Below W.heap.size W w' := fun W A c h => by
      have := spec_UnderCap_l (c := c) (g := g) (r := r) W h
      rw [hR] at this
      exact this
    have hi : ∀ (W : World) (A : Option Addr) (c : Nat), Kd.C kSp W A n (xs.map toS) → Calls Try.prog 21 #[.int .i64 g, .int .i64 r, .slice A n c] W fun e w' => ∃ v0_ : Value, e = .returned (.tuple #[v0_, .int .i64 cd]) ∧ Kd.R (Kd.int .i64) 2 w' W.heap.size (fun _ => True) v0_ L ∧ Below W.heap.size W w' := fun W A c h => by
      have := impl_UnderCap_l (c := c) (g := g) (r := r) W h
      rw [hR] at this
      exact this
    obtain ⟨l', hmk, hl', hj⟩ := laws_markInt64S_ok (k := 1000000) L (by omega) (by omega)
    have AE := Aside0.mk (laws_eqInt64S_rfl (k := 1000000) L (by omega) (by omega))
    have AM := Aside0.mk hmk
    have AH := Aside0.mk (laws_heldInt64S_ok (k := 1000000) l' (by omega) (by omega) (by rw [hl']; exact hj))
    have AZ := Aside0.mk hZ
    have HL := Aside0.mk hl'
    have hs := Aside0.mk hs
    have hi := Aside0.mk hi
    have hl := Aside0.mk hl
    clear hmk hl' hj hZ hR
    have e0 : ((L.length : Int) + 1 == (L.length : Int) + 1) = true := by simp
    have HB := Aside0.mk (Below.refl w.heap.size w)
    go_enter Try.func4, Try.ntmps4
    go_wp2_with (fail)
    refine (szSpotS_c _ (Kd.C_below hr.out (by repeat (first | (with_reducible first | exact HB.out | apply below_alloc | apply pw_below_drewN | apply below_drew1) | exact HB.out))) hc).mono ?_
    rintro e w' ⟨rfl, hb⟩
    have hb := hb.below
    rw [f.out]
    have HB := Aside0.mk (show Below w.heap.size w w' from below_step (by repeat (first | (with_reducible first | exact HB.out | apply below_alloc | apply pw_below_drewN | apply below_drew1) | exact HB.out)) hb)
    clear hb
    go_wp2_with (fail)
    refine (toSpotS_c _ (Kd.C_below hr.out (by repeat (first | (with_reducible first | exact HB.out | apply below_alloc | apply pw_below_drewN | apply below_drew1) | exact HB.out))) hc hm).mono ?_
    rintro e W1 ⟨v1, rfl, ho, hb⟩
    have HO1 := Aside0.mk ho
    clear ho
    have HB := Aside0.mk (show Below w.heap.size w W1 from below_step (by repeat (first | (with_reducible first | exact HB.out | apply below_alloc | apply pw_below_drewN | apply below_drew1) | exact HB.out)) hb)
    clear hb
    obtain ⟨A1, c1, e1⟩ := Kd.R_slice HO1.out
    rw [hl.out] at e1
    subst e1
    go_wp2_with (fail)
    refine (hs.out _ _ _ (by have := (Kd.R_reads' HO1.out).2.2; rwa [hl.out] at this)).mono ?_
    rintro e W2 ⟨u1, rfl, hL, hb⟩
    have H0 := Aside0.mk hL
    clear hL
    have HB := Aside0.mk (show Below w.heap.size w W2 from below_step (by repeat (first | (with_reducible first | exact HB.out | apply below_alloc | apply pw_below_drewN | apply below_drew1) | exact HB.out)) hb)
    clear hb
    go_wp2_with (fail)
    refine (toSpotS_c _ (Kd.C_below hr.out (by repeat (first | (with_reducible first | exact HB.out | apply below_alloc | apply pw_below_drewN | apply below_drew1) | exact HB.out))) hc hm).mono ?_
    rintro e W4 ⟨v2, rfl, ho, hb⟩
    obtain ⟨z, hz0, hzX, z1⟩ := sep3n (b := w.heap.size) (Kd.R_below H0.out ( by repeat (first | (with_reducible first | exact Below.refl _ _ | apply below_alloc | apply pw_below_drewN | apply below_drew1 | (refine below_step ?_ (by assumption))) | exact Below.refl _ _) )) ho hb (by have := HB.out.size; first | omega | (simp; omega))
    have HO2 := Aside0.mk ho
    have H0 := Aside0.mk hz0
    have HX := Aside0.mk hzX
    clear ho hz0 hzX
    have HB := Aside0.mk (show Below w.heap.size w W4 from below_step (by repeat (first | (with_reducible first | exact HB.out | apply below_alloc | apply pw_below_drewN | apply below_drew1) | exact HB.out)) hb)
    clear hb
    have HY := Aside0.mk (Below.refl W4.heap.size W4)
    obtain ⟨A2, c2, e1⟩ := Kd.R_slice HO2.out
    rw [hl.out] at e1
    subst e1
    go_wp2_with (fail)
    refine (hi.out _ _ _ (by have := (Kd.R_reads' (Kd.R_below HO2.out ( by repeat (first | (with_reducible first | exact Below.refl _ _ | apply below_alloc | apply pw_below_drewN | apply below_drew1 | (refine below_step ?_ (by assumption))) | exact Below.refl _ _) ))).2.2; rwa [hl.out] at this)).mono ?_
    rintro e W6 ⟨u2, rfl, hL, hb⟩
    have H1 := Aside0.mk (sep4 (b := w.heap.size) (y := W4.heap.size) hL (below_size (by repeat (first | (with_reducible first | exact HB.out | apply below_alloc | apply pw_below_drewN | apply below_drew1) | exact HB.out))) (below_size (by repeat (first | (with_reducible first | exact HY.out | apply below_alloc | apply pw_below_drewN | apply below_drew1) | exact HY.out))))
    clear hL
    have HB := Aside0.mk (show Below w.heap.size w W6 from below_step (by repeat (first | (with_reducible first | exact HB.out | apply below_alloc | apply pw_below_drewN | apply below_drew1) | exact HB.out)) hb)
    have H0 := Aside0.mk (Kd.R_below (Kd.R_below H0.out ( by repeat (first | (with_reducible first | exact Below.refl _ _ | apply below_alloc | apply pw_below_drewN | apply below_drew1 | (refine below_step ?_ (by assumption))) | exact Below.refl _ _) )) hb)
    have HX := Aside0.mk (Kd.R_below (Kd.R_below HX.out ( by repeat (first | (with_reducible first | exact Below.refl _ _ | apply below_alloc | apply pw_below_drewN | apply below_drew1 | (refine below_step ?_ (by assumption))) | exact Below.refl _ _) )) hb)
    have HO2 := Aside0.mk (Kd.R_below (Kd.R_below HO2.out ( by repeat (first | (with_reducible first | exact Below.refl _ _ | apply below_alloc | apply pw_below_drewN | apply below_drew1 | (refine below_step ?_ (by assumption))) | exact Below.refl _ _) )) hb)
    have HY := Aside0.mk (show Below W4.heap.size W4 W6 from below_step (by repeat (first | (with_reducible first | exact HY.out | apply below_alloc | apply pw_below_drewN | apply below_drew1) | exact HY.out)) hb)
    clear hb
    obtain ⟨B0, d0, e2⟩ := Kd.R_slice H0.out
    subst e2
    obtain ⟨B1, d1, e2⟩ := Kd.R_slice H1.out
    subst e2
    go_wp2_with (fail)
    refine (laws_eqInt64S.calls 1000000 _ _ L _ _ L true _ (by repeat (first | exact (Kd.R_reads' H1.out).2.2 | (with_reducible refine Kd.C_alloc ?_ _) | (with_reducible refine Kd.C_drewN ?_ _) | (with_reducible refine Kd.C_drew ?_))) (Kd.R_reads' H1.out).2.1 (by repeat (first | exact (Kd.R_reads' H0.out).2.2 | (with_reducible refine Kd.C_alloc ?_ _) | (with_reducible refine Kd.C_drewN ?_ _) | (with_reducible refine Kd.C_drew ?_))) (Kd.R_reads' H0.out).2.1 AE.out).mono ?_
    rintro e w' ⟨rfl, ⟨nd, rfl⟩⟩
    go_wp2_with (fail)
    refine (toSpotS_c _ (Kd.C_below hr.out (by repeat (first | (with_reducible first | exact HB.out | apply below_alloc | apply pw_below_drewN | apply below_drew1) | exact HB.out))) hc hm).mono ?_
    rintro e W7 ⟨v3, rfl, ho, hb⟩
    have HO3 := Aside0.mk ho
    clear ho
    have HB := Aside0.mk (show Below w.heap.size w W7 from below_step (by repeat (first | (with_reducible first | exact HB.out | apply below_alloc | apply pw_below_drewN | apply below_drew1) | exact HB.out)) hb)
    have H0 := Aside0.mk (Kd.R_below (Kd.R_below H0.out ( by repeat (first | (with_reducible first | exact Below.refl _ _ | apply below_alloc | apply pw_below_drewN | apply below_drew1 | (refine below_step ?_ (by assumption))) | exact Below.refl _ _) )) hb)
    have H1 := Aside0.mk (Kd.R_below (Kd.R_below H1.out ( by repeat (first | (with_reducible first | exact Below.refl _ _ | apply below_alloc | apply pw_below_drewN | apply below_drew1 | (refine below_step ?_ (by assumption))) | exact Below.refl _ _) )) hb)
    have HX := Aside0.mk (Kd.R_below (Kd.R_below HX.out ( by repeat (first | (with_reducible first | exact Below.refl _ _ | apply below_alloc | apply pw_below_drewN | apply below_drew1 | (refine below_step ?_ (by assumption))) | exact Below.refl _ _) )) hb)
    have HO2 := Aside0.mk (Kd.R_below (Kd.R_below HO2.out ( by repeat (first | (with_reducible first | exact Below.refl _ _ | apply below_alloc | apply pw_below_drewN | apply below_drew1 | (refine below_step ?_ (by assumption))) | exact Below.refl _ _) )) hb)
    clear hb
    obtain ⟨A3, c3, e1⟩ := Kd.R_slice HO3.out
    rw [hl.out] at e1
    subst e1
    go_wp2_with (fail)
    refine (eqSpotS_c (xs := xs.map toS) _ (by have := (Kd.R_reads' HO2.out).2.2; rwa [hl.out] at this) (R_cap hl.out HO2.out) (by have := (Kd.R_reads' HO3.out).2.2; rwa [hl.out] at this) (R_cap hl.out HO3.out) (by omega)).mono ?_
    rintro e W8 ⟨rfl, hb⟩
    have HB := Aside0.mk (show Below w.heap.size w W8 from below_step (by repeat (first | (with_reducible first | exact HB.out | apply below_alloc | apply pw_below_drewN | apply below_drew1) | exact HB.out)) hb)
    have H0 := Aside0.mk (Kd.R_below (Kd.R_below H0.out ( by repeat (first | (with_reducible first | exact Below.refl _ _ | apply below_alloc | apply pw_below_drewN | apply below_drew1 | (refine below_step ?_ (by assumption))) | exact Below.refl _ _) )) hb)
    have H1 := Aside0.mk (Kd.R_below (Kd.R_below H1.out ( by repeat (first | (with_reducible first | exact Below.refl _ _ | apply below_alloc | apply pw_below_drewN | apply below_drew1 | (refine below_step ?_ (by assumption))) | exact Below.refl _ _) )) hb)
    have HX := Aside0.mk (Kd.R_below (Kd.R_below HX.out ( by repeat (first | (with_reducible first | exact Below.refl _ _ | apply below_alloc | apply pw_below_drewN | apply below_drew1 | (refine below_step ?_ (by assumption))) | exact Below.refl _ _) )) hb)
    clear hb
    go_wp2_with (fail)
    refine (PFnExactUnderCap.laws_markSpotS.calls 2000000 (fun k => z ≤ k ∧ k < W4.heap.size) (.slice A2 n c2) (xs.map toS) 1 _ zs w _ (by repeat (first | (with_reducible first | exact HB.out | apply below_alloc | apply pw_below_drewN | apply below_drew1) | exact HB.out)) (Kd.R_below HX.out ( by repeat (first | (with_reducible first | exact Below.refl _ _ | apply below_alloc | apply pw_below_drewN | apply below_drew1 | (refine below_step ?_ (by assumption))) | exact Below.refl _ _) )) AZ.out).mono ?_
    rintro e W9 ⟨rfl, hy, hb, hkp⟩
    have H0 := Aside0.mk (Kd.R_kept (Kd.R_below H0.out ( by repeat (first | (with_reducible first | exact Below.refl _ _ | apply below_alloc | apply pw_below_drewN | apply below_drew1 | (refine below_step ?_ (by assumption))) | exact Below.refl _ _) )) hkp (fun k hk s => by have := s.1; omega))
    have H1 := Aside0.mk (Kd.R_kept (Kd.R_below H1.out ( by repeat (first | (with_reducible first | exact Below.refl _ _ | apply below_alloc | apply pw_below_drewN | apply below_drew1 | (refine below_step ?_ (by assumption))) | exact Below.refl _ _) )) hkp (fun k hk s => by have := s.2; omega))
    have HB := Aside0.mk hb
    clear HX HO2 hy hb hkp
    have k0 : decide (1 + 2 * (((xs.map toS).length : Nat) : Int) < 0) = false := decide_eq_false (by omega)
    go_wp2_with (fail)
    refine (laws_eqInt64S.calls 1000000 _ _ L _ _ L true _ (by repeat (first | exact (Kd.R_reads' H1.out).2.2 | (with_reducible refine Kd.C_alloc ?_ _) | (with_reducible refine Kd.C_drewN ?_ _) | (with_reducible refine Kd.C_drew ?_))) (Kd.R_reads' H1.out).2.1 (by repeat (first | exact (Kd.R_reads' H0.out).2.2 | (with_reducible refine Kd.C_alloc ?_ _) | (with_reducible refine Kd.C_drewN ?_ _) | (with_reducible refine Kd.C_drew ?_))) (Kd.R_reads' H0.out).2.1 AE.out).mono ?_
    rintro e w' ⟨rfl, ⟨nd, rfl⟩⟩
    go_wp2_with (fail)
    refine (laws_markInt64S.calls 1000000 (fun k => W4.heap.size ≤ k) (.slice B1 L.length d1) L 1 _ l' w _ (by repeat (first | (with_reducible first | exact HB.out | apply below_alloc | apply pw_below_drewN | apply below_drew1) | exact HB.out)) (Kd.R_below H1.out ( by repeat (first | (with_reducible first | exact Below.refl _ _ | apply below_alloc | apply pw_below_drewN | apply below_drew1 | (refine below_step ?_ (by assumption))) | exact Below.refl _ _) )) AM.out).mono ?_
    rintro e W10 ⟨rfl, hy, hb, hkp⟩
    have H0 := Aside0.mk (Kd.R_kept (Kd.R_below H0.out ( by repeat (first | (with_reducible first | exact Below.refl _ _ | apply below_alloc | apply pw_below_drewN | apply below_drew1 | (refine below_step ?_ (by assumption))) | exact Below.refl _ _) )) hkp (fun k hk s => by omega))
    have H1 := Aside0.mk hy
    have HB := Aside0.mk hb
    clear hy hb hkp
    go_wp2_with (fail)
    refine (calls_of_args (by rw [HL.out]) (laws_heldInt64S.calls 1000000 _ d1 l' 1 _ _ (by repeat (first | exact (Kd.R_reads' H1.out).2.2 | (with_reducible refine Kd.C_alloc ?_ _) | (with_reducible refine Kd.C_drewN ?_ _) | (with_reducible refine Kd.C_drew ?_))) (by rw [HL.out]; exact (Kd.R_reads' H1.out).2.1) AH.out)).mono ?_
    rintro e Wd ⟨rfl, hb⟩
    have hb := hb.below
    have HB := Aside0.mk (show Below w.heap.size w Wd from below_step (by repeat (first | (with_reducible first | exact HB.out | apply below_alloc | apply pw_below_drewN | apply below_drew1) | exact HB.out)) hb)
    have H0 := Aside0.mk (Kd.R_below (Kd.R_below H0.out ( by repeat (first | (with_reducible first | exact Below.refl _ _ | apply below_alloc | apply pw_below_drewN | apply below_drew1 | (refine below_step ?_ (by assumption))) | exact Below.refl _ _) )) hb)
    have H1 := Aside0.mk (Kd.R_below (Kd.R_below H1.out ( by repeat (first | (with_reducible first | exact Below.refl _ _ | apply below_alloc | apply pw_below_drewN | apply below_drew1 | (refine below_step ?_ (by assumption))) | exact Below.refl _ _) )) hb)
    clear hb
    have b1 : decide ((l'.length : Int) + 1 < 0) = false := by simp; omega
    have b2 : ((l'.length : Int) + 1 != (L.length : Int) + 1) = false := by rw [HL.out]; simp
    go_wp2_with (fail)
    refine (toSpotS_c _ (Kd.C_below hr.out (by repeat (first | (with_reducible first | exact HB.out | apply below_alloc | apply pw_below_drewN | apply below_drew1) | exact HB.out))) hc hm).mono ?_
    rintro e W11 ⟨v5, rfl, ho, hb⟩
    have HO5 := Aside0.mk ho
    clear ho
    have HB := Aside0.mk (show Below w.heap.size w W11 from below_step (by repeat (first | (with_reducible first | exact HB.out | apply below_alloc | apply pw_below_drewN | apply below_drew1) | exact HB.out)) hb)
    have H0 := Aside0.mk (Kd.R_below (Kd.R_below H0.out ( by repeat (first | (with_reducible first | exact Below.refl _ _ | apply below_alloc | apply pw_below_drewN | apply below_drew1 | (refine below_step ?_ (by assumption))) | exact Below.refl _ _) )) hb)
    have H1 := Aside0.mk (Kd.R_below (Kd.R_below H1.out ( by repeat (first | (with_reducible first | exact Below.refl _ _ | apply below_alloc | apply pw_below_drewN | apply below_drew1 | (refine below_step ?_ (by assumption))) | exact Below.refl _ _) )) hb)
    clear hb
    obtain ⟨A5, c5, e1⟩ := Kd.R_slice HO5.out
    rw [hl.out] at e1
    subst e1
    go_wp2_with (fail)
    refine (hi.out _ _ _ (by have := (Kd.R_reads' HO5.out).2.2; rwa [hl.out] at this)).mono ?_
    rintro e W12 ⟨u5, rfl, hL, hb⟩
    have H2 := Aside0.mk hL
    clear hL
    have HB := Aside0.mk (show Below w.heap.size w W12 from below_step (by repeat (first | (with_reducible first | exact HB.out | apply below_alloc | apply pw_below_drewN | apply below_drew1) | exact HB.out)) hb)
    have H0 := Aside0.mk (Kd.R_below (Kd.R_below H0.out ( by repeat (first | (with_reducible first | exact Below.refl _ _ | apply below_alloc | apply pw_below_drewN | apply below_drew1 | (refine below_step ?_ (by assumption))) | exact Below.refl _ _) )) hb)
    have H1 := Aside0.mk (Kd.R_below (Kd.R_below H1.out ( by repeat (first | (with_reducible first | exact Below.refl _ _ | apply below_alloc | apply pw_below_drewN | apply below_drew1 | (refine below_step ?_ (by assumption))) | exact Below.refl _ _) )) hb)
    clear hb
    obtain ⟨B2, d2, e2⟩ := Kd.R_slice H2.out
    subst e2
    go_wp2_with (fail)
    refine (laws_eqInt64S.calls 1000000 _ _ L _ _ L true _ (by repeat (first | exact (Kd.R_reads' H2.out).2.2 | (with_reducible refine Kd.C_alloc ?_ _) | (with_reducible refine Kd.C_drewN ?_ _) | (with_reducible refine Kd.C_drew ?_))) (Kd.R_reads' H2.out).2.1 (by repeat (first | exact (Kd.R_reads' H0.out).2.2 | (with_reducible refine Kd.C_alloc ?_ _) | (with_reducible refine Kd.C_drewN ?_ _) | (with_reducible refine Kd.C_drew ?_))) (Kd.R_reads' H0.out).2.1 AE.out).mono ?_
    rintro e w' ⟨rfl, ⟨nd, rfl⟩⟩
    go_wp2_with (fail)
    refine (calls_of_args (by rw [HL.out]) (laws_heldInt64S.calls 1000000 _ d1 l' 1 _ _ (by repeat (first | exact (Kd.R_reads' H1.out).2.2 | (with_reducible refine Kd.C_alloc ?_ _) | (with_reducible refine Kd.C_drewN ?_ _) | (with_reducible refine Kd.C_drew ?_))) (by rw [HL.out]; exact (Kd.R_reads' H1.out).2.1) AH.out)).mono ?_
    rintro e w' ⟨rfl, ⟨nd, rfl⟩⟩
    go_wp2_with (fail)
    go_ret
    exact ⟨rfl, by repeat (first | (with_reducible first | exact HB.out | apply below_alloc | apply pw_below_drewN | apply below_drew1) | exact HB.out)⟩
end Go.Proofs.Ytkfbbaaniglaeaa.Con
