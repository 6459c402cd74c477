/- The gores touched by places: sorted and without doubles as put one by one. Conditions: as stated. -/
import Derived.Test.YtkfbbaaniglaeaaConGt
namespace Go.Proofs.Ytkfbbaaniglaeaa.Con
open Go.Sort Go.RowKit Go.Proofs.YtkfbbaaniglaeaaW.PrintWords Go.Proofs.YtkfbbaaniglaeaaW.PrintLast Go.Proofs.YtkfbbaaniglaeaaW.PrintMore Go.Proofs.Ytkfbbaaniglaeaa.Mth
attribute [local go_sem] max2_int min2_int max_two min_two max_three min_three
set_option linter.unusedVariables false
set_option linter.unusedSimpArgs false
set_option maxHeartbeats 4000000 in
set_option maxRecDepth 100000 in
theorem impl_GoresTouched_l {A : Option Addr} {n c : Nat} {xs : List Sp} {gores : Int} (w : World) (hr : Kd.C kSp w A n xs) : Calls Try.prog 32 #[.int .i64 gores, .slice A n c] w fun e w' => ∃ v0_ : Value, e = .returned (.tuple #[v0_, .int .i64 (RGoresTouched gores xs).2]) ∧ Kd.R (Kd.int .i64) 2 w' w.heap.size (fun _ => True) v0_ (RGoresTouched gores xs).1 ∧ Below w.heap.size w w' := by
  obtain rfl : xs.length = n := hr.1
  have hr := Aside0.mk hr
  have HB := Aside0.mk (Below.refl w.heap.size w)
  rcases dec (gOk gores) with ⟨hg, bg⟩ | ⟨hg, bg⟩
  · rcases dec (okL xs) with ⟨hx, bl⟩ | ⟨hx, bl⟩
    · by_cases h100 : xs.length ≤ 100
      · have f := Aside0.mk (show RGoresTouched gores xs = (putAll (goT gores xs xs.length), 0) by unfold RGoresTouched; rw [if_pos ⟨hg, hx⟩, if_pos h100])
        have hq := Aside0.mk ((okL_iff xs).1 hx)
        have hg := Aside0.mk hg
        have nq : ((xs.length : Nat) : Int) ≤ 100 := by omega
        clear hx
        go_enter Try.func32, Try.ntmps32
        go_wp2_with (fail)
        refine (impl_ValidGores_c _ bg.out).mono ?_
        rintro e w' ⟨rfl, ⟨nd, rfl⟩⟩
        go_wp2_with (fail)
        refine (impl_areSpots_c _ (Kd.C_below hr.out (by repeat (first | (with_reducible first | exact HB.out | apply below_alloc | apply pw_below_drewN | apply below_drew1) | exact HB.out))) bl.out).mono ?_
        rintro e w2 ⟨rfl, hb⟩
        have HB := Aside0.mk (show Below w.heap.size w w2 from below_step (by repeat (first | (with_reducible first | exact HB.out | apply below_alloc | apply pw_below_drewN | apply below_drew1) | exact HB.out)) hb)
        clear hb
        go_wp2_with (fail)
        refine (impl_check_tt _).mono ?_
        rintro e V ⟨rfl, hb⟩
        have hb := hb.below
        have HV := Aside0.mk (show Below w.heap.size w V from below_step (by repeat (first | (with_reducible first | exact HB.out | apply below_alloc | apply pw_below_drewN | apply below_drew1) | exact HB.out)) hb)
        have hrV := Aside0.mk (Kd.C_below hr.out HV.out)
        clear HB hb
        go_wp2_with (first | ((with_reducible refine gate_dst (N := 4) rfl ?_); refine Kd.R_lit (Kd.int .i64) _ 2 ?hg (N := 4) ?hd (xs := ([] : List Int)) (inner := []) (ok := fun _ => True) (okp := fun _ => True) ?hr ?hp (fun _ hk => hk) trivial (Below.refl _ _) (Nat.le_refl _) (by simp) ?_; (case hd => rfl); (case hg => rfl); (case hr => first | (go_simp; done) | (go_simp; rfl)); (case hp => exact (Reps.none _ _)); intro v0 w5 ho hb hg_ hnew_; have hnew := Aside0.mk hnew_; clear hg_ hnew_) | ((with_reducible refine gate_dst (N := 5) rfl ?_); refine Kd.R_lit (Kd.int .i64) _ 2 ?hg (N := 5) ?hd (xs := ([] : List Int)) (inner := []) (ok := fun _ => True) (okp := fun _ => True) ?hr ?hp (fun _ hk => hk) trivial (Below.refl _ _) (Nat.le_refl _) (by simp) ?_; (case hd => rfl); (case hg => rfl); (case hr => first | (go_simp; done) | (go_simp; rfl)); (case hp => exact (Reps.none _ _)); intro v0 w5 ho hb hg_ hnew_; have hnew := Aside0.mk hnew_; clear hg_ hnew_) | ((with_reducible refine gate_dst (N := 6) rfl ?_); refine Kd.R_lit (Kd.int .i64) _ 2 ?hg (N := 6) ?hd (xs := ([] : List Int)) (inner := []) (ok := fun _ => True) (okp := fun _ => True) ?hr ?hp (fun _ hk => hk) trivial (Below.refl _ _) (Nat.le_refl _) (by simp) ?_; (case hd => rfl); (case hg => rfl); (case hr => first | (go_simp; done) | (go_simp; rfl)); (case hp => exact (Reps.none _ _)); intro v0 w5 ho hb hg_ hnew_; have hnew := Aside0.mk hnew_; clear hg_ hnew_) | ((with_reducible refine gate_dst (N := 7) rfl ?_); refine Kd.R_lit (Kd.int .i64) _ 2 ?hg (N := 7) ?hd (xs := ([] : List Int)) (inner := []) (ok := fun _ => True) (okp := fun _ => True) ?hr ?hp (fun _ hk => hk) trivial (Below.refl _ _) (Nat.le_refl _) (by simp) ?_; (case hd => rfl); (case hg => rfl); (case hr => first | (go_simp; done) | (go_simp; rfl)); (case hp => exact (Reps.none _ _)); intro v0 w5 ho hb hg_ hnew_; have hnew := Aside0.mk hnew_; clear hg_ hnew_) | ((with_reducible refine gate_dst (N := 8) rfl ?_); refine Kd.R_lit (Kd.int .i64) _ 2 ?hg (N := 8) ?hd (xs := ([] : List Int)) (inner := []) (ok := fun _ => True) (okp := fun _ => True) ?hr ?hp (fun _ hk => hk) trivial (Below.refl _ _) (Nat.le_refl _) (by simp) ?_; (case hd => rfl); (case hg => rfl); (case hr => first | (go_simp; done) | (go_simp; rfl)); (case hp => exact (Reps.none _ _)); intro v0 w5 ho hb hg_ hnew_; have hnew := Aside0.mk hnew_; clear hg_ hnew_) | ((with_reducible refine gate_dst (N := 9) rfl ?_); refine Kd.R_lit (Kd.int .i64) _ 2 ?hg (N := 9) ?hd (xs := ([] : List Int)) (inner := []) (ok := fun _ => True) (okp := fun _ => True) ?hr ?hp (fun _ hk => hk) trivial (Below.refl _ _) (Nat.le_refl _) (by simp) ?_; (case hd => rfl); (case hg => rfl); (case hr => first | (go_simp; done) | (go_simp; rfl)); (case hp => exact (Reps.none _ _)); intro v0 w5 ho hb hg_ hnew_; have hnew := Aside0.mk hnew_; clear hg_ hnew_) | ((with_reducible refine gate_dst (N := 10) rfl ?_); refine Kd.R_lit (Kd.int .i64) _ 2 ?hg (N := 10) ?hd (xs := ([] : List Int)) (inner := []) (ok := fun _ => True) (okp := fun _ => True) ?hr ?hp (fun _ hk => hk) trivial (Below.refl _ _) (Nat.le_refl _) (by simp) ?_; (case hd => rfl); (case hg => rfl); (case hr => first | (go_simp; done) | (go_simp; rfl)); (case hp => exact (Reps.none _ _)); intro v0 w5 ho hb hg_ hnew_; have hnew := Aside0.mk hnew_; clear hg_ hnew_) | ((with_reducible refine gate_dst (N := 11) rfl ?_); refine Kd.R_lit (Kd.int .i64) _ 2 ?hg (N := 11) ?hd (xs := ([] : List Int)) (inner := []) (ok := fun _ => True) (okp := fun _ => True) ?hr ?hp (fun _ hk => hk) trivial (Below.refl _ _) (Nat.le_refl _) (by simp) ?_; (case hd => rfl); (case hg => rfl); (case hr => first | (go_simp; done) | (go_simp; rfl)); (case hp => exact (Reps.none _ _)); intro v0 w5 ho hb hg_ hnew_; have hnew := Aside0.mk hnew_; clear hg_ hnew_) | ((with_reducible refine gate_dst (N := 12) rfl ?_); refine Kd.R_lit (Kd.int .i64) _ 2 ?hg (N := 12) ?hd (xs := ([] : List Int)) (inner := []) (ok := fun _ => True) (okp := fun _ => True) ?hr ?hp (fun _ hk => hk) trivial (Below.refl _ _) (Nat.le_refl _) (by simp) ?_; (case hd => rfl); (case hg => rfl); (case hr => first | (go_simp; done) | (go_simp; rfl)); (case hp => exact (Reps.none _ _)); intro v0 w5 ho hb hg_ hnew_; have hnew := Aside0.mk hnew_; clear hg_ hnew_) | ((with_reducible refine gate_dst (N := 13) rfl ?_); refine Kd.R_lit (Kd.int .i64) _ 2 ?hg (N := 13) ?hd (xs := ([] : List Int)) (inner := []) (ok := fun _ => True) (okp := fun _ => True) ?hr ?hp (fun _ hk => hk) trivial (Below.refl _ _) (Nat.le_refl _) (by simp) ?_; (case hd => rfl); (case hg => rfl); (case hr => first | (go_simp; done) | (go_simp; rfl)); (case hp => exact (Reps.none _ _)); intro v0 w5 ho hb hg_ hnew_; have hnew := Aside0.mk hnew_; clear hg_ hnew_) | ((with_reducible refine gate_dst (N := 14) rfl ?_); refine Kd.R_lit (Kd.int .i64) _ 2 ?hg (N := 14) ?hd (xs := ([] : List Int)) (inner := []) (ok := fun _ => True) (okp := fun _ => True) ?hr ?hp (fun _ hk => hk) trivial (Below.refl _ _) (Nat.le_refl _) (by simp) ?_; (case hd => rfl); (case hg => rfl); (case hr => first | (go_simp; done) | (go_simp; rfl)); (case hp => exact (Reps.none _ _)); intro v0 w5 ho hb hg_ hnew_; have hnew := Aside0.mk hnew_; clear hg_ hnew_) | ((with_reducible refine gate_dst (N := 15) rfl ?_); refine Kd.R_lit (Kd.int .i64) _ 2 ?hg (N := 15) ?hd (xs := ([] : List Int)) (inner := []) (ok := fun _ => True) (okp := fun _ => True) ?hr ?hp (fun _ hk => hk) trivial (Below.refl _ _) (Nat.le_refl _) (by simp) ?_; (case hd => rfl); (case hg => rfl); (case hr => first | (go_simp; done) | (go_simp; rfl)); (case hp => exact (Reps.none _ _)); intro v0 w5 ho hb hg_ hnew_; have hnew := Aside0.mk hnew_; clear hg_ hnew_) | ((with_reducible refine gate_dst (N := 16) rfl ?_); refine Kd.R_lit (Kd.int .i64) _ 2 ?hg (N := 16) ?hd (xs := ([] : List Int)) (inner := []) (ok := fun _ => True) (okp := fun _ => True) ?hr ?hp (fun _ hk => hk) trivial (Below.refl _ _) (Nat.le_refl _) (by simp) ?_; (case hd => rfl); (case hg => rfl); (case hr => first | (go_simp; done) | (go_simp; rfl)); (case hp => exact (Reps.none _ _)); intro v0 w5 ho hb hg_ hnew_; have hnew := Aside0.mk hnew_; clear hg_ hnew_) | ((with_reducible refine gate_dst (N := 17) rfl ?_); refine Kd.R_lit (Kd.int .i64) _ 2 ?hg (N := 17) ?hd (xs := ([] : List Int)) (inner := []) (ok := fun _ => True) (okp := fun _ => True) ?hr ?hp (fun _ hk => hk) trivial (Below.refl _ _) (Nat.le_refl _) (by simp) ?_; (case hd => rfl); (case hg => rfl); (case hr => first | (go_simp; done) | (go_simp; rfl)); (case hp => exact (Reps.none _ _)); intro v0 w5 ho hb hg_ hnew_; have hnew := Aside0.mk hnew_; clear hg_ hnew_) | ((with_reducible refine gate_dst (N := 18) rfl ?_); refine Kd.R_lit (Kd.int .i64) _ 2 ?hg (N := 18) ?hd (xs := ([] : List Int)) (inner := []) (ok := fun _ => True) (okp := fun _ => True) ?hr ?hp (fun _ hk => hk) trivial (Below.refl _ _) (Nat.le_refl _) (by simp) ?_; (case hd => rfl); (case hg => rfl); (case hr => first | (go_simp; done) | (go_simp; rfl)); (case hp => exact (Reps.none _ _)); intro v0 w5 ho hb hg_ hnew_; have hnew := Aside0.mk hnew_; clear hg_ hnew_) | ((with_reducible refine gate_dst (N := 19) rfl ?_); refine Kd.R_lit (Kd.int .i64) _ 2 ?hg (N := 19) ?hd (xs := ([] : List Int)) (inner := []) (ok := fun _ => True) (okp := fun _ => True) ?hr ?hp (fun _ hk => hk) trivial (Below.refl _ _) (Nat.le_refl _) (by simp) ?_; (case hd => rfl); (case hg => rfl); (case hr => first | (go_simp; done) | (go_simp; rfl)); (case hp => exact (Reps.none _ _)); intro v0 w5 ho hb hg_ hnew_; have hnew := Aside0.mk hnew_; clear hg_ hnew_) | ((with_reducible refine gate_dst (N := 20) rfl ?_); refine Kd.R_lit (Kd.int .i64) _ 2 ?hg (N := 20) ?hd (xs := ([] : List Int)) (inner := []) (ok := fun _ => True) (okp := fun _ => True) ?hr ?hp (fun _ hk => hk) trivial (Below.refl _ _) (Nat.le_refl _) (by simp) ?_; (case hd => rfl); (case hg => rfl); (case hr => first | (go_simp; done) | (go_simp; rfl)); (case hp => exact (Reps.none _ _)); intro v0 w5 ho hb hg_ hnew_; have hnew := Aside0.mk hnew_; clear hg_ hnew_) | ((with_reducible refine gate_dst (N := 21) rfl ?_); refine Kd.R_lit (Kd.int .i64) _ 2 ?hg (N := 21) ?hd (xs := ([] : List Int)) (inner := []) (ok := fun _ => True) (okp := fun _ => True) ?hr ?hp (fun _ hk => hk) trivial (Below.refl _ _) (Nat.le_refl _) (by simp) ?_; (case hd => rfl); (case hg => rfl); (case hr => first | (go_simp; done) | (go_simp; rfl)); (case hp => exact (Reps.none _ _)); intro v0 w5 ho hb hg_ hnew_; have hnew := Aside0.mk hnew_; clear hg_ hnew_) | ((with_reducible refine gate_dst (N := 22) rfl ?_); refine Kd.R_lit (Kd.int .i64) _ 2 ?hg (N := 22) ?hd (xs := ([] : List Int)) (inner := []) (ok := fun _ => True) (okp := fun _ => True) ?hr ?hp (fun _ hk => hk) trivial (Below.refl _ _) (Nat.le_refl _) (by simp) ?_; (case hd => rfl); (case hg => rfl); (case hr => first | (go_simp; done) | (go_simp; rfl)); (case hp => exact (Reps.none _ _)); intro v0 w5 ho hb hg_ hnew_; have hnew := Aside0.mk hnew_; clear hg_ hnew_) | ((with_reducible refine gate_dst (N := 23) rfl ?_); refine Kd.R_lit (Kd.int .i64) _ 2 ?hg (N := 23) ?hd (xs := ([] : List Int)) (inner := []) (ok := fun _ => True) (okp := fun _ => True) ?hr ?hp (fun _ hk => hk) trivial (Below.refl _ _) (Nat.le_refl _) (by simp) ?_; (case hd => rfl); (case hg => rfl); (case hr => first | (go_simp; done) | (go_simp; rfl)); (case hp => exact (Reps.none _ _)); intro v0 w5 ho hb hg_ hnew_; have hnew := Aside0.mk hnew_; clear hg_ hnew_) | ((with_reducible refine gate_dst (N := 24) rfl ?_); refine Kd.R_lit (Kd.int .i64) _ 2 ?hg (N := 24) ?hd (xs := ([] : List Int)) (inner := []) (ok := fun _ => True) (okp := fun _ => True) ?hr ?hp (fun _ hk => hk) trivial (Below.refl _ _) (Nat.le_refl _) (by simp) ?_; (case hd => rfl); (case hg => rfl); (case hr => first | (go_simp; done) | (go_simp; rfl)); (case hp => exact (Reps.none _ _)); intro v0 w5 ho hb hg_ hnew_; have hnew := Aside0.mk hnew_; clear hg_ hnew_) | ((with_reducible refine gate_dst (N := 25) rfl ?_); refine Kd.R_lit (Kd.int .i64) _ 2 ?hg (N := 25) ?hd (xs := ([] : List Int)) (inner := []) (ok := fun _ => True) (okp := fun _ => True) ?hr ?hp (fun _ hk => hk) trivial (Below.refl _ _) (Nat.le_refl _) (by simp) ?_; (case hd => rfl); (case hg => rfl); (case hr => first | (go_simp; done) | (go_simp; rfl)); (case hp => exact (Reps.none _ _)); intro v0 w5 ho hb hg_ hnew_; have hnew := Aside0.mk hnew_; clear hg_ hnew_) | ((with_reducible refine gate_dst (N := 26) rfl ?_); refine Kd.R_lit (Kd.int .i64) _ 2 ?hg (N := 26) ?hd (xs := ([] : List Int)) (inner := []) (ok := fun _ => True) (okp := fun _ => True) ?hr ?hp (fun _ hk => hk) trivial (Below.refl _ _) (Nat.le_refl _) (by simp) ?_; (case hd => rfl); (case hg => rfl); (case hr => first | (go_simp; done) | (go_simp; rfl)); (case hp => exact (Reps.none _ _)); intro v0 w5 ho hb hg_ hnew_; have hnew := Aside0.mk hnew_; clear hg_ hnew_) | ((with_reducible refine gate_dst (N := 27) rfl ?_); refine Kd.R_lit (Kd.int .i64) _ 2 ?hg (N := 27) ?hd (xs := ([] : List Int)) (inner := []) (ok := fun _ => True) (okp := fun _ => True) ?hr ?hp (fun _ hk => hk) trivial (Below.refl _ _) (Nat.le_refl _) (by simp) ?_; (case hd => rfl); (case hg => rfl); (case hr => first | (go_simp; done) | (go_simp; rfl)); (case hp => exact (Reps.none _ _)); intro v0 w5 ho hb hg_ hnew_; have hnew := Aside0.mk hnew_; clear hg_ hnew_) | ((with_reducible refine gate_dst (N := 28) rfl ?_); refine Kd.R_lit (Kd.int .i64) _ 2 ?hg (N := 28) ?hd (xs := ([] : List Int)) (inner := []) (ok := fun _ => True) (okp := fun _ => True) ?hr ?hp (fun _ hk => hk) trivial (Below.refl _ _) (Nat.le_refl _) (by simp) ?_; (case hd => rfl); (case hg => rfl); (case hr => first | (go_simp; done) | (go_simp; rfl)); (case hp => exact (Reps.none _ _)); intro v0 w5 ho hb hg_ hnew_; have hnew := Aside0.mk hnew_; clear hg_ hnew_) | ((with_reducible refine gate_dst (N := 29) rfl ?_); refine Kd.R_lit (Kd.int .i64) _ 2 ?hg (N := 29) ?hd (xs := ([] : List Int)) (inner := []) (ok := fun _ => True) (okp := fun _ => True) ?hr ?hp (fun _ hk => hk) trivial (Below.refl _ _) (Nat.le_refl _) (by simp) ?_; (case hd => rfl); (case hg => rfl); (case hr => first | (go_simp; done) | (go_simp; rfl)); (case hp => exact (Reps.none _ _)); intro v0 w5 ho hb hg_ hnew_; have hnew := Aside0.mk hnew_; clear hg_ hnew_))
        have HO := Aside0.mk (Kd.R_lower ho (below_size ( by repeat (first | (with_reducible first | exact Below.refl _ _ | apply below_alloc | apply pw_below_drewN | apply below_drew1 | (refine below_step ?_ (by assumption))) | exact Below.refl _ _) ) : V.heap.size ≤ _))
        have HB := Aside0.mk (show Below V.heap.size V w5 from below_step ( by repeat (first | (with_reducible first | exact Below.refl _ _ | apply below_alloc | apply pw_below_drewN | apply below_drew1 | (refine below_step ?_ (by assumption))) | exact Below.refl _ _) ) hb)
        clear ho hb
        go_loopw [7, 26] (fun u k wr => ∃ i : Nat, i ≤ xs.length ∧ k = .int .i64 i ∧ Aside0 (i = 0 → ∃ b, u.ownBlock = some b) ∧ Aside0 (Kd.R (Kd.int .i64) 2 wr V.heap.size (fun _ => True) u (goT gores xs i)) ∧ Aside0 (Below V.heap.size V wr)) (fun _ k _ => ((xs.length : Int) - intOf k).toNat)
        case atStart => exact ⟨0, by omega, rfl, ⟨fun _ => hnew.out.imp fun _ h => h.1⟩, ⟨(by (with_reducible repeat (first | apply Kd.R_alloc | apply Kd.R_drewN | apply Kd.R_drew)); exact HO.out)⟩, ⟨by repeat (first | (with_reducible first | exact HB.out | apply below_alloc | apply pw_below_drewN | apply below_drew1) | exact HB.out)⟩⟩
        case round =>
          clear HO HB hnew
          obtain ⟨i, hi, rfl, HZ, HO, HB⟩ := hrel
          by_cases hlt : i < xs.length
          · have hz : (i : Int) < (xs.length : Int) := by omega
            obtain ⟨ad, e1, x0, x1⟩ := PFnExactUnderCap.at_T52 (Kd.C_below hrV.out HB.out) (i : Int) (by omega) hz
            subst e1
            rw [Int.toNat_natCast] at x0 x1
            have s1 := Aside0.mk (show -648000 ≤ (rdS xs i).f1 ∧ (rdS xs i).f1 ≤ 647999 by have := hq.out i hlt; unfold sOk at this; omega)
            have ad_l := sp_lt (Kd.C_below hrV.out HB.out) (by omega)
            have q := HB.out.size
            have il := goT_len gores xs i
            go_wp2_with (fail)
            refine (impl_goreOf_c hg.out s1.out _).mono ?_
            rintro e W ⟨rfl, hb⟩
            have hbb := Aside0.mk (show Below wr.heap.size wr W from below_step ( by repeat (first | (with_reducible first | exact Below.refl _ _ | apply below_alloc | apply pw_below_drewN | apply below_drew1 | (refine below_step ?_ (by assumption))) | exact Below.refl _ _) ) hb)
            clear hb
            have HB := Aside0.mk (below_step HB.out hbb.out)
            have HO := Aside0.mk (Kd.R_below HO.out hbb.out)
            go_wp2_with (first | (at_builtin; refine Kd.R_append (Kd.int .i64) (w0 := V) V.heap.size rfl _ _ 22 2 (.int .i64 0) 8 rfl Try.underlying22 linfo rfl (by decide) (by omega) u7 (goT gores xs i) (gore gores (rdS xs i).f1) [.int .i64 (gore gores (rdS xs i).f1)] (fun _ => True) (fun _ => False) rfl rfl ?aP (fun _ hk => hk.elim) ?aF ?aO ?aB ?aS ?aL ?_; (case aP => exact rfl); (case aB => exact (by repeat (first | (with_reducible first | exact HB.out | apply below_alloc | apply pw_below_drewN | apply below_drew1) | exact HB.out))); (case aF => exact (fun _ _ => trivial)); (case aO => exact (by (with_reducible repeat (first | apply Kd.R_alloc | apply Kd.R_drewN | apply Kd.R_drew)); exact HO.out)); (case aS => exact (below_size (by repeat (first | (with_reducible first | exact HB.out | apply below_alloc | apply pw_below_drewN | apply below_drew1) | exact HB.out)))); (case aL => first | omega | (simp; omega)); intro v1 w9 ho hb hg hat))
            go_roundw
            case rel => exact ⟨i + 1, by omega, by go_num, ⟨fun h => absurd h (by omega)⟩, ⟨(by (with_reducible repeat (first | apply Kd.R_alloc | apply Kd.R_drewN | apply Kd.R_drew)); exact ho)⟩, ⟨by repeat (first | (with_reducible first | exact hb | apply below_alloc | apply pw_below_drewN | apply below_drew1) | exact hb)⟩⟩
            case measure => simp [intOf]; omega
          · have e : i = xs.length := by omega
            subst e
            have hz : ¬ (xs.length : Int) < (xs.length : Int) := by omega
            have ow := Kd.own_of_R HO.out
            rcases ow.2 with ⟨rfl, q2⟩ | ⟨g, cap, cur, rfl, _⟩
            · exfalso
              have h0 : xs.length = 0 := by have := goT_len gores xs xs.length; omega
              obtain ⟨b, hb⟩ := HZ.out h0
              simp [Value.ownBlock] at hb
            have gl := goT_len gores xs xs.length
            have ac := ascending_c wr ow (by omega)
            have ac := Aside0.mk ac
            clear gl ow
            go_wp2_with (fail)
            refine (ac.out).mono ?_
            rintro e W3 ⟨v3, rfl, h3, hb⟩
            have h3 := Aside0.mk (Kd.R_lower h3 (below_size (below_step HV.out (below_step HB.out ( by repeat (first | (with_reducible first | exact Below.refl _ _ | apply below_alloc | apply pw_below_drewN | apply below_drew1 | (refine below_step ?_ (by assumption))) | exact Below.refl _ _) ))) : w.heap.size ≤ _))
            have HB := Aside0.mk (below_step HB.out hb)
            go_wp2
            go_ret2
            exact ⟨_, by rw [f.out]; rfl, by rw [f.out]; exact h3.out, below_step HV.out HB.out⟩
      · have nq : decide (((xs.length : Nat) : Int) ≤ 100) = false := decide_eq_false (by omega)
        have f := Aside0.mk (show RGoresTouched gores xs = ([], 2) by unfold RGoresTouched; rw [if_pos ⟨hg, hx⟩, if_neg h100])
        clear hg hx
        go_enter Try.func32, Try.ntmps32
        go_wp2_with (fail)
        refine (impl_ValidGores_c _ bg.out).mono ?_
        rintro e w' ⟨rfl, ⟨nd, rfl⟩⟩
        go_wp2_with (fail)
        refine (impl_areSpots_c _ (Kd.C_below hr.out (by repeat (first | (with_reducible first | exact HB.out | apply below_alloc | apply pw_below_drewN | apply below_drew1) | exact HB.out))) bl.out).mono ?_
        rintro e w2 ⟨rfl, hb⟩
        have HB := Aside0.mk (show Below w.heap.size w w2 from below_step (by repeat (first | (with_reducible first | exact HB.out | apply below_alloc | apply pw_below_drewN | apply below_drew1) | exact HB.out)) hb)
        clear hb
        go_wp2_with (fail)
        refine (impl_check_tf _).mono ?_
        rintro e w' ⟨rfl, ⟨nd, rfl⟩⟩
        go_wp2
        go_ret2
        exact ⟨_, by rw [f.out]; rfl, by rw [f.out]; exact Kd.R_nil .., by repeat (first | (with_reducible first | exact HB.out | apply below_alloc | apply pw_below_drewN | apply below_drew1) | exact HB.out)⟩
    · have f := Aside0.mk (show RGoresTouched gores xs = ([], 1) by unfold RGoresTouched; rw [if_neg (fun e => hx e.2)])
      by_cases h100 : xs.length ≤ 100
      · have nq : ((xs.length : Nat) : Int) ≤ 100 := by omega
        go_enter Try.func32, Try.ntmps32
        go_wp2_with (fail)
        refine (impl_ValidGores_c _ bg.out).mono ?_
        rintro e w' ⟨rfl, ⟨nd, rfl⟩⟩
        go_wp2_with (fail)
        refine (impl_areSpots_c _ (Kd.C_below hr.out (by repeat (first | (with_reducible first | exact HB.out | apply below_alloc | apply pw_below_drewN | apply below_drew1) | exact HB.out))) bl.out).mono ?_
        rintro e w2 ⟨rfl, hb⟩
        have HB := Aside0.mk (show Below w.heap.size w w2 from below_step (by repeat (first | (with_reducible first | exact HB.out | apply below_alloc | apply pw_below_drewN | apply below_drew1) | exact HB.out)) hb)
        clear hb
        go_wp2_with (fail)
        refine (impl_check_f _).mono ?_
        rintro e w' ⟨rfl, ⟨nd, rfl⟩⟩
        go_wp2
        go_ret2
        exact ⟨_, by rw [f.out]; rfl, by rw [f.out]; exact Kd.R_nil .., by repeat (first | (with_reducible first | exact HB.out | apply below_alloc | apply pw_below_drewN | apply below_drew1) | exact HB.out)⟩
      · have nq : decide (((xs.length : Nat) : Int) ≤ 100) = false := decide_eq_false (by omega)
        go_enter Try.func32, Try.ntmps32
        go_wp2_with (fail)
        refine (impl_ValidGores_c _ bg.out).mono ?_
        rintro e w' ⟨rfl, ⟨nd, rfl⟩⟩
        go_wp2_with (fail)
        refine (impl_areSpots_c _ (Kd.C_below hr.out (by repeat (first | (with_reducible first | exact HB.out | apply below_alloc | apply pw_below_drewN | apply below_drew1) | exact HB.out))) bl.out).mono ?_
        rintro e w2 ⟨rfl, hb⟩
        have HB := Aside0.mk (show Below w.heap.size w w2 from below_step (by repeat (first | (with_reducible first | exact HB.out | apply below_alloc | apply pw_below_drewN | apply below_drew1) | exact HB.out)) hb)
        clear hb
        go_wp2_with (fail)
        refine (impl_check_f _).mono ?_
        rintro e w' ⟨rfl, ⟨nd, rfl⟩⟩
        go_wp2
        go_ret2
        exact ⟨_, by rw [f.out]; rfl, by rw [f.out]; exact Kd.R_nil .., by repeat (first | (with_reducible first | exact HB.out | apply below_alloc | apply pw_below_drewN | apply below_drew1) | exact HB.out)⟩
  · have f := Aside0.mk (show RGoresTouched gores xs = ([], 1) by unfold RGoresTouched; rw [if_neg (fun e => hg e.1)])
    by_cases h100 : xs.length ≤ 100
    · have nq : ((xs.length : Nat) : Int) ≤ 100 := by omega
      go_enter Try.func32, Try.ntmps32
      go_wp2_with (fail)
      refine (impl_ValidGores_c _ bg.out).mono ?_
      rintro e w' ⟨rfl, ⟨nd, rfl⟩⟩
      go_wp2_with (fail)
      refine (impl_check_f _).mono ?_
      rintro e w' ⟨rfl, ⟨nd, rfl⟩⟩
      go_wp2
      go_ret2
      exact ⟨_, by rw [f.out]; rfl, by rw [f.out]; exact Kd.R_nil .., by repeat (first | (with_reducible first | exact HB.out | apply below_alloc | apply pw_below_drewN | apply below_drew1) | exact HB.out)⟩
    · have nq : decide (((xs.length : Nat) : Int) ≤ 100) = false := decide_eq_false (by omega)
      go_enter Try.func32, Try.ntmps32
      go_wp2_with (fail)
      refine (impl_ValidGores_c _ bg.out).mono ?_
      rintro e w' ⟨rfl, ⟨nd, rfl⟩⟩
      go_wp2_with (fail)
      refine (impl_check_f _).mono ?_
      rintro e w' ⟨rfl, ⟨nd, rfl⟩⟩
      go_wp2
      go_ret2
      exact ⟨_, by rw [f.out]; rfl, by rw [f.out]; exact Kd.R_nil .., by repeat (first | (with_reducible first | exact HB.out | apply below_alloc | apply pw_below_drewN | apply below_drew1) | exact HB.out)⟩
end Go.Proofs.Ytkfbbaaniglaeaa.Con
