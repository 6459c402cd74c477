/- The shortest route: the reference. Conditions: as stated. -/
import Derived.Test.YtkfbbaaniglaeaaConSr
namespace Go.Proofs.Ytkfbbaaniglaeaa.Con
open Go.RowKit Go.Proofs.YtkfbbaaniglaeaaW.PrintWords Go.Proofs.YtkfbbaaniglaeaaW.PrintLast Go.Proofs.YtkfbbaaniglaeaaW.PrintMore Go.Proofs.Ytkfbbaaniglaeaa.Mth
attribute [local go_sem] max2_int min2_int max_two min_two max_three min_three
set_option linter.unusedVariables false
set_option linter.unusedSimpArgs false
noncomputable def dF (xs : List Sp) (a b : Int) : Int := dist (rdS xs a.toNat).f0 (rdS xs a.toNat).f1 (rdS xs b.toNat).f0 (rdS xs b.toNat).f1
theorem dF_bd (xs : List Sp) (a b : Int) : 0 ≤ dF xs a b ∧ dF xs a b ≤ 648000 := dist_bd _ _ _ _
noncomputable def RShort (xs : List Sp) : List Int × Int × Int :=
  if codL xs 0 7 = 0 then (if xs.length = 0 then ([], 0, 0) else match wk xs.length (dF xs) (xs.length - 1) [0] 0 none with
    | some (L, x) => (L, x, 0)
    | none => ([], 0, 0)) else ([], 0, codL xs 0 7)
theorem ord_one {n : Nat} (h : 1 ≤ n) : Ord n [0] := ⟨by simp, fun x hx => by rw [List.mem_singleton.1 hx]; omega⟩
theorem short_some (xs : List Sp) (h : xs.length ≠ 0) : ∃ L x, wk xs.length (dF xs) (xs.length - 1) [0] 0 none = some (L, x) := by
  have := vs_some xs.length (dF xs) (xs.length - 1) [0] 0 none (ord_one (by omega)) (by show 1 + _ = _; omega)
  rw [← wk_vs xs.length (dF xs) (fun a b => (dF_bd xs a b).1)] at this
  obtain ⟨⟨L, x⟩, e⟩ := Option.isSome_iff_exists.1 this
  exact ⟨L, x, e⟩
theorem rows_ok (xs : List Sp) : ∀ i : Int, 0 ≤ i → i < xs.length → (PFnExactUnderCap.rd_L3 (tabS xs xs.length) i).length = xs.length ∧ ∀ k : Int, 0 ≤ k → k < xs.length → rd (PFnExactUnderCap.rd_L3 (tabS xs xs.length) i) k = dF xs i k := by
  intro i i0 i1
  obtain ⟨j, rfl⟩ := Int.eq_ofNat_of_zero_le i0
  have e : PFnExactUnderCap.rd_L3 (tabS xs xs.length) ((j : Nat) : Int) = rowS xs (j : Nat) xs.length := tabS_rd xs xs.length (by omega)
  rw [e]
  refine ⟨rowD_len _ _ _ _, fun k k0 k1 => ?_⟩
  obtain ⟨m, rfl⟩ := Int.eq_ofNat_of_zero_le k0
  exact rowD_rd xs _ _ xs.length (by omega)
set_option maxHeartbeats 4000000 in
set_option maxRecDepth 10000 in
theorem spec_ShortestRoute_c {A : Option Addr} {n c : Nat} {xs : List Sp} (w : World) (hr : Kd.C kSp w A n xs) (hc : n ≤ c) : Calls Try.prog 29 #[.slice A n c] w fun e w' => ∃ v : Value, e = .returned (.tuple #[v, .int .i64 (RShort xs).2.1, .int .i64 (RShort xs).2.2]) ∧ Kd.R (Kd.int .i64) 2 w' w.heap.size (fun _ => True) v (RShort xs).1 ∧ Below w.heap.size w w' := by
  obtain rfl : xs.length = n := hr.1
  replace hr := Aside0.mk hr
  have HB := Aside0.mk (Below.refl w.heap.size w)
  obtain ⟨cd, hcd⟩ : ∃ v, codL xs 0 7 = v := ⟨_, rfl⟩
  replace hcd := Aside0.mk hcd
  by_cases z : cd = 0
  · subst z
    obtain ⟨ok, h7, _⟩ := codL_0 hcd.out
    by_cases z0 : xs.length = 0
    · have f := Aside0.mk (show RShort xs = ([], 0, 0) by unfold RShort; rw [if_pos hcd.out, if_pos z0])
      obtain rfl : xs = [] := List.eq_nil_of_length_eq_zero z0
      clear z0 h7 ok
      go_enter Try.func29, Try.ntmps29
      go_wp2_with (fail)
      refine (spec_l05Code_c _ hr.out hcd.out).mono ?_
      rintro e w1 ⟨rfl, hb⟩
      have HB := Aside0.mk (show Below w.heap.size w w1 from below_step ( by repeat (first | (with_reducible first | exact Below.refl _ _ | apply below_alloc | apply pw_below_drewN | apply below_drew1 | (refine below_step ?_ (by assumption))) | exact Below.refl _ _) ) hb)
      clear hb
      go_wp2_with (first | ((with_reducible refine gate_dst (N := 15) rfl ?_); refine Kd.R_lit (Kd.int .i64) _ 2 ?hg (N := 15) ?hd (xs := ([] : List Int)) (inner := []) (ok := fun _ => True) (okp := fun _ => True) ?hr ?hp (fun _ hk => hk) trivial (Below.refl _ _) (Nat.le_refl _) (by simp) ?_; (case hd => rfl); (case hg => rfl); (case hr => first | (go_simp; done) | (go_simp; rfl)); (case hp => exact (Reps.none _ _)); intro v1 w5 ho hb hg_ hnew_; clear hg_ hnew_))
      have HF := Aside0.mk (show Below w.heap.size w w5 from below_step ( by repeat (first | (with_reducible first | exact HB.out | apply below_alloc | apply pw_below_drewN | apply below_drew1) | exact HB.out) ) hb)
      go_ret3
      exact ⟨_, by rw [f.out]; rfl, by rw [f.out]; exact Kd.R_lower ho (below_size ( by repeat (first | (with_reducible first | exact HB.out | apply below_alloc | apply pw_below_drewN | apply below_drew1) | exact HB.out) )), HF.out⟩
    · obtain ⟨L, x, hw⟩ := short_some xs z0
      have f := Aside0.mk (show RShort xs = (L, x, 0) by unfold RShort; rw [if_pos hcd.out, if_neg z0, hw])
      replace hw := Aside0.mk hw
      have z1 : ((xs.length : Int) == 0) = false := by rw [beq_eq_false_iff_ne]; omega
      have n7 : xs.length ≤ 7 := by omega
      have tf := Aside0.mk (table_f (xs := xs) (by omega) ok (Nat.le_refl 200))
      have tl := Aside0.mk (tabS_len xs xs.length)
      go_enter Try.func29, Try.ntmps29
      go_wp2_with (fail)
      refine (spec_l05Code_c _ hr.out hcd.out).mono ?_
      rintro e w1 ⟨rfl, hb⟩
      have HB := Aside0.mk (show Below w.heap.size w w1 from below_step ( by repeat (first | (with_reducible first | exact Below.refl _ _ | apply below_alloc | apply pw_below_drewN | apply below_drew1 | (refine below_step ?_ (by assumption))) | exact Below.refl _ _) ) hb)
      clear hb
      go_wp2_with (fail)
      refine (PFnExactUnderCap.spec_l05Table.calls 200 A c xs _ _ (Kd.C_below hr.out ( by repeat (first | (with_reducible first | exact HB.out | apply below_alloc | apply pw_below_drewN | apply below_drew1) | exact HB.out) )) hc tf.out).mono ?_
      rintro e w2 ⟨v, rfl, hS, hb⟩
      have HB := Aside0.mk (show Below w.heap.size w w2 from below_step ( by repeat (first | (with_reducible first | exact HB.out | apply below_alloc | apply pw_below_drewN | apply below_drew1) | exact HB.out) ) hb)
      clear hb
      obtain ⟨T, cT, e1⟩ := Kd.R_slice (Kd.S_R hS)
      subst e1
      rw [tl.out] at hS
      rw [tl.out]
      have hq := Kd.R_reads' (Kd.S_R hS)
      have hcT := hq.2.1
      have hT := hq.2.2
      rw [tl.out] at hT
      have hT := Aside0.mk hT
      clear hS hq
      go_wp2_with (first | ((with_reducible refine gate_dst (N := 21) rfl ?_); refine Kd.R_lit (Kd.int .i64) _ 2 ?hg (N := 21) ?hd (xs := ([0] : List Int)) (inner := [.int .i64 0]) (ok := fun _ => True) (okp := fun _ => True) ?hr ?hp (fun _ hk => hk) trivial (Below.refl _ _) (Nat.le_refl _) (by simp) ?_; (case hd => rfl); (case hg => rfl); (case hr => first | (go_simp; done) | (go_simp; rfl)); (case hp => exact (Reps.one (show Kd.M (Kd.int .i64) _ _ _ 0 [.int .i64 0] from rfl) (Reps.none _ _))); intro v1 w5 ho hb hg_ hnew_; clear hg_ hnew_))
      go_wp2_with (fail)
      have hG5 := blk_below (blk_new w2 (.cells #[.slice T xs.length cT, .slice none 0 0, .int .i64 (-1)] 93)) hb
      have hB5 : Below w2.heap.size w2 w5 := below_step (below_alloc (Below.refl _ _) _) hb
      refine (walk_c w2 (d := dF xs) hT.out hcT n7 (Nat.le_refl _) (rows_ok xs) (dF_bd xs) (xs.length - 1) w5 v1 [0] 0 none (ord_one (by omega)) (by simp) (by show 1 + _ = _; omega) (Int.le_refl 0) (by simp) (Kd.R_lower (Kd.R_mono (Kd.R_bound ho) (fun k hk => by have := hk.2.1; simp at this; omega)) (by simp)) ⟨_, _, hG5, rfl, rfl⟩ hB5).mono ?_
      rintro e w6 ⟨rfl, hI, hK, hB6⟩
      rw [hw.out] at hI
      obtain ⟨v6, l6, hG6, hm6⟩ := hI
      obtain ⟨rfl, x0, hR6⟩ := hm6
      have c1 := (blk_cell hG6 1).trans (by rfl : _ = some v6)
      have c2 := (blk_cell hG6 2).trans (by rfl : _ = some (Value.int .i64 l6))
      have c3 := blk_frozen hG6 1
      have c4 := blk_frozen hG6 2
      have HF := Aside0.mk (show Below w.heap.size w w6 from below_step HB.out hB6)
      have HR := Aside0.mk (Kd.R_mono (Kd.R_lower hR6 (below_size HB.out)) (fun _ _ => trivial))
      clear hG6 hR6 hK hB6 hG5 hB5 ho hb
      go_wp2
      try (go_quiet (fail); try go_wp2)
      go_ret3
      exact ⟨_, by rw [f.out]; rfl, by rw [f.out]; (with_reducible repeat (first | apply Kd.R_alloc | apply Kd.R_drewN | apply Kd.R_drew)); exact HR.out, by repeat (first | exact HF.out | apply pw_below_drewN | apply below_drew1)⟩
  · have f := Aside0.mk (show RShort xs = ([], 0, cd) by unfold RShort; rw [hcd.out, if_neg z])
    have z1 : (cd == 0) = false := by simp [z]
    go_enter Try.func29, Try.ntmps29
    go_wp2_with (fail)
    refine (spec_l05Code_c _ hr.out hcd.out).mono ?_
    rintro e w1 ⟨rfl, hb⟩
    have HB := Aside0.mk (show Below w.heap.size w w1 from below_step ( by repeat (first | (with_reducible first | exact Below.refl _ _ | apply below_alloc | apply pw_below_drewN | apply below_drew1 | (refine below_step ?_ (by assumption))) | exact Below.refl _ _) ) hb)
    clear hb
    go_wp2
    go_ret3
    exact ⟨_, by rw [f.out]; rfl, by rw [f.out]; exact Kd.R_nil .., by repeat (first | (with_reducible first | exact HB.out | apply below_alloc | apply pw_below_drewN | apply below_drew1) | exact HB.out)⟩
end Go.Proofs.Ytkfbbaaniglaeaa.Con
