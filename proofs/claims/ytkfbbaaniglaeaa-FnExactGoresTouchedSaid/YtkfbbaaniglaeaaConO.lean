/- The nearest of places, and the two that are farthest apart. Conditions: as stated. -/
import Derived.Test.YtkfbbaaniglaeaaConN
namespace Go.Proofs.Ytkfbbaaniglaeaa.Con
open Go.RowKit Go.Proofs.YtkfbbaaniglaeaaW.PrintWords Go.Proofs.YtkfbbaaniglaeaaW.PrintLast Go.Proofs.YtkfbbaaniglaeaaW.PrintMore Go.Proofs.Ytkfbbaaniglaeaa.Mth
attribute [local go_sem] max2_int min2_int max_two min_two max_three min_three
set_option linter.unusedVariables false
set_option linter.unusedSimpArgs false
/-- The place of the nearest of the first n (the first of equals). -/
noncomputable def nearF (xs : List Sp) (a b : Int) : Nat → Int
  | 0 => 0
  | n + 1 => if dist (rdS xs n).f0 (rdS xs n).f1 a b < dist (rdS xs (nearF xs a b n)).f0 (rdS xs (nearF xs a b n)).f1 a b then n else nearF xs a b n
theorem nearF_bd (xs : List Sp) (a b : Int) (n : Nat) : 0 ≤ nearF xs a b n ∧ nearF xs a b n ≤ n := by
  induction n with
  | zero => exact ⟨Int.le_refl _, Int.le_refl _⟩
  | succ n ih => unfold nearF; split <;> omega
theorem nearF_lt (xs : List Sp) (a b : Int) (n : Nat) : nearF xs a b (n + 1) < n + 1 := by
  have := nearF_bd xs a b n
  unfold nearF; split <;> omega
theorem near_1 (xs : List Sp) (a b : Int) : nearF xs a b 1 = 0 := by unfold nearF; split <;> simp [nearF]
noncomputable def RNearestSpot (xs : List Sp) (a b : Int) : Int × Int := if sOk a b then (if codL xs 1 12 = 0 then (nearF xs a b xs.length, 0) else (0, codL xs 1 12)) else (0, 1)
theorem cell_after {W0 w1 : World} {p : Addr} {v : Value} (hb : Below W0.heap.size W0 w1) (h : W0.cell? p = some v) : w1.cell? p = some v := (hb.cell (World.block_lt_of_cell? W0 _ h)).trans h
set_option maxHeartbeats 4000000 in
set_option maxRecDepth 100000 in
theorem impl_NearestSpot_c {A : Option Addr} {n c : Nat} {xs : List Sp} {a b : Int} (w : World) (hr : Kd.C kSp w A n xs) : Calls Try.prog 37 #[.slice A n c, .agg #[.int .i64 a, .int .i64 b]] w fun e w' => e = .returned (.tuple #[.int .i64 (RNearestSpot xs a b).1, .int .i64 (RNearestSpot xs a b).2]) ∧ Below w.heap.size w w' := by
  have hl := hr.1
  rcases dec (sOk a b) with ⟨ha, ba⟩ | ⟨ha, ba⟩
  · by_cases h : codL xs 1 12 = 0
    · obtain ⟨ho, h1, h2⟩ := codL_0 h
      have f := Aside0.mk (show RNearestSpot xs a b = (nearF xs a b n, 0) by unfold RNearestSpot; rw [if_pos ha, if_pos h, hl])
      have h := Aside0.mk h
      have ha := Aside0.mk ha
      have ho := Aside0.mk ((okL_iff xs).1 ho)
      have n1 : 1 ≤ n := by omega
      have n2 : n ≤ 12 := by omega
      have hl := Aside0.mk hl
      have hr := Aside0.mk hr
      clear h1 h2
      go_enter Try.func37, Try.ntmps37
      go_wp2_with (fail)
      refine (impl_ValidSpot_c ba.out _).mono ?_
      rintro e w1 ⟨rfl, hb⟩
      have BK := Aside0.mk (blk_below (blk_new w (.cells #[.int .i64 a, .int .i64 b] 52)) hb)
      have HB := Aside0.mk (show Below w.heap.size w w1 from below_step ( by repeat (first | (with_reducible first | exact Below.refl _ _ | apply below_alloc | apply pw_below_drewN | apply below_drew1 | (refine below_step ?_ (by assumption))) | exact Below.refl _ _) ) hb)
      clear hb
      go_wp2_with (fail)
      refine (impl_spotsCode_c _ (Kd.C_below hr.out HB.out) h.out).mono ?_
      rintro e w2 ⟨rfl, hb⟩
      have BK := Aside0.mk (blk_below BK.out hb)
      have HB := Aside0.mk (below_step HB.out hb)
      clear hb
      go_wp2_with (fail)
      go_loopw [7, 20] (fun u k wr => ∃ i : Nat, i ≤ n ∧ k = .int .i64 i ∧ u = .int .i64 (nearF xs a b i) ∧ wr.cell? ⟨w.heap.size, 0, none⟩ = some (.int .i64 a) ∧ wr.cell? ⟨w.heap.size, 1, none⟩ = some (.int .i64 b) ∧ w.heap.size < wr.heap.size ∧ Aside0 (Below w.heap.size w wr)) (fun _ k _ => ((n : Int) - intOf k).toNat)
      case atStart => exact ⟨0, by omega, rfl, rfl, (blk_cell BK.out 0).trans (by rfl), (blk_cell BK.out 1).trans (by rfl), blk_lt BK.out, HB⟩
      case round =>
        clear HB BK
        obtain ⟨i, hi, rfl, rfl, c0, c1, gl, HB⟩ := hrel
        obtain ⟨m0, m1⟩ := nearF_bd xs a b i
        by_cases hlt : i < n
        · have q := HB.out.size
          have hz : (i : Int) < (n : Int) := by omega
          obtain ⟨ad, e1, x0, x1⟩ := PFnExactUnderCap.at_T52 (Kd.C_below hr.out HB.out) (i : Int) (by omega) hz
          subst e1
          rw [Int.toNat_natCast] at x0 x1
          have g := Aside0.mk (show nearF xs a b (i + 1) = if dist (rdS xs i).f0 (rdS xs i).f1 a b < dist (rdS xs (nearF xs a b i)).f0 (rdS xs (nearF xs a b i)).f1 a b then (i : Int) else nearF xs a b i from rfl)
          generalize nearF xs a b i = m at *
          have s1 := Aside0.mk (ho.out i (by have := hl.out; omega))
          have s0 := Aside0.mk (show sOk (rdS xs m).f0 (rdS xs m).f1 by have := ho.out m.toNat (by have := hl.out; omega); rwa [Int.toNat_of_nonneg m0] at this)
          obtain ⟨ad', e2, y0, y1⟩ := PFnExactUnderCap.at_T52 (Kd.C_below hr.out HB.out) m m0 (by omega)
          obtain rfl : ad = ad' := by injection e2
          clear e2
          have m2 : m < n := by omega
          have ad_l := sp_lt (Kd.C_below hr.out HB.out) (by omega)
          have BA : Below wr.heap.size wr (wr.alloc (.cells #[.int .i64 (rdS xs i).f0, .int .i64 (rdS xs i).f1] 52)).drew := below_drew1 (below_alloc (Below.refl wr.heap.size wr) _)
          have i0 : (wr.alloc (.cells #[.int .i64 (rdS xs i).f0, .int .i64 (rdS xs i).f1] 52)).drew.cell? (⟨wr.heap.size, 0, none⟩) = some (.int .i64 ((rdS xs i).f0)) := (blk_cell (blk_new wr (.cells #[.int .i64 ((rdS xs i).f0), .int .i64 ((rdS xs i).f1)] 52)) 0).trans (by rfl)
          have i1 : (wr.alloc (.cells #[.int .i64 (rdS xs i).f0, .int .i64 (rdS xs i).f1] 52)).drew.cell? (⟨wr.heap.size, 1, none⟩) = some (.int .i64 ((rdS xs i).f1)) := (blk_cell (blk_new wr (.cells #[.int .i64 ((rdS xs i).f0), .int .i64 ((rdS xs i).f1)] 52)) 1).trans (by rfl)
          have i2 : (wr.alloc (.cells #[.int .i64 (rdS xs i).f0, .int .i64 (rdS xs i).f1] 52)).drew.cell? (⟨w.heap.size, 0, none⟩) = some (.int .i64 (a)) := cell_after BA (c0)
          have i3 : (wr.alloc (.cells #[.int .i64 (rdS xs i).f0, .int .i64 (rdS xs i).f1] 52)).drew.cell? (⟨w.heap.size, 1, none⟩) = some (.int .i64 (b)) := cell_after BA (c1)
          have i4 : (wr.alloc (.cells #[.int .i64 (rdS xs i).f0, .int .i64 (rdS xs i).f1] 52)).drew.cell? (ad.add (m.toNat * 2)) = some (.int .i64 ((rdS xs m).f0)) := cell_after BA (y0)
          have i5 : (wr.alloc (.cells #[.int .i64 (rdS xs i).f0, .int .i64 (rdS xs i).f1] 52)).drew.cell? (⟨(ad.add (m.toNat * 2)).block, (ad.add (m.toNat * 2)).off + 1, none⟩) = some (.int .i64 ((rdS xs m).f1)) := cell_after BA (y1)
          have LB : wr.heap.size + 1 ≤ (wr.alloc (.cells #[.int .i64 (rdS xs i).f0, .int .i64 (rdS xs i).f1] 52)).drew.heap.size := by first | (simp; done) | (simp; omega) | exact Nat.le_refl _
          go_wp2_with (fail)
          go_region_held3 (fun W => W.cell? (⟨wr.heap.size, 0, none⟩) = some (.int .i64 ((rdS xs i).f0)) ∧ W.cell? (⟨wr.heap.size, 1, none⟩) = some (.int .i64 ((rdS xs i).f1)) ∧ W.cell? (⟨w.heap.size, 0, none⟩) = some (.int .i64 (a)) ∧ W.cell? (⟨w.heap.size, 1, none⟩) = some (.int .i64 (b)) ∧ W.cell? (ad.add (m.toNat * 2)) = some (.int .i64 ((rdS xs m).f0)) ∧ W.cell? (⟨(ad.add (m.toNat * 2)).block, (ad.add (m.toNat * 2)).off + 1, none⟩) = some (.int .i64 ((rdS xs m).f1)) ∧ Below wr.heap.size wr W ∧ wr.heap.size + 1 ≤ W.heap.size) (first | ((try go_split_ands); refine ⟨?_, ?_, ?_, ?_, ?_, ?_, ?_, ?_⟩; (first | (with_reducible exact cell_after hb (by with_reducible assumption)) | (with_reducible exact cell_after hb i0) | (with_reducible exact i0) | exact cell_after hb i0 | go_keep); (first | (with_reducible exact cell_after hb (by with_reducible assumption)) | (with_reducible exact cell_after hb i1) | (with_reducible exact i1) | exact cell_after hb i1 | go_keep); (first | (with_reducible exact cell_after hb (by with_reducible assumption)) | (with_reducible exact cell_after hb i2) | (with_reducible exact i2) | exact cell_after hb i2 | go_keep); (first | (with_reducible exact cell_after hb (by with_reducible assumption)) | (with_reducible exact cell_after hb i3) | (with_reducible exact i3) | exact cell_after hb i3 | go_keep); (first | (with_reducible exact cell_after hb (by with_reducible assumption)) | (with_reducible exact cell_after hb i4) | (with_reducible exact i4) | exact cell_after hb i4 | go_keep); (first | (with_reducible exact cell_after hb (by with_reducible assumption)) | (with_reducible exact cell_after hb i5) | (with_reducible exact i5) | exact cell_after hb i5 | go_keep); (first | (with_reducible exact below_step (by with_reducible assumption) hb) | (with_reducible exact below_step BA hb) | (with_reducible exact BA) | exact below_step BA hb | go_keep); (first | (with_reducible exact LB) | (have := hb.size; omega) | (have := hb.size; simp at this; omega) | go_keep)) | go_keep) (first | (go_at_call 134; (first | (with_reducible refine (impl_distance_c s1.out ha.out _).mono ?_) | (with_reducible refine (impl_distance_c s0.out ha.out _).mono ?_)); rintro e w1 ⟨rfl, hb⟩))
          all_goals have HB := Aside0.mk (below_step HB.out (show Below wr.heap.size wr _ by (go_split_ands; assumption)))
          by_cases lt : dist (rdS xs i).f0 (rdS xs i).f1 a b < dist (rdS xs m).f0 (rdS xs m).f1 a b
          · have g2 := Aside0.mk (show nearF xs a b (i + 1) = i by rw [g.out, if_pos lt])
            go_wp2
            go_roundw
            case rel => exact ⟨i + 1, by omega, by go_num, by rw [g2.out], by (go_split_ands; assumption), by (go_split_ands; assumption), by (go_split_ands; omega), HB⟩
            case measure => simp [intOf]; omega
          · have g2 := Aside0.mk (show nearF xs a b (i + 1) = m by rw [g.out, if_neg lt])
            go_wp2
            go_roundw
            case rel => exact ⟨i + 1, by omega, by go_num, by rw [g2.out], by (go_split_ands; assumption), by (go_split_ands; assumption), by (go_split_ands; omega), HB⟩
            case measure => simp [intOf]; omega
        · have e : i = n := by omega
          subst e
          have hz : ¬ (i : Int) < (i : Int) := by omega
          go_wp2
          go_ret2
          exact ⟨pair_eq f.out, HB.out⟩
    · have f := Aside0.mk (show RNearestSpot xs a b = (0, codL xs 1 12) by unfold RNearestSpot; rw [if_pos ha, if_neg h])
      have q : (codL xs 1 12 == 0) = false := by simp [h]
      have hr := Aside0.mk hr
      clear hl h ha
      go_enter Try.func37, Try.ntmps37
      go_wp2_with (fail)
      refine (impl_ValidSpot_c ba.out _).mono ?_
      rintro e w1 ⟨rfl, hb⟩
      have HB := Aside0.mk (show Below w.heap.size w w1 from below_step ( by repeat (first | (with_reducible first | exact Below.refl _ _ | apply below_alloc | apply pw_below_drewN | apply below_drew1 | (refine below_step ?_ (by assumption))) | exact Below.refl _ _) ) hb)
      clear hb
      go_wp2_with (fail)
      refine (impl_spotsCode_c _ (Kd.C_below hr.out HB.out) rfl).mono ?_
      rintro e w2 ⟨rfl, hb⟩
      have HB := Aside0.mk (below_step HB.out hb)
      clear hb
      go_wp2
      go_ret2
      exact ⟨pair_eq f.out, HB.out⟩
  · have f := Aside0.mk (show RNearestSpot xs a b = (0, 1) from if_neg ha)
    have hr := Aside0.mk hr
    clear hl ha
    go_enter Try.func37, Try.ntmps37
    go_wp2_with (fail)
    refine (impl_ValidSpot_c ba.out _).mono ?_
    rintro e w1 ⟨rfl, hb⟩
    have HB := Aside0.mk (show Below w.heap.size w w1 from below_step ( by repeat (first | (with_reducible first | exact Below.refl _ _ | apply below_alloc | apply pw_below_drewN | apply below_drew1 | (refine below_step ?_ (by assumption))) | exact Below.refl _ _) ) hb)
    clear hb
    go_wp2
    go_ret2
    exact ⟨pair_eq f.out, HB.out⟩
end Go.Proofs.Ytkfbbaaniglaeaa.Con
